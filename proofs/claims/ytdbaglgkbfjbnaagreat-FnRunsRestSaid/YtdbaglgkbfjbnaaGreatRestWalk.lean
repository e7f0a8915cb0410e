/- The law FnRunsRest returns true. -/
import Derived.Test.YtdbaglgkbfjbnaaGreatRestRuns
import Derived.Test.YtdbaglgkbfjbnaaGreatIntFacts
import Derived.Test.YtdbaglgkbfjbnaaGreatRestOps

set_option linter.unusedVariables false
set_option linter.unusedSimpArgs false
namespace Go.Ev
open Go.Proofs Go.RowKit
theorem rest_walk (a0 : Option Addr) (len0 cap0 : Nat) (z0 : List Int) (w : World)
    (w0 : (a0 = none ∧ len0 = 0 ∧ cap0 = 0 ∧ z0 = []) ∨ ∃ x, a0 = some x ∧ len0 ≤ cap0 ∧ cap0 ≤ maxLen ∧ z0.length = cap0 ∧ (∀ i, i < z0.length → w.cell? (x.add i) = some (.int .u8 (z0.getD i 0))) ∧ ∀ n ∈ z0, (Lit.int .u8 n).wf = true) :
    Calls Tryz.prog 12 #[.slice a0 len0 cap0] w fun e w' => e = .returned (.bool true) ∧ Below w.heap.size w w' := by
  refine textLaw (o := ⟨45, 46, 47⟩) (by decide) runsRest rfl rfl rfl (fun l hl => ?_) (fun x y => if Dv.Z y = 0 then none else some (Dv.dmR (Dv.Z x) (Dv.Z y))) (fun x y hx hy => ⟨400, ?_, ?_⟩) (fun n x y hx hy hn => ?_) a0 len0 cap0 z0 w w0
  · obtain ⟨x, y, h1, h2, h3⟩ := Dv.fDraw (m := 200) (Nat.le_refl _) l (by omega)
    exact ⟨200, x, y, h1, h2, h3⟩
  · exact Dv.f46 (by omega) x y
  · exact Dv.f47 x y (by omega) (by omega) (by omega) (by omega) (by omega)
  · unfold canRest
    rw [canA hn, Bool.true_and]
    by_cases h : Dv.isIntL x = true ∧ Dv.isIntL y = true
    · rw [if_pos h, if_pos h]
      have hz : decide ((⟨y.toArray⟩ : ByteArray) = ⟨#[48]⟩) = decide (Dv.Z y = 0) := by
        apply decide_eq_decide.2
        rw [← Dv.zero_iff h.2]
        constructor
        · intro e
          have := congrArg (fun b : ByteArray => b.data.toList) e
          simpa using this
        · rintro rfl; rfl
      by_cases h0 : Dv.Z y = 0
      · rw [if_pos h0]
        simp [cfgOf, h.1, h.2, hz, h0, Dv.opOk]
        exact (Dv.zero_iff h.2).2 h0
      · rw [if_neg h0]
        have hs : (Dv.canon (Dv.dmR (Dv.Z x) (Dv.Z y)).natAbs).length ≤ 40 := Dv.dmR_Sm h0 (Dv.Z_Sm h.2)
        simp [cfgOf, h.1, h.2, hz, h0, Dv.opOk, hs]
        exact fun e => h0 ((Dv.zero_iff h.2).1 e)
    · rw [if_neg h, if_neg h]
      simp only [cfgOf, Dv.opOk]
      revert h
      cases Dv.isIntL x <;> cases Dv.isIntL y <;> simp
end Go.Ev
