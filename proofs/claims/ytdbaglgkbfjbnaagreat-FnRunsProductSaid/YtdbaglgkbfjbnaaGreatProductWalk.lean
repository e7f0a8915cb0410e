/- The law FnRunsProduct returns true. -/
import Derived.Test.YtdbaglgkbfjbnaaGreatProductRuns
import Derived.Test.YtdbaglgkbfjbnaaGreatIntFacts
import Derived.Test.YtdbaglgkbfjbnaaGreatProductOps

set_option linter.unusedVariables false
set_option linter.unusedSimpArgs false
namespace Go.Ev
open Go.Proofs Go.RowKit
theorem product_walk (a0 : Option Addr) (len0 cap0 : Nat) (z0 : List Int) (w : World)
    (w0 : (a0 = none ∧ len0 = 0 ∧ cap0 = 0 ∧ z0 = []) ∨ ∃ x, a0 = some x ∧ len0 ≤ cap0 ∧ cap0 ≤ maxLen ∧ z0.length = cap0 ∧ (∀ i, i < z0.length → w.cell? (x.add i) = some (.int .u8 (z0.getD i 0))) ∧ ∀ n ∈ z0, (Lit.int .u8 n).wf = true) :
    Calls Tryz.prog 8 #[.slice a0 len0 cap0] w fun e w' => e = .returned (.bool true) ∧ Below w.heap.size w w' := by
  refine textLaw (o := ⟨31, 32, 33⟩) (by decide) runsProduct rfl rfl rfl (fun l hl => ?_) (fun x y => some (Dv.Z x * Dv.Z y)) (fun x y hx hy => ⟨400, ?_, ?_⟩) (fun n x y hx hy hn => ?_) a0 len0 cap0 z0 w w0
  · obtain ⟨x, y, h1, h2, h3⟩ := Dv.fDraw (m := 200) (Nat.le_refl _) l (by omega)
    exact ⟨200, x, y, h1, h2, h3⟩
  · rw [Dv.f32 (by omega)]
    by_cases h : Dv.isIntL x = true ∧ Dv.isIntL y = true
    · rw [if_pos h, if_pos h, Dv.fit_op]
    · rw [if_neg h, if_neg h]; rfl
  · rw [Dv.f33 x y (by omega) (by omega) (by omega) (by omega) (by omega)]
    by_cases h : Dv.isIntL x = true ∧ Dv.isIntL y = true
    · rw [if_pos h, if_pos h, Dv.fit_op]
    · rw [if_neg h, if_neg h]; rfl
  · unfold canProduct
    rw [canA hn, Bool.true_and]
    by_cases h : Dv.isIntL x = true ∧ Dv.isIntL y = true
    · rw [if_pos h, if_pos h]
      simp [cfgOf, h.1, h.2]
    · rw [if_neg h, if_neg h]
      simp only [cfgOf, Dv.opOk]
      revert h
      cases Dv.isIntL x <;> cases Dv.isIntL y <;> simp
end Go.Ev
