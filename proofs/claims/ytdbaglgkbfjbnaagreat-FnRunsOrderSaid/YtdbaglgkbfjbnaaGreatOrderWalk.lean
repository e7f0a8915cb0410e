/- The law FnRunsOrder returns true. -/
import Derived.Test.YtdbaglgkbfjbnaaGreatOrderRuns
import Derived.Test.YtdbaglgkbfjbnaaGreatIntFacts
import Derived.Test.YtdbaglgkbfjbnaaGreatOrderOps

set_option linter.unusedVariables false
set_option linter.unusedSimpArgs false
namespace Go.Ev
open Go.Proofs Go.RowKit
theorem order_walk (a0 : Option Addr) (len0 cap0 : Nat) (z0 : List Int) (w : World)
    (w0 : (a0 = none ∧ len0 = 0 ∧ cap0 = 0 ∧ z0 = []) ∨ ∃ x, a0 = some x ∧ len0 ≤ cap0 ∧ cap0 ≤ maxLen ∧ z0.length = cap0 ∧ (∀ i, i < z0.length → w.cell? (x.add i) = some (.int .u8 (z0.getD i 0))) ∧ ∀ n ∈ z0, (Lit.int .u8 n).wf = true) :
    Calls Tryz.prog 7 #[.slice a0 len0 cap0] w fun e w' => e = .returned (.bool true) ∧ Below w.heap.size w w' := by
  obtain ⟨l, rfl, hc, ha, hcell⟩ := code_bytes a0 len0 cap0 z0 w w0
  obtain ⟨x, y, hx, hy, hn, hd⟩ : ∃ x y : List UInt8, x.length ≤ 301 ∧ y.length ≤ 301 ∧ (l.length > 1048576 → x = [] ∧ y = []) ∧ (l.length ≤ 1048576 → ∃ m, Dv.R m 27 (.agg [Dv.bl l]) = some (.agg [.str x, .str y])) := by
    by_cases h : l.length ≤ 1048576
    · obtain ⟨x, y, h1, h2, h3⟩ := Dv.fDraw (m := 200) (Nat.le_refl _) l (by omega)
      exact ⟨x, y, h2, h3, fun h' => by omega, fun _ => ⟨200, h1⟩⟩
    · exact ⟨[], [], by simp, by simp, fun _ => ⟨rfl, rfl⟩, fun h' => absurd h' h⟩
  have hi := Dv.f28 (m := 400) (by omega) x y
  have hs := Dv.f29 (m := 400) x y (by omega) (by omega) (by omega) (by omega) (by omega)
  have hbad : (!(Dv.isIntL x && Dv.isIntL y)) = decide ((if Dv.isIntL x = true ∧ Dv.isIntL y = true then Dv.cmpI (Dv.Z x) (Dv.Z y) else -2) = -2) := by
    by_cases h : Dv.isIntL x = true ∧ Dv.isIntL y = true
    · rw [if_pos h, h.1, h.2]
      symm
      apply decide_eq_false
      unfold Dv.cmpI
      split
      · omega
      · split <;> omega
    · rw [if_neg h]
      revert h
      cases Dv.isIntL x <;> cases Dv.isIntL y <;> simp
  generalize hz : (if Dv.isIntL x = true ∧ Dv.isIntL y = true then Dv.cmpI (Dv.Z x) (Dv.Z y) else -2) = z at hi hs hbad
  have hcan : canOrder (cfgOf l.length x y true z) = true := by
    unfold canOrder
    rw [canA hn]
    rfl
  refine intLaw_run (o := ⟨27, 28, 29⟩) (d := ⟨a0, l.length, cap0, ⟨x.toArray⟩, ⟨y.toArray⟩, ⟨#[]⟩, true, z⟩) (cfg_fits hbad) (intFit (x := x) (y := y) rfl rfl rfl rfl (fun hle w' hw' => ?_) (fun w => Dv.strsInt rfl hi w) (fun w => Dv.strsInt rfl hs w) ?_) (runsOrder _ hcan)
  · obtain ⟨m', hm'⟩ := hd hle
    exact Dv.drawCalls rfl hm' w w' hw' a0 cap0 hc ha hcell
  · show (0 : Nat) ≤ 400
    omega
end Go.Ev
