/- The law FnRunsMany returns true. -/
import Derived.Test.YtdbaglgkbfjbnaaGreatEvW
import Derived.Test.YtdbaglgkbfjbnaaGreatManyFacts
import Derived.Test.YtdbaglgkbfjbnaaGreatManyRuns

set_option linter.unusedVariables false
set_option linter.unusedSimpArgs false
namespace Go.Ev
open Go.Proofs Go.Proofs.YtdbaglgkbfjbnaaGreat.PFnRunsTexts Go.RowKit
open Go.Proofs.YtdbaglgkbfjbnaaGreatW.PrintWords

theorem manyLaw_run {d : MDrawn} {W : World} {l : List Int} {k : Nat} (hd : d.Fit W l k) : Calls Tryz.prog 5 #[.slice d.a d.n d.cap] W fun e w' => e = .returned (.bool true) ∧ Below W.heap.size W w' := by
  let c : MCfg := ⟨decide (d.n > 1048576), decide (d.s.size > 400), decide (d.s.size = 0), (!decide (d.s.size = 0) && manyBig d.s d.i), decide (d.i ≤ 0), decide (d.i < 0), decide (d.i > 1000)⟩
  have hf : c.fits d := ⟨rfl, rfl, rfl, rfl, rfl, rfl, rfl⟩
  have hc : c.can = true := by
    show (!(decide (d.s.size = 0) && (!decide (d.s.size = 0) && manyBig d.s d.i)) && !(decide (d.i < 0) && !decide (d.i ≤ 0)) && !(decide (d.i > 1000) && decide (d.i ≤ 0))) = true
    have e1 : (decide (d.s.size = 0) && (!decide (d.s.size = 0) && manyBig d.s d.i)) = false := by cases decide (d.s.size = 0) <;> simp
    have e2 : (decide (d.i < 0) && !decide (d.i ≤ 0)) = false := by
      by_cases h : d.i < 0
      · rw [decide_eq_true (show d.i ≤ 0 by omega)]; simp
      · rw [decide_eq_false h]; simp
    have e3 : (decide (d.i > 1000) && decide (d.i ≤ 0)) = false := by
      by_cases h : d.i ≤ 0
      · rw [decide_eq_false (show ¬ d.i > 1000 by omega)]; simp
      · rw [decide_eq_false h]; simp
    rw [e1, e2, e3]; rfl
  exact run_true (d.ok (pinsOf W)) (manyFacts_ok hf hd) (manyRuns c hc) (fun b o h => h) (by simp only [vals, val]; exact ⟨_, _, rfl, rfl, rfl⟩)

/-- The law, from a code slice of bytes. -/
theorem many_walk (a0 : Option Addr) (len0 cap0 : Nat) (z0 : List Int) (w : World)
    (w0 : (a0 = none ∧ len0 = 0 ∧ cap0 = 0 ∧ z0 = []) ∨ ∃ x, a0 = some x ∧ len0 ≤ cap0 ∧ cap0 ≤ maxLen ∧ z0.length = cap0 ∧ (∀ i, i < z0.length → w.cell? (x.add i) = some (.int .u8 (z0.getD i 0))) ∧ ∀ n ∈ z0, (Lit.int .u8 n).wf = true)
    (y0 : len0 * 1 ≤ 140737488351232) (hm : ∃ m, w.cell? ⟨0, 0, none⟩ = some (.int .i64 m)) :
    Calls Tryz.prog 5 #[.slice a0 len0 cap0] w fun e w' => e = .returned (.bool true) ∧ Below w.heap.size w w' := by
  obtain ⟨l, rfl, hc, hw, hreads⟩ := code_slice a0 len0 cap0 z0 w w0
  have hB := bytes_wf hw
  obtain ⟨k, s, i, hk, hs, hi⟩ := drawTextMany_ok hB
  exact manyLaw_run (d := ⟨a0, l.length, cap0, s, i⟩) (k := k) ⟨rfl, hreads, hc, fun _ => hk, hs, hi⟩
end Go.Ev
