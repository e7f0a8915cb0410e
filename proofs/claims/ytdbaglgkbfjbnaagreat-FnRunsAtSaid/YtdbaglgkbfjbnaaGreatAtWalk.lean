/- The law FnRunsAt returns true. -/
import Derived.Test.YtdbaglgkbfjbnaaGreatEvW
import Derived.Test.YtdbaglgkbfjbnaaGreatAtFacts
import Derived.Test.YtdbaglgkbfjbnaaGreatAtRuns

set_option linter.unusedVariables false
set_option linter.unusedSimpArgs false
namespace Go.Ev
open Go.Proofs Go.Proofs.YtdbaglgkbfjbnaaGreat.PFnRunsTexts Go.RowKit
open Go.Proofs.YtdbaglgkbfjbnaaGreatW.PrintWords

theorem atLaw_run {d : ADrawn} {W : World} {l : List Int} {k : Nat} (hd : d.Fit W l k) (hi : d.i ∈ atVals) : Calls Tryz.prog 6 #[.slice d.a d.n d.cap] W fun e w' => e = .returned (.bool true) ∧ Below W.heap.size W w' := by
  let c : ACfg := ⟨decide (d.n > 1048576), decide (d.s.size > 400), atOut d.s d.i⟩
  have hf : c.fits d := ⟨rfl, rfl, rfl⟩
  exact run_true (d.ok (pinsOf W)) (atFacts_ok hf hd) (atRuns c d.i hi) (fun b o h => h) (by simp only [vals, val]; exact ⟨_, _, rfl, rfl, rfl⟩)

/-- The law, from a code slice of bytes. -/
theorem at_walk (a0 : Option Addr) (len0 cap0 : Nat) (z0 : List Int) (w : World)
    (w0 : (a0 = none ∧ len0 = 0 ∧ cap0 = 0 ∧ z0 = []) ∨ ∃ x, a0 = some x ∧ len0 ≤ cap0 ∧ cap0 ≤ maxLen ∧ z0.length = cap0 ∧ (∀ i, i < z0.length → w.cell? (x.add i) = some (.int .u8 (z0.getD i 0))) ∧ ∀ n ∈ z0, (Lit.int .u8 n).wf = true)
    (y0 : len0 * 1 ≤ 140737488351232) (hm : ∃ m, w.cell? ⟨0, 0, none⟩ = some (.int .i64 m)) :
    Calls Tryz.prog 6 #[.slice a0 len0 cap0] w fun e w' => e = .returned (.bool true) ∧ Below w.heap.size w w' := by
  obtain ⟨l, rfl, hc, hw, hreads⟩ := code_slice a0 len0 cap0 z0 w w0
  have hB := bytes_wf hw
  obtain ⟨k, s, i, hk, hs, hi⟩ := drawTextAt_ok hB
  exact atLaw_run (d := ⟨a0, l.length, cap0, s, i⟩) (k := k) ⟨rfl, hreads, hc, fun _ => hk, hs⟩ hi
end Go.Ev
