/- The law FnRunsFind returns true. -/
import Derived.Test.YtdbaglgkbfjbnaaGreatEvW
import Derived.Test.YtdbaglgkbfjbnaaGreatFindFacts
import Derived.Test.YtdbaglgkbfjbnaaGreatFindRuns

set_option linter.unusedVariables false
set_option linter.unusedSimpArgs false
namespace Go.Ev
open Go.Proofs Go.Proofs.YtdbaglgkbfjbnaaGreat.PFnRunsTexts Go.RowKit
open Go.Proofs.YtdbaglgkbfjbnaaGreatW.PrintWords

theorem findLaw_run {d : Drawn} {W : World} {l : List Int} {k : Nat} (hd : d.Fit W l k) : Calls Tryz.prog 3 #[.slice d.a d.n d.cap] W fun e w' => e = .returned (.bool true) ∧ Below W.heap.size W w' := by
  let c : FCfg := ⟨decide (d.n > 1048576), decide (d.s.size > 400), decide (d.p.size > 400), decide (d.s = d.p), decide (d.p.size = 0), decide (0 ≤ Lib.indexB d.s d.p)⟩
  have hf : c.fits d := ⟨rfl, rfl, rfl, rfl, rfl, rfl⟩
  exact run_true (d.ok (pinsOf W)) (findFacts_ok hf hd) (findRuns c) (fun b o h => h) (by simp only [vals, val]; exact ⟨_, _, rfl, rfl, rfl⟩)

/-- The law, from a code slice of bytes. -/
theorem find_walk (a0 : Option Addr) (len0 cap0 : Nat) (z0 : List Int) (w : World)
    (w0 : (a0 = none ∧ len0 = 0 ∧ cap0 = 0 ∧ z0 = []) ∨ ∃ x, a0 = some x ∧ len0 ≤ cap0 ∧ cap0 ≤ maxLen ∧ z0.length = cap0 ∧ (∀ i, i < z0.length → w.cell? (x.add i) = some (.int .u8 (z0.getD i 0))) ∧ ∀ n ∈ z0, (Lit.int .u8 n).wf = true)
    (y0 : len0 * 1 ≤ 140737488351232) (hm : ∃ m, w.cell? ⟨0, 0, none⟩ = some (.int .i64 m)) :
    Calls Tryz.prog 3 #[.slice a0 len0 cap0] w fun e w' => e = .returned (.bool true) ∧ Below w.heap.size w w' := by
  obtain ⟨l, rfl, hc, hw, hreads⟩ := code_slice a0 len0 cap0 z0 w w0
  have hB := bytes_wf hw
  by_cases hn : l.length ≤ 1048576
  · obtain ⟨k, s, t, hk, hs, ht⟩ := drawTextFind_ok hB (by omega)
    exact findLaw_run (d := ⟨a0, l.length, cap0, s, t⟩) (k := k) ⟨rfl, hreads, hc, fun _ => hk, hs, ht, hm⟩
  · exact findLaw_run (d := ⟨a0, l.length, cap0, ⟨#[]⟩, ⟨#[]⟩⟩) (k := 0) ⟨rfl, hreads, hc, fun h => absurd h hn, Nat.zero_le _, Nat.zero_le _, hm⟩
end Go.Ev
