/- From the kernel's run to the call; the code slice of a law. -/
import Derived.Test.YtdbaglgkbfjbnaaGreatEvT
import Derived.Test.YtdbaglgkbfjbnaaGreatEvP
import Derived.Test.YtdbaglgkbfjbnaaGreatEvQ

set_option linter.unusedVariables false
set_option linter.unusedSimpArgs false
namespace Go.Ev
open Go.Proofs Go.Proofs.YtdbaglgkbfjbnaaGreat.PFnRunsTexts Go.RowKit
open Go.Proofs.YtdbaglgkbfjbnaaGreatW.PrintWords

def emptyH : Heap := { next := 0, low := 0, tr := .nil }

theorem mixed : Tryz.prog.follows .mixedOrders = true := by kernel_rfl

theorem rel_empty (E : Env) (W : World) (h : ∀ b o, E.pins b = some o → W.heap[b]? = some o) : Rel E (fun _ => none) emptyH W where
  blk := by intro i b m B hi; cases hi
  inj := by intro i j b m m' B C hi; cases hi
  dom := by intro i b m hi; cases hi
  pin := fun b o hb => ⟨h b o hb, fun i m hi => by cases hi⟩

theorem below_of_step {ρ : Rho} {H : Heap} {w w' : World} (h : Step (fun _ => none) emptyH w ρ H w') : Below w.heap.size w w' where
  os := h.os
  tape := h.tape
  output := h.output
  size := h.size
  block := fun k hk => h.keep k hk (by rintro ⟨i, m, B, hi, _⟩; cases hi)

/-- A run of the evaluator from the empty heap to true: the call returns true, and nothing that was there has changed. -/
theorem run_true {E : Env} {F : Facts} {f : FuncId} {args : List AV} {vs : Array Value} {W : World} (hE : E.Ok) (hF : FactsOk E Tryz.prog F) (hrun : Q.callK Tryz.prog F plansT 1000 60 f args emptyH (fun r _ => Q.eqV r (.bool true)) = true)
    (hp : ∀ b o, E.pins b = some o → W.heap[b]? = some o) (hv : vals E (fun _ => none) args vs.toList) : Calls Tryz.prog f vs W fun e w' => e = .returned (.bool true) ∧ Below W.heap.size W w' := by
  obtain ⟨r, H', h1, h2⟩ := Q.call_ok plans_ok 1000 60 f args emptyH _ hrun
  have hr := Q.eqV_ok _ _ h2
  subst hr
  refine (ev_ok hE hF plans_ok mixed 1000 60 f args emptyH _ H' h1 _ W vs (rel_empty E W hp) hv).mono ?_
  rintro e w' ⟨ρ', v, rfl, hb, _, hs⟩
  rw [val_bool hb]
  exact ⟨rfl, below_of_step hs⟩

/-- The bytes of a code slice; they stay readable wherever nothing that was there has changed. -/
theorem code_slice (a0 : Option Addr) (len0 cap0 : Nat) (z0 : List Int) (w : World)
    (w0 : (a0 = none ∧ len0 = 0 ∧ cap0 = 0 ∧ z0 = []) ∨ ∃ x, a0 = some x ∧ len0 ≤ cap0 ∧ cap0 ≤ maxLen ∧ z0.length = cap0 ∧ (∀ i, i < z0.length → w.cell? (x.add i) = some (.int .u8 (z0.getD i 0))) ∧ ∀ n ∈ z0, (Lit.int .u8 n).wf = true) :
    ∃ l : List Int, len0 = l.length ∧ l.length ≤ cap0 ∧ (∀ x ∈ l, (Lit.int .u8 x).wf = true) ∧ ∀ W : World, (∀ (b : Nat) (o : Obj), w.heap[b]? = some o → W.heap[b]? = some o) → Kd.C (Kd.int .u8) W a0 l.length l := by

  rcases w0 with ⟨rfl, rfl, rfl, rfl⟩ | ⟨x, rfl, hl, hm', hz, hcell, hw⟩
  · exact ⟨[], rfl, Nat.zero_le _, fun x hx => by simp at hx, fun W hW => Kd.C_of_reads (d := (0 : Int)) (h1 := fun _ => rfl) (ReadsInt.nil W .u8)⟩
  · have e : (z0.take len0).length = len0 := by simp; omega
    refine ⟨z0.take len0, e.symm, by rw [e]; exact hl, fun y hy => hw y (List.mem_of_mem_take hy), fun W hW => ?_⟩
    have hr : ReadsInt W .u8 (some x) (z0.take len0).length (z0.take len0) := by
      have hb : len0 ≤ maxLen := Nat.le_trans hl hm'
      refine ⟨rfl, by rw [e]; simpa [maxLen] using hb, fun _ => ⟨x, rfl, fun j hj => ?_⟩⟩
      rw [e] at hj
      rw [pinned_cell hW (hcell j (by omega))]
      simp [List.getD, List.getElem?_take, hj]
    exact Kd.C_of_reads (d := (0 : Int)) (h1 := fun _ => rfl) hr

theorem bytes_wf {l : List Int} (hw : ∀ x ∈ l, (Lit.int .u8 x).wf = true) : Bytes l := by
  intro x hx
  have := hw x hx
  simp [Lit.wf, IntKind.min, IntKind.max, IntKind.signed, IntKind.bits] at this
  omega
end Go.Ev
