/- What the evaluator is told for the law FnRunsFind: the facts. -/
import Derived.Test.YtdbaglgkbfjbnaaGreatEvT
import Derived.Test.YtdbaglgkbfjbnaaGreatEvY

set_option linter.unusedVariables false
set_option linter.unusedSimpArgs false
namespace Go.Ev

/-- What is known of the drawn texts. -/
structure FCfg where
  cl : Bool
  sl : Bool
  pl : Bool
  same : Bool
  empty : Bool
  found : Bool

def findBin (c : FCfg) (op : BinOp) (x y : AV) : Option AV :=
  match op, x, y with
  | .gtr, .sym 1, .int .i64 1048576 => some (.bool c.cl)
  | .gtr, .sym 3, .int .i64 400 => some (.bool c.sl)
  | .gtr, .sym 4, .int .i64 400 => some (.bool c.pl)
  | .leq, .sym 3, .int .i64 400 => some (.bool (!c.sl))
  | .leq, .sym 4, .int .i64 400 => some (.bool (!c.pl))
  | .neq, .sym 2, .sym 2 => some (.bool false)
  | .geq, .sym 2, .int .i64 0 => some (.bool c.found)
  | .eql, .str (.atom 0), .str (.atom 1) => some (.bool c.same)
  | .eql, .str (.atom 1), .str (.atom 0) => some (.bool c.same)
  | .eql, .str (.atom 1), .str (.con []) => some (.bool c.empty)
  | _, _, _ => none

def findCall (c : FCfg) (f : FuncId) (args : List AV) (H : Heap) : Option (AV × Heap) :=
  match f, args with
  | 123, [.str (.con l), .int .u8 b] => some (.int .i64 (Lib.indexByte l b.toNat.toUInt8), H)
  | 153, [.ptr (some (i, 1))] => bCopy i H
  | 103, [.ptr (some (i, 1))] => bString i H
  | 13, [.sym 0] => if c.cl then none else some (.tuple [.str (.atom 0), .str (.atom 1)], H)
  | 52, [.str (.atom 0), .str (.atom 1)] => some (if c.empty then .int .i64 0 else .sym 2, H)
  | 52, [.str (.atom 1), .str (.atom 1)] => if c.same then some (.sym 2, H) else none
  | 15, [.str (.atom 0), .str (.atom 1)] => some (if c.sl || c.pl then .int .i64 (-1) else if c.empty then .int .i64 0 else .sym 2, H)
  | _, _ => none

def findFacts (c : FCfg) : Facts :=
  { Facts.none with call := findCall c, lenS := fun i => if i = 0 then some (.sym 1) else none, len := textLen, bin := findBin c }
end Go.Ev

/- The facts of the law FnRunsFind hold. -/
set_option linter.unusedVariables false
set_option linter.unusedSimpArgs false
namespace Go.Ev
open Go.Proofs Go.Proofs.YtdbaglgkbfjbnaaGreat.PFnRunsTexts Go.RowKit
open Go.Proofs.YtdbaglgkbfjbnaaGreatW.PrintWords

def FCfg.fits (c : FCfg) (d : Drawn) : Prop :=
  c.cl = decide (d.n > 1048576) ∧ c.sl = decide (d.s.size > 400) ∧ c.pl = decide (d.p.size > 400) ∧ c.same = decide (d.s = d.p) ∧ c.empty = decide (d.p.size = 0) ∧ c.found = decide (0 ≤ Lib.indexB d.s d.p)

section
variable {c : FCfg} {d : Drawn} {W : World} {l : List Int} {k : Nat}

theorem findBin_ok (hf : c.fits d) : ∀ op x y r, findBin c op x y = some r → ∀ (ρ : Rho) u v, val (d.env (pinsOf W)) ρ x u → val (d.env (pinsOf W)) ρ y v →
    ∃ z, val (d.env (pinsOf W)) ρ r z ∧ ∀ t a b w, (do eqGuard op t a b u v; binOp op t u v).run Tryz.prog w = .ok z w := by
  intro op x y r h ρ u v hu hv
  obtain ⟨f1, f2, f3, f4, f5, f6⟩ := hf
  have l1 : d.p.data.toList.length = d.p.size := by rw [Array.length_toList]; rfl
  have same : d.s = d.p → d.s.data.toList = d.p.data.toList := fun e => by rw [e]
  have same' : d.s.data.toList = d.p.data.toList → d.s = d.p := fun e => by
    cases hs : d.s with
    | mk a => cases hp : d.p with
      | mk b =>
        rw [hs, hp] at e
        simp only at e
        rw [Array.toList_inj.1 e]
  unfold findBin at h
  split at h
  · simp only [Option.some.injEq] at h; subst h
    rw [sym_val hu, val_int hv]
    exact gtr_ok (by rw [f1]; apply decide_eq_decide.2; omega)
  · simp only [Option.some.injEq] at h; subst h
    rw [sym_val hu, val_int hv]
    exact gtr_ok (by rw [f2]; apply decide_eq_decide.2; omega)
  · simp only [Option.some.injEq] at h; subst h
    rw [sym_val hu, val_int hv]
    exact gtr_ok (by rw [f3]; apply decide_eq_decide.2; omega)
  · simp only [Option.some.injEq] at h; subst h
    rw [sym_val hu, val_int hv]
    exact leq_ok (by rw [f2, ← decide_not]; apply decide_eq_decide.2; omega)
  · simp only [Option.some.injEq] at h; subst h
    rw [sym_val hu, val_int hv]
    exact leq_ok (by rw [f3, ← decide_not]; apply decide_eq_decide.2; omega)
  · simp only [Option.some.injEq] at h; subst h
    rw [sym_val hu, sym_val hv]
    refine ⟨.bool false, by simp [val], fun t a b w => ?_⟩
    simp [eqGuard, Drawn.env, binOp, Op.intCmp]
  · simp only [Option.some.injEq] at h; subst h
    rw [sym_val hu, val_int hv]
    refine ⟨.bool c.found, by simp [val], fun t a b w => ?_⟩
    rw [f6]
    simp [eqGuard, Drawn.env, binOp, Op.intCmp]
  · simp only [Option.some.injEq] at h; subst h
    rw [atom_val hu, atom_val hv]
    exact eqs_ok (by rw [f4]; apply decide_eq_decide.2; exact ⟨same, same'⟩)
  · simp only [Option.some.injEq] at h; subst h
    rw [atom_val hu, atom_val hv]
    exact eqs_ok (by rw [f4]; apply decide_eq_decide.2; exact ⟨fun e => (same e).symm, fun e => same' e.symm⟩)
  · simp only [Option.some.injEq] at h; subst h
    rw [atom_val hu, val_str hv]
    refine eqs_ok (b := []) ?_
    rw [f5]
    apply decide_eq_decide.2
    show d.p.size = 0 ↔ d.p.data.toList = []
    rw [← l1, List.length_eq_zero_iff]
  · simp at h

theorem findEq {x y : AV} {r : Bool} (h : findBin c .eql x y = some (.bool r)) : (x = .str (.atom 0) ∧ y = .str (.atom 1) ∧ c.same = r) ∨ (x = .str (.atom 1) ∧ y = .str (.atom 0) ∧ c.same = r) ∨
    (x = .str (.atom 1) ∧ y = .str (.con []) ∧ c.empty = r) := by
  unfold findBin at h
  split at h <;> simp_all

theorem findCall_ok (hf : c.fits d) (hd : d.Fit W l k) : ∀ f args H r H', findCall c f args H = some (r, H') → ∀ (ρ : Rho) (w : World) (vs : Array Value), Rel (d.env (pinsOf W)) ρ H w → vals (d.env (pinsOf W)) ρ args vs.toList →
    Calls Tryz.prog f vs w fun e w' => ∃ ρ' v, e = .returned v ∧ val (d.env (pinsOf W)) ρ' r v ∧ Rel (d.env (pinsOf W)) ρ' H' w' ∧ Step ρ H w ρ' H' w' := by
  intro f args H r H' h ρ w vs hr hv
  obtain ⟨f1, f2, f3, f4, f5, f6⟩ := hf
  unfold findCall at h
  split at h
  · rename_i l b
    simp only [Option.some.injEq, Prod.mk.injEq] at h
    obtain ⟨rfl, rfl⟩ := h
    obtain ⟨u, v, rfl, h1, h2⟩ := two hv
    rw [val_str h1, val_int h2]
    refine (X.indexByte _ b w).mono ?_
    rintro e w' ⟨rfl, rfl⟩
    exact ⟨ρ, _, rfl, by simp [val], hr, Step.refl _ _ _⟩
  · rename_i i
    obtain ⟨u, rfl, h1⟩ := one hv
    exact bCopy_ok h hr h1
  · rename_i i
    obtain ⟨u, rfl, h1⟩ := one hv
    exact bString_ok h hr h1
  · split at h
    · simp at h
    · rename_i hcl
      simp only [Option.some.injEq, Prod.mk.injEq] at h
      obtain ⟨rfl, rfl⟩ := h
      obtain ⟨u, rfl, h1⟩ := one hv
      have hu := sym_val h1
      have hu' : u = .slice d.a l.length d.cap := by rw [hu, ← hd.len]; rfl
      rw [hu']
      have hn : d.n ≤ 1048576 := by
        rw [f1] at hcl
        simp at hcl
        exact hcl
      refine (spec_DrawTextFind.calls k d.a d.cap l d.s d.p w (hd.reads w (pinned hr)) hd.cap (hd.draw hn)).mono ?_
      rintro e w' ⟨rfl, hb⟩
      obtain ⟨p1, p2⟩ := below_rel hr hb
      refine ⟨ρ, _, rfl, ?_, p1, p2⟩
      simp only [val, vals]
      refine ⟨_, rfl, _, _, rfl, ?_, _, _, rfl, ?_, rfl⟩
      · show Value.string d.s = _
        simp only [Env.bytes, Drawn.env, if_true, bytes_back]
      · show Value.string d.p = _
        simp only [Env.bytes, Drawn.env]
        exact congrArg Value.string (bytes_back d.p).symm
  · simp only [Option.some.injEq, Prod.mk.injEq] at h
    obtain ⟨rfl, rfl⟩ := h
    obtain ⟨u, v, rfl, h1, h2⟩ := two hv
    rw [val_atom0 h1, val_atom1 h2]
    obtain ⟨m, hm⟩ := hd.m
    have hs := hd.s
    refine (X.index d.s d.p m w (by omega) (pinned_cell (pinned hr) hm)).mono ?_
    rintro e w' ⟨rfl, rfl⟩
    refine ⟨ρ, _, rfl, ?_, hr, Step.refl _ _ _⟩
    by_cases he : d.p.size = 0
    · have e : c.empty = true := by rw [f5]; simp [he]
      rw [e]
      simp only [if_true, val]
      exact congrArg _ (Lib.zero d.s d.p (.inl (by simp [he])))
    · have e : c.empty = false := by rw [f5]; simp [he]
      rw [e]
      simp only [Bool.false_eq_true, if_false, val]
      rfl
  · split at h
    · rename_i hsame
      simp only [Option.some.injEq, Prod.mk.injEq] at h
      obtain ⟨rfl, rfl⟩ := h
      obtain ⟨u, v, rfl, h1, h2⟩ := two hv
      rw [val_atom1 h1, val_atom1 h2]
      obtain ⟨m, hm⟩ := hd.m
      have hs := hd.p
      rw [f4] at hsame
      have e : d.s = d.p := of_decide_eq_true hsame
      refine (X.index d.p d.p m w (by omega) (pinned_cell (pinned hr) hm)).mono ?_
      rintro e' w' ⟨rfl, rfl⟩
      refine ⟨ρ, _, rfl, ?_, hr, Step.refl _ _ _⟩
      simp only [val]
      show _ = Value.int .i64 (Lib.indexB d.s d.p)
      rw [e]
    · simp at h
  · simp only [Option.some.injEq, Prod.mk.injEq] at h
    obtain ⟨rfl, rfl⟩ := h
    obtain ⟨u, v, rfl, h1, h2⟩ := two hv
    rw [val_atom0 h1, val_atom1 h2]
    obtain ⟨kk, hk⟩ := specFind_ok d.s d.p
    refine (spec_TextFind.calls kk d.s d.p _ w hk).mono ?_
    rintro e w' ⟨rfl, ⟨n, rfl⟩⟩
    refine ⟨ρ, _, rfl, ?_, hr.drew (w.drawn + n), Step.drew ρ H w (w.drawn + n)⟩
    by_cases hs : d.s.size ≤ 400
    · by_cases hp : d.p.size ≤ 400
      · have e : (c.sl || c.pl) = false := by rw [f2, f3]; simp; exact ⟨hs, hp⟩
        rw [e]
        by_cases he : d.p.size = 0
        · have e2 : c.empty = true := by rw [f5]; simp [he]
          rw [e2]
          simp only [hs, hp, and_self, if_true, Bool.false_eq_true, if_false, val]
          exact congrArg _ (Lib.zero d.s d.p (.inl (by simp [he])))
        · have e2 : c.empty = false := by rw [f5]; simp [he]
          rw [e2]
          simp only [hs, hp, and_self, if_true, Bool.false_eq_true, if_false, val]
          rfl
      · have e : (c.sl || c.pl) = true := by rw [f2, f3]; simp; omega
        rw [e]
        simp only [hs, hp, and_false, if_false, if_true, val]
    · have e : (c.sl || c.pl) = true := by rw [f2, f3]; simp; omega
      rw [e]
      simp only [hs, false_and, if_false, if_true, val]
  · simp at h

theorem findFacts_ok (hf : c.fits d) (hd : d.Fit W l k) : FactsOk (d.env (pinsOf W)) Tryz.prog (findFacts c) where
  bin := findBin_ok hf
  binEq := by
    intro x y r h ρ u v hu hv
    obtain ⟨f1, f2, f3, f4, f5, f6⟩ := hf
    rcases findEq (show findBin c .eql x y = some (.bool r) from h) with ⟨rfl, rfl, h'⟩ | ⟨rfl, rfl, h'⟩ | ⟨rfl, rfl, h'⟩ 
    · subst h'
      refine ⟨d.s, d.p, val_atom0 hu, val_atom1 hv, ?_⟩
      rw [f4, Bool.eq_iff_iff]
      simp only [decide_eq_true_eq]
      exact Go.MapKept.bytes_beq d.s d.p
    · subst h'
      refine ⟨d.p, d.s, val_atom1 hu, val_atom0 hv, ?_⟩
      rw [f4, Bool.eq_iff_iff]
      simp only [decide_eq_true_eq]
      exact (Go.MapKept.bytes_beq d.p d.s).trans ⟨fun e => e.symm, fun e => e.symm⟩
    · subst h'
      refine ⟨d.p, ⟨#[]⟩, val_atom1 hu, val_str hv, ?_⟩
      rw [f5, Bool.eq_iff_iff]
      simp only [decide_eq_true_eq]
      refine (Go.MapKept.bytes_beq d.p ⟨#[]⟩).trans ⟨fun e => by rw [e]; rfl, fun e => ?_⟩
      cases hp : d.p with
      | mk b =>
        rw [hp] at e
        have : b = #[] := Array.eq_empty_of_size_eq_zero e
        rw [this]
  len := textLen_ok
  lenS := by
    intro i r h
    have h' : (if i = 0 then some (AV.sym 1) else none) = some r := h
    split at h'
    · rename_i hi
      subst hi
      simp only [Option.some.injEq] at h'
      subst h'
      exact ⟨d.a, d.n, d.cap, rfl, fun ρ => by simp only [val]; rfl⟩
    · simp at h'
  index := by intro x i r h; cases h
  slice := by intro x lo hi r h; cases h
  call := findCall_ok hf hd

end
end Go.Ev
