/- What the evaluator is told for the law FnRunsTexts: the facts. -/
import Derived.Test.YtdbaglgkbfjbnaaGreatEvQ
import Derived.Lib.IndexBytes
import Derived.Test.YtdbaglgkbfjbnaaGreatEvB
import Derived.Test.YtdbaglgkbfjbnaaGreatEvX
import Derived.Test.YtdbaglgkbfjbnaaGreatEvZ

set_option linter.unusedVariables false
set_option linter.unusedSimpArgs false
namespace Go.Ev


/-- What is known of the drawn texts. -/
structure Cfg where
  cl : Bool
  sl : Bool
  pl : Bool
  same : Bool
  big : Bool

def textBin (c : Cfg) (op : BinOp) (x y : AV) : Option AV :=
  match op, x, y with
  | .gtr, .sym 1, .int .i64 1048576 => some (.bool c.cl)
  | .gtr, .sym 3, .int .i64 400 => some (.bool c.sl)
  | .gtr, .sym 4, .int .i64 400 => some (.bool c.pl)
  | .gtr, .sym 6, .int .i64 400 => some (.bool c.big)
  | .leq, .sym 3, .int .i64 400 => some (.bool (!c.sl))
  | .leq, .sym 4, .int .i64 400 => some (.bool (!c.pl))
  | .neq, .sym 2, .sym 2 => some (.bool false)
  | .eql, .str (.atom 0), .str (.atom 1) => some (.bool c.same)
  | .eql, .str (.atom 1), .str (.atom 0) => some (.bool c.same)
  | .add, .str (.atom 0), .str (.atom 1) => some (.str (.atom 2))
  | .add, .sym 3, .sym 4 => some (.sym 6)
  | .add, .sym 3, .sym 3 => if c.same then some (.sym 6) else none
  | .add, .str (.atom 0), .str (.atom 0) => if c.same then some (.str (.atom 2)) else none
  | _, _, _ => none

def textLen : AV → Option AV
  | .str (.atom 0) => some (.sym 3)
  | .str (.atom 1) => some (.sym 4)
  | _ => none

def textCall (c : Cfg) (f : FuncId) (args : List AV) (H : Heap) : Option (AV × Heap) :=
  match f, args with
  | 123, [.str (.con l), .int .u8 b] => some (.int .i64 (Lib.indexByte l b.toNat.toUInt8), H)
  | 291, [.agg [.slice _ _ _ _ _], .agg [.int .i64 3, .str (.atom 2), .int .i64 _]] => if c.big then none else some (.str (.atom 2), H)
  | 13, [.sym 0] => if c.cl then none else some (.tuple [.str (.atom 0), .str (.atom 1)], H)
  | 52, [.str (.atom 0), .str (.atom 1)] => some (.sym 2, H)
  | 15, [.str (.atom 0), .str (.atom 1)] => some (if c.sl || c.pl then .int .i64 (-1) else .sym 2, H)
  | _, _ => none

def textFacts (c : Cfg) : Facts :=
  { Facts.none with call := textCall c, lenS := fun i => if i = 0 then some (.sym 1) else none, len := textLen, bin := textBin c }

end Go.Ev

/- What the evaluator is told for the law FnRunsTexts. -/
set_option linter.unusedVariables false
set_option linter.unusedSimpArgs false
namespace Go.Ev
open Go.Proofs

/-- The texts, the code slice and the numbers that go with them. -/
structure Drawn where
  a : Option Addr
  n : Nat
  cap : Nat
  s : ByteArray
  p : ByteArray

def Drawn.env (d : Drawn) (pins : Nat → Option Obj) : Env where
  str := fun i => if i = 0 then d.s.data.toList else if i = 1 then d.p.data.toList else d.s.data.toList ++ d.p.data.toList
  sym := fun i => if i = 0 then .slice d.a d.n d.cap else if i = 1 then goInt d.n else if i = 2 then .int .i64 (Lib.indexB d.s d.p) else if i = 3 then goInt d.s.size else if i = 4 then goInt d.p.size else goInt (d.s.size + d.p.size)
  pins := pins

def Cfg.fits (c : Cfg) (d : Drawn) : Prop :=
  c.cl = decide (d.n > 1048576) ∧ c.sl = decide (d.s.size > 400) ∧ c.pl = decide (d.p.size > 400) ∧ c.same = decide (d.s = d.p) ∧ c.big = decide (d.s.size + d.p.size > 400)

theorem Drawn.ok (d : Drawn) (pins : Nat → Option Obj) : (d.env pins).Ok := ⟨fun i => by
  simp only [Drawn.env, goInt]
  repeat' split
  all_goals rfl⟩

end Go.Ev

/- The facts hold: operations. -/
set_option linter.unusedVariables false
set_option linter.unusedSimpArgs false
namespace Go.Ev
open Go.Proofs

section
variable {P : Program} {c : Cfg} {d : Drawn} {pins : Nat → Option Obj} {ρ : Rho}

theorem sym_val {i : Nat} {v : Value} (h : val (d.env pins) ρ (.sym i) v) : v = (d.env pins).sym i := by simpa [val] using h
theorem atom_val {i : Nat} {v : Value} (h : val (d.env pins) ρ (.str (.atom i)) v) : v = .string ⟨((d.env pins).str i).toArray⟩ := by simpa [val, Env.bytes] using h

theorem gtr_ok {a : Nat} {b : Int} {r : Bool} (hr : r = decide ((a : Int) > b)) : ∃ z, val (d.env pins) ρ (.bool r) z ∧ ∀ t x y w, (do eqGuard .gtr t x y (goInt a) (.int .i64 b); binOp .gtr t (goInt a) (.int .i64 b)).run P w = .ok z w := by
  refine ⟨.bool r, by simp [val], fun t x y w => ?_⟩
  subst hr
  simp [eqGuard, goInt, binOp, Op.intCmp]

theorem leq_ok {a : Nat} {b : Int} {r : Bool} (hr : r = decide ((a : Int) ≤ b)) : ∃ z, val (d.env pins) ρ (.bool r) z ∧ ∀ t x y w, (do eqGuard .leq t x y (goInt a) (.int .i64 b); binOp .leq t (goInt a) (.int .i64 b)).run P w = .ok z w := by
  refine ⟨.bool r, by simp [val], fun t x y w => ?_⟩
  subst hr
  simp [eqGuard, goInt, binOp, Op.intCmp]

theorem addn_ok {a b : Nat} (hs : a + b ≤ 4611686018427387904) {i : Nat} (hi : (d.env pins).sym i = goInt (a + b : Nat)) : ∃ z, val (d.env pins) ρ (.sym i) z ∧ ∀ t x y w, (do eqGuard .add t x y (goInt a) (goInt b); binOp .add t (goInt a) (goInt b)).run P w = .ok z w := by
  refine ⟨goInt (a + b : Nat), by simp only [val]; exact hi.symm, fun t x y w => ?_⟩
  have : IntKind.i64.wrap ((a : Int) + (b : Int)) = ((a + b : Nat) : Int) := by simp [IntKind.wrap, IntKind.bits, IntKind.signed]; omega
  simp [eqGuard, goInt, binOp, Op.intArith, this]

theorem eqs_ok {a b : List UInt8} {r : Bool} (hr : r = decide (a = b)) : ∃ z, val (d.env pins) ρ (.bool r) z ∧ ∀ t x y w, (do eqGuard .eql t x y (.string ⟨a.toArray⟩) (.string ⟨b.toArray⟩); binOp .eql t (.string ⟨a.toArray⟩) (.string ⟨b.toArray⟩)).run P w = .ok z w := by
  refine ⟨.bool r, by simp [val], fun t x y w => ?_⟩
  subst hr
  obtain ⟨z, h1, h2⟩ := strBin_ok (P := P) (w := w) (E := d.env pins) (ρ := ρ) (ox := x) (oy := y) (t := t) (a := .bool (decide (a = b))) (op := .eql) (x := a) (y := b) rfl
  have := val_bool h2
  subst this
  exact h1

theorem add_str {a b : List UInt8} {i : Nat} (hl : a.length + b.length ≤ 2 ^ 40) (hi : (d.env pins).str i = a ++ b) : ∃ z, val (d.env pins) ρ (.str (.atom i)) z ∧
    ∀ t x y w, (do eqGuard .add t x y (.string ⟨a.toArray⟩) (.string ⟨b.toArray⟩); binOp .add t (.string ⟨a.toArray⟩) (.string ⟨b.toArray⟩)).run P w = .ok z w := by
  refine ⟨.string ⟨(a ++ b).toArray⟩, by simp [val, Env.bytes, hi], fun t x y w => ?_⟩
  obtain ⟨z, h1, h2⟩ := strBin_ok (P := P) (w := w) (E := d.env pins) (ρ := ρ) (ox := x) (oy := y) (t := t) (a := .str (.con (a ++ b))) (op := .add) (x := a) (y := b) (by simp only [strBin]; rw [if_pos hl])
  have := val_str h2
  subst this
  exact h1

theorem textBin_ok (hf : c.fits d) (hs : d.s.size ≤ 500) (hp : d.p.size ≤ 500) : ∀ op x y r, textBin c op x y = some r → ∀ (ρ : Rho) u v, val (d.env pins) ρ x u → val (d.env pins) ρ y v →
    ∃ z, val (d.env pins) ρ r z ∧ ∀ t a b w, (do eqGuard op t a b u v; binOp op t u v).run P w = .ok z w := by
  intro op x y r h ρ u v hu hv
  obtain ⟨f1, f2, f3, f4, f5⟩ := hf
  have l0 : d.s.data.toList.length = d.s.size := by rw [Array.length_toList]; rfl
  have l1 : d.p.data.toList.length = d.p.size := by rw [Array.length_toList]; rfl
  have same : d.s = d.p → d.s.data.toList = d.p.data.toList := fun e => by rw [e]
  have same' : d.s.data.toList = d.p.data.toList → d.s = d.p := fun e => by
    cases hs : d.s with
    | mk a => cases hp : d.p with
      | mk b =>
        rw [hs, hp] at e
        simp only at e
        rw [Array.toList_inj.1 e]
  unfold textBin at h
  split at h
  · simp only [Option.some.injEq] at h; subst h
    rw [sym_val hu, val_int hv]
    exact gtr_ok (by rw [f1]; apply decide_eq_decide.2; omega)
  · simp only [Option.some.injEq] at h; subst h
    rw [sym_val hu, val_int hv]
    exact gtr_ok (by rw [f2]; apply decide_eq_decide.2; omega)
  · simp only [Option.some.injEq] at h; subst h
    rw [sym_val hu, val_int hv]
    exact gtr_ok (by rw [f3]; apply decide_eq_decide.2; omega)
  · simp only [Option.some.injEq] at h; subst h
    rw [sym_val hu, val_int hv]
    exact gtr_ok (a := d.s.size + d.p.size) (by rw [f5]; apply decide_eq_decide.2; omega)
  · simp only [Option.some.injEq] at h; subst h
    rw [sym_val hu, val_int hv]
    exact leq_ok (by rw [f2, ← decide_not]; apply decide_eq_decide.2; omega)
  · simp only [Option.some.injEq] at h; subst h
    rw [sym_val hu, val_int hv]
    exact leq_ok (by rw [f3, ← decide_not]; apply decide_eq_decide.2; omega)
  · simp only [Option.some.injEq] at h; subst h
    rw [sym_val hu, sym_val hv]
    refine ⟨.bool false, by simp [val], fun t a b w => ?_⟩
    simp [eqGuard, Drawn.env, binOp, Op.intCmp]
  · simp only [Option.some.injEq] at h; subst h
    rw [atom_val hu, atom_val hv]
    exact eqs_ok (by rw [f4]; apply decide_eq_decide.2; exact ⟨same, same'⟩)
  · simp only [Option.some.injEq] at h; subst h
    rw [atom_val hu, atom_val hv]
    exact eqs_ok (by rw [f4]; apply decide_eq_decide.2; exact ⟨fun e => (same e).symm, fun e => same' e.symm⟩)
  · simp only [Option.some.injEq] at h; subst h
    rw [atom_val hu, atom_val hv]
    exact add_str (by show d.s.data.toList.length + d.p.data.toList.length ≤ _; omega) rfl
  · simp only [Option.some.injEq] at h; subst h
    rw [sym_val hu, sym_val hv]
    exact addn_ok (a := d.s.size) (b := d.p.size) (by omega) rfl
  · split at h
    · rename_i hsame
      simp only [Option.some.injEq] at h; subst h
      rw [sym_val hu, sym_val hv]
      rw [f4] at hsame
      have e := of_decide_eq_true hsame
      exact addn_ok (a := d.s.size) (b := d.s.size) (by omega) (by show goInt ((d.s.size : Int) + (d.p.size : Int)) = _; rw [← e, ← Int.natCast_add])
    · simp at h
  · split at h
    · rename_i hsame
      simp only [Option.some.injEq] at h; subst h
      rw [atom_val hu, atom_val hv]
      rw [f4] at hsame
      have e := of_decide_eq_true hsame
      exact add_str (by show d.s.data.toList.length + d.s.data.toList.length ≤ _; omega) (by show d.s.data.toList ++ d.p.data.toList = _; rw [← e]; rfl)
    · simp at h
  · simp at h

end
end Go.Ev

/- The facts hold: calls. -/
set_option linter.unusedVariables false
set_option linter.unusedSimpArgs false
namespace Go.Ev
open Go.Proofs Go.Proofs.YtdbaglgkbfjbnaaGreat.PFnRunsTexts Go.RowKit
open Go.Proofs.YtdbaglgkbfjbnaaGreatW.PrintWords

/-- What the drawn texts are. -/
structure Drawn.Fit (d : Drawn) (W : World) (l : List Int) (k : Nat) : Prop where
  len : d.n = l.length
  reads : ∀ w : World, (∀ (b : Nat) (o : Obj), W.heap[b]? = some o → w.heap[b]? = some o) → Kd.C (Kd.int .u8) w d.a l.length l
  cap : l.length ≤ d.cap
  draw : d.n ≤ 1048576 → spec_DrawTextFind.f k l = some (d.s, d.p)
  s : d.s.size ≤ 500
  p : d.p.size ≤ 500
  m : ∃ m, W.cell? ⟨0, 0, none⟩ = some (.int .i64 m)

def pinsOf (W : World) : Nat → Option Obj := fun b => W.heap[b]?

section
variable {c : Cfg} {d : Drawn} {W : World} {l : List Int} {k : Nat}

theorem bytes_back (s : ByteArray) : (⟨s.data.toList.toArray⟩ : ByteArray) = s := by
  cases s; simp

theorem val_atom0 {ρ : Rho} {v : Value} (h : val (d.env (pinsOf W)) ρ (.str (.atom 0)) v) : v = .string d.s := by
  rw [atom_val h]
  simp only [Drawn.env, if_true, bytes_back]
theorem val_atom1 {ρ : Rho} {v : Value} (h : val (d.env (pinsOf W)) ρ (.str (.atom 1)) v) : v = .string d.p := by
  rw [atom_val h]
  simp only [Drawn.env, bytes_back]
  rfl
theorem val_atom2 {ρ : Rho} {v : Value} (h : val (d.env (pinsOf W)) ρ (.str (.atom 2)) v) : v = .string ⟨(d.s.data.toList ++ d.p.data.toList).toArray⟩ := by
  rw [atom_val h]
  rfl

theorem two {ρ : Rho} {a b : AV} {vs : Array Value} (h : vals (d.env (pinsOf W)) ρ [a, b] vs.toList) : ∃ u v, vs = #[u, v] ∧ val (d.env (pinsOf W)) ρ a u ∧ val (d.env (pinsOf W)) ρ b v := by
  simp only [vals] at h
  obtain ⟨u, r, hu, h1, v, r', hr, h2, rfl⟩ := h
  subst hr
  exact ⟨u, v, Array.ext' hu, h1, h2⟩
theorem one {ρ : Rho} {a : AV} {vs : Array Value} (h : vals (d.env (pinsOf W)) ρ [a] vs.toList) : ∃ u, vs = #[u] ∧ val (d.env (pinsOf W)) ρ a u := by
  simp only [vals] at h
  obtain ⟨u, r, hu, h1, rfl⟩ := h
  exact ⟨u, Array.ext' hu, h1⟩

theorem pinned {ρ : Rho} {H : Heap} {w : World} (h : Rel (d.env (pinsOf W)) ρ H w) : ∀ (b : Nat) (o : Obj), W.heap[b]? = some o → w.heap[b]? = some o := fun b o hb => (h.pin b o hb).1

theorem pinned_cell {w : World} (h : ∀ (b : Nat) (o : Obj), W.heap[b]? = some o → w.heap[b]? = some o) {a : Addr} {v : Value} (hv : W.cell? a = some v) : w.cell? a = some v := by
  unfold World.cell? at hv ⊢
  cases hb : W.heap[a.block]? with
  | none => rw [hb] at hv; simp at hv
  | some o => rw [h _ _ hb]; rw [hb] at hv; exact hv

theorem textLen_ok : ∀ x r, textLen x = some r → ∀ (ρ : Rho) u, val (d.env (pinsOf W)) ρ x u → ∃ s, u = .string s ∧ val (d.env (pinsOf W)) ρ r (goInt s.size) := by
  intro x r h ρ u hu
  unfold textLen at h
  split at h
  · simp only [Option.some.injEq] at h; subst h
    refine ⟨d.s, val_atom0 hu, ?_⟩
    simp only [val]; rfl
  · simp only [Option.some.injEq] at h; subst h
    refine ⟨d.p, val_atom1 hu, ?_⟩
    simp only [val]; rfl
  · simp at h

theorem textCall_ok (hf : c.fits d) (hd : d.Fit W l k) : ∀ f args H r H', textCall c f args H = some (r, H') → ∀ (ρ : Rho) (w : World) (vs : Array Value), Rel (d.env (pinsOf W)) ρ H w → vals (d.env (pinsOf W)) ρ args vs.toList →
    Calls Tryz.prog f vs w fun e w' => ∃ ρ' v, e = .returned v ∧ val (d.env (pinsOf W)) ρ' r v ∧ Rel (d.env (pinsOf W)) ρ' H' w' ∧ Step ρ H w ρ' H' w' := by
  intro f args H r H' h ρ w vs hr hv
  obtain ⟨f1, f2, f3, f4, f5⟩ := hf
  unfold textCall at h
  split at h
  · rename_i l b
    simp only [Option.some.injEq, Prod.mk.injEq] at h
    obtain ⟨rfl, rfl⟩ := h
    obtain ⟨u, v, rfl, h1, h2⟩ := two hv
    rw [val_str h1, val_int h2]
    refine (X.indexByte _ b w).mono ?_
    rintro e w' ⟨rfl, rfl⟩
    exact ⟨ρ, _, rfl, by simp [val], hr, Step.refl _ _ _⟩
  · rename_i a1 a2 a3 a4 a5 n
    split at h
    · simp at h
    · rename_i hbig
      simp only [Option.some.injEq, Prod.mk.injEq] at h
      obtain ⟨rfl, rfl⟩ := h
      obtain ⟨u, v, rfl, h1, h2⟩ := two hv
      have hsz : d.s.size + d.p.size ≤ 400 := by
        rw [f5] at hbig
        simp at hbig
        exact hbig
      obtain ⟨us, rfl, hu⟩ := val_agg h1
      obtain ⟨vs', rfl, hv'⟩ := val_agg h2
      obtain ⟨s0, rfl, hs0⟩ := one hu
      have : ∃ ao n' c', s0 = .slice ao n' c' := by
        cases a1 with
        | none => simp only [val] at hs0; exact ⟨_, _, _, hs0.2.2⟩
        | some q => obtain ⟨i, o⟩ := q; obtain ⟨b, m, c', _, e, _⟩ := val_slice hs0; exact ⟨_, _, _, e⟩
      obtain ⟨ao, n', c', rfl⟩ := this
      simp only [vals] at hv'
      obtain ⟨x1, r1, e1, g1, x2, r2, e2, g2, x3, r3, e3, g3, rfl⟩ := hv'
      subst e3; subst e2
      have e1' : vs' = #[x1, x2, x3] := Array.ext' e1
      rw [e1', val_int g1, val_atom2 g2, val_int g3]
      refine (X.show3 w ao n' c' _ _ ?_).mono ?_
      · show (d.s.data.toList ++ d.p.data.toList).toArray.size ≤ 400
        simp
        exact hsz
      · rintro e w' ⟨rfl, hb⟩
        obtain ⟨p1, p2⟩ := below_rel hr hb
        exact ⟨ρ, _, rfl, by simp only [val]; rfl, p1, p2⟩
  · split at h
    · simp at h
    · rename_i hcl
      simp only [Option.some.injEq, Prod.mk.injEq] at h
      obtain ⟨rfl, rfl⟩ := h
      obtain ⟨u, rfl, h1⟩ := one hv
      have hu := sym_val h1
      have hu' : u = .slice d.a l.length d.cap := by rw [hu, ← hd.len]; rfl
      rw [hu']
      have hn : d.n ≤ 1048576 := by
        rw [f1] at hcl
        simp at hcl
        exact hcl
      refine (spec_DrawTextFind.calls k d.a d.cap l d.s d.p w (hd.reads w (pinned hr)) hd.cap (hd.draw hn)).mono ?_
      rintro e w' ⟨rfl, hb⟩
      obtain ⟨p1, p2⟩ := below_rel hr hb
      refine ⟨ρ, _, rfl, ?_, p1, p2⟩
      simp only [val, vals]
      refine ⟨_, rfl, _, _, rfl, ?_, _, _, rfl, ?_, rfl⟩
      · show Value.string d.s = _
        simp only [Env.bytes, Drawn.env, if_true, bytes_back]
      · show Value.string d.p = _
        simp only [Env.bytes, Drawn.env]
        exact congrArg Value.string (bytes_back d.p).symm
  · simp only [Option.some.injEq, Prod.mk.injEq] at h
    obtain ⟨rfl, rfl⟩ := h
    obtain ⟨u, v, rfl, h1, h2⟩ := two hv
    rw [val_atom0 h1, val_atom1 h2]
    obtain ⟨m, hm⟩ := hd.m
    have hs := hd.s
    refine (X.index d.s d.p m w (by omega) (pinned_cell (pinned hr) hm)).mono ?_
    rintro e w' ⟨rfl, rfl⟩
    refine ⟨ρ, _, rfl, ?_, hr, Step.refl _ _ _⟩
    simp only [val]
    rfl
  · simp only [Option.some.injEq, Prod.mk.injEq] at h
    obtain ⟨rfl, rfl⟩ := h
    obtain ⟨u, v, rfl, h1, h2⟩ := two hv
    rw [val_atom0 h1, val_atom1 h2]
    obtain ⟨kk, hk⟩ := specFind_ok d.s d.p
    refine (spec_TextFind.calls kk d.s d.p _ w hk).mono ?_
    rintro e w' ⟨rfl, ⟨n, rfl⟩⟩
    refine ⟨ρ, _, rfl, ?_, hr.drew (w.drawn + n), Step.drew ρ H w (w.drawn + n)⟩
    by_cases hs : d.s.size ≤ 400
    · by_cases hp : d.p.size ≤ 400
      · have e : (c.sl || c.pl) = false := by rw [f2, f3]; simp; exact ⟨hs, hp⟩
        rw [e]
        simp only [hs, hp, and_self, if_true, Bool.false_eq_true, if_false, val]
        rfl
      · have e : (c.sl || c.pl) = true := by rw [f2, f3]; simp; omega
        rw [e]
        simp only [hs, hp, and_false, if_false, if_true, val]
    · have e : (c.sl || c.pl) = true := by rw [f2, f3]; simp; omega
      rw [e]
      simp only [hs, false_and, if_false, if_true, val]
  · simp at h

theorem textEq {x y : AV} {r : Bool} (h : textBin c .eql x y = some (.bool r)) : (x = .str (.atom 0) ∧ y = .str (.atom 1) ∧ c.same = r) ∨ (x = .str (.atom 1) ∧ y = .str (.atom 0) ∧ c.same = r) := by
  unfold textBin at h
  split at h <;> simp_all

theorem textFacts_ok (hf : c.fits d) (hd : d.Fit W l k) : FactsOk (d.env (pinsOf W)) Tryz.prog (textFacts c) where
  bin := textBin_ok hf hd.s hd.p
  binEq := by
    intro x y r h ρ u v hu hv
    obtain ⟨f1, f2, f3, f4, f5⟩ := hf
    rcases textEq (show textBin c .eql x y = some (.bool r) from h) with ⟨rfl, rfl, h'⟩ | ⟨rfl, rfl, h'⟩
    · subst h'
      refine ⟨d.s, d.p, val_atom0 hu, val_atom1 hv, ?_⟩
      rw [f4, Bool.eq_iff_iff]
      simp only [decide_eq_true_eq]
      exact Go.MapKept.bytes_beq d.s d.p
    · subst h'
      refine ⟨d.p, d.s, val_atom1 hu, val_atom0 hv, ?_⟩
      rw [f4, Bool.eq_iff_iff]
      simp only [decide_eq_true_eq]
      exact (Go.MapKept.bytes_beq d.p d.s).trans ⟨fun e => e.symm, fun e => e.symm⟩
  len := textLen_ok
  lenS := by
    intro i r h
    have h' : (if i = 0 then some (AV.sym 1) else none) = some r := h
    split at h'
    · rename_i hi
      subst hi
      simp only [Option.some.injEq] at h'
      subst h'
      exact ⟨d.a, d.n, d.cap, rfl, fun ρ => by simp only [val]; rfl⟩
    · simp at h'
  index := by intro x i r h; cases h
  slice := by intro x lo hi r h; cases h
  call := textCall_ok hf hd

end
end Go.Ev
