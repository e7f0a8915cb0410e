/- What the evaluator is told for the law FnRunsAt: the facts. -/
import Derived.Test.YtdbaglgkbfjbnaaGreatEvT
import Derived.Test.YtdbaglgkbfjbnaaGreatEvV
import Derived.Test.YtdbaglgkbfjbnaaGreatEvW
import Derived.Test.YtdbaglgkbfjbnaaGreatEvS

set_option linter.unusedVariables false
set_option linter.unusedSimpArgs false
namespace Go.Ev

/-- What is known of the drawn text and the index. -/
structure ACfg where
  cl : Bool
  sl : Bool
  out : Bool

/-- An index that is counted from the end. -/
def back (i : Int) : Bool := decide (i < 0 ∧ -1000000000 < i)

def atBin (i : Int) (c : ACfg) (op : BinOp) (x y : AV) : Option AV :=
  match op, x, y with
  | .gtr, .sym 1, .int .i64 1048576 => some (.bool c.cl)
  | .gtr, .sym 3, .int .i64 400 => some (.bool c.sl)
  | .leq, .sym 3, .int .i64 400 => some (.bool (!c.sl))
  | .sub, .sym 3, .int .i64 k => if k = -i ∧ back i = true then some (.sym 4) else none
  | .lss, .sym 4, .int .i64 0 => if back i = true then some (.bool c.out) else none
  | .geq, .sym 4, .sym 3 => if back i = true then some (.bool false) else none
  | .geq, .int .i64 k, .sym 3 => if k = i ∧ 0 ≤ i then some (.bool c.out) else none
  | .add, .sym 4, .int .i64 1 => if back i = true then some (.sym 5) else none
  | .neq, .str (.atom 1), .str (.atom 1) => some (.bool false)
  | .eql, .str (.atom 1), .str (.atom 1) => some (.bool true)
  | _, _, _ => none

def atLen : AV → Option AV
  | .str (.atom 0) => some (.sym 3)
  | _ => none

def atSlice (i : Int) (c : ACfg) (x : AV) (lo hi : Option AV) : Option AV :=
  match x, lo, hi with
  | .str (.atom 0), some (.sym 4), some (.sym 5) => if back i = true ∧ c.out = false then some (.str (.atom 1)) else none
  | .str (.atom 0), some (.int .i64 k), some (.int .i64 m) => if k = i ∧ m = i + 1 ∧ 0 ≤ i ∧ c.out = false then some (.str (.atom 1)) else none
  | _, _, _ => none

def atRet (c : ACfg) : AV := if c.sl || c.out then .tuple [.str (.con []), .bool false] else .tuple [.str (.atom 1), .bool true]

def atCall (i : Int) (c : ACfg) (f : FuncId) (args : List AV) (H : Heap) : Option (AV × Heap) :=
  match f, args with
  | 123, [.str (.con l), .int .u8 b] => some (.int .i64 (Lib.indexByte l b.toNat.toUInt8), H)
  | 153, [.ptr (some (i, 1))] => bCopy i H
  | 103, [.ptr (some (i, 1))] => bString i H
  | 153, [.ptr (some (i, 0))] => bCopy0 i H
  | 103, [.ptr (some (i, 0))] => bString0 i H
  | 291, [.agg [.slice _ _ _ _ _], .agg [.int .i64 3, .str (.atom 1), .int .i64 _]] => if c.out then none else some (.str (.atom 1), H)
  | 23, [.sym 0] => if c.cl then none else some (.tuple [.str (.atom 0), .int .i64 i], H)
  | 24, [.str (.atom 0), .int .i64 k] => if k = i then some (atRet c, H) else none
  | 25, [.str (.atom 0), .int .i64 k] => if k = i then some (atRet c, H) else none
  | _, _ => none

def atFacts (i : Int) (c : ACfg) : Facts :=
  { Facts.none with call := atCall i c, lenS := fun i => if i = 0 then some (.sym 1) else none, len := atLen, bin := atBin i c, slice := atSlice i c }
end Go.Ev

/- The facts of the law FnRunsAt hold. -/
set_option linter.unusedVariables false
set_option linter.unusedSimpArgs false
namespace Go.Ev
open Go.Proofs Go.Proofs.YtdbaglgkbfjbnaaGreat.PFnRunsTexts Go.RowKit
open Go.Proofs.YtdbaglgkbfjbnaaGreatW.PrintWords

/-- The text, the code slice and the index. -/
structure ADrawn where
  a : Option Addr
  n : Nat
  cap : Nat
  s : ByteArray
  i : Int

def ADrawn.env (d : ADrawn) (pins : Nat → Option Obj) : Env where
  str := fun k => if k = 0 then d.s.data.toList else (byteAt d.s d.i).data.toList
  sym := fun k => if k = 0 then .slice d.a d.n d.cap else if k = 1 then goInt d.n else if k = 3 then goInt d.s.size else if k = 4 then .int .i64 (d.i + d.s.size) else .int .i64 (d.i + d.s.size + 1)
  pins := pins

theorem ADrawn.ok (d : ADrawn) (pins : Nat → Option Obj) : (d.env pins).Ok := ⟨fun i => by
  simp only [ADrawn.env, goInt]
  repeat' split
  all_goals rfl⟩

def ACfg.fits (c : ACfg) (d : ADrawn) : Prop := c.cl = decide (d.n > 1048576) ∧ c.sl = decide (d.s.size > 400) ∧ c.out = atOut d.s d.i

structure ADrawn.Fit (d : ADrawn) (W : World) (l : List Int) (k : Nat) : Prop where
  len : d.n = l.length
  reads : ∀ w : World, (∀ (b : Nat) (o : Obj), W.heap[b]? = some o → w.heap[b]? = some o) → Kd.C (Kd.int .u8) w d.a l.length l
  cap : l.length ≤ d.cap
  draw : d.n ≤ 1048576 → spec_DrawTextAt.f k l = some (d.s, d.i)
  s : d.s.size ≤ 500

theorem sym_valE {E : Env} {ρ : Rho} {i : Nat} {v : Value} (h : val E ρ (.sym i) v) : v = E.sym i := by simpa [val] using h
theorem twoE {E : Env} {ρ : Rho} {a b : AV} {vs : Array Value} (h : vals E ρ [a, b] vs.toList) : ∃ u v, vs = #[u, v] ∧ val E ρ a u ∧ val E ρ b v := by
  simp only [vals] at h
  obtain ⟨u, r, hu, h1, v, r', hr, h2, rfl⟩ := h
  subst hr
  exact ⟨u, v, Array.ext' hu, h1, h2⟩
theorem oneE {E : Env} {ρ : Rho} {a : AV} {vs : Array Value} (h : vals E ρ [a] vs.toList) : ∃ u, vs = #[u] ∧ val E ρ a u := by
  simp only [vals] at h
  obtain ⟨u, r, hu, h1, rfl⟩ := h
  exact ⟨u, Array.ext' hu, h1⟩
theorem cmp_ok {E : Env} {ρ : Rho} {P : Program} {op : BinOp} {x y : Int} {r : Bool} (h : ∀ t a b w, (do eqGuard op t a b (.int .i64 x) (.int .i64 y); binOp op t (.int .i64 x) (.int .i64 y)).run P w = .ok (.bool r) w) :
    ∃ z, val E ρ (.bool r) z ∧ ∀ t a b w, (do eqGuard op t a b (.int .i64 x) (.int .i64 y); binOp op t (.int .i64 x) (.int .i64 y)).run P w = .ok z w := ⟨.bool r, by simp [val], h⟩

section
variable {c : ACfg} {d : ADrawn} {W : World} {l : List Int} {k : Nat}

theorem at_atom0 {ρ : Rho} {v : Value} (h : val (d.env (pinsOf W)) ρ (.str (.atom 0)) v) : v = .string d.s := by
  simp only [val, Env.bytes, ADrawn.env, if_true, bytes_back] at h
  exact h
theorem at_atom1 {ρ : Rho} {v : Value} (h : val (d.env (pinsOf W)) ρ (.str (.atom 1)) v) : v = .string (byteAt d.s d.i) := by
  simp only [val, Env.bytes, ADrawn.env] at h
  rw [if_neg (by decide), bytes_back] at h
  exact h
theorem at_mk1 {ρ : Rho} : val (d.env (pinsOf W)) ρ (.str (.atom 1)) (.string (byteAt d.s d.i)) := by
  simp only [val, Env.bytes, ADrawn.env]
  rw [if_neg (by decide), bytes_back]

theorem back_iff {i : Int} (h : back i = true) : i < 0 ∧ -1000000000 < i := of_decide_eq_true h

theorem str_self_eq {E : Env} {ρ : Rho} {P : Program} (s : ByteArray) : ∃ z, val E ρ (.bool true) z ∧ ∀ t a b w, (do eqGuard .eql t a b (.string s) (.string s); binOp .eql t (.string s) (.string s)).run P w = .ok z w := by
  refine ⟨.bool true, by simp [val], fun t a b w => ?_⟩
  obtain ⟨z, h1, h2⟩ := strBin_ok (P := P) (w := w) (E := E) (ρ := ρ) (ox := a) (oy := b) (t := t) (a := .bool (decide (s.data.toList = s.data.toList))) (op := .eql) (x := s.data.toList) (y := s.data.toList) rfl
  have := val_bool h2
  subst this
  simpa [bytes_back] using h1
theorem str_self_ne {E : Env} {ρ : Rho} {P : Program} (s : ByteArray) : ∃ z, val E ρ (.bool false) z ∧ ∀ t a b w, (do eqGuard .neq t a b (.string s) (.string s); binOp .neq t (.string s) (.string s)).run P w = .ok z w := by
  refine ⟨.bool false, by simp [val], fun t a b w => ?_⟩
  obtain ⟨z, h1, h2⟩ := strBin_ok (P := P) (w := w) (E := E) (ρ := ρ) (ox := a) (oy := b) (t := t) (a := .bool (!decide (s.data.toList = s.data.toList))) (op := .neq) (x := s.data.toList) (y := s.data.toList) rfl
  have := val_bool h2
  subst this
  simpa [bytes_back] using h1

theorem atBin_ok (hf : c.fits d) (hs : d.s.size ≤ 500) : ∀ op x y r, atBin d.i c op x y = some r → ∀ (ρ : Rho) u v, val (d.env (pinsOf W)) ρ x u → val (d.env (pinsOf W)) ρ y v →
    ∃ z, val (d.env (pinsOf W)) ρ r z ∧ ∀ t a b w, (do eqGuard op t a b u v; binOp op t u v).run Tryz.prog w = .ok z w := by
  intro op x y r h ρ u v hu hv
  obtain ⟨f1, f2, f3⟩ := hf
  unfold atBin at h
  split at h
  · simp only [Option.some.injEq] at h; subst h
    rw [sym_valE hu, val_int hv]
    refine cmp_ok (x := d.n) fun t a b w => ?_
    rw [f1]; simp [eqGuard, goInt, binOp, Op.intCmp, ADrawn.env]; omega
  · simp only [Option.some.injEq] at h; subst h
    rw [sym_valE hu, val_int hv]
    refine cmp_ok (x := d.s.size) fun t a b w => ?_
    rw [f2]; simp [eqGuard, goInt, binOp, Op.intCmp, ADrawn.env]; omega
  · simp only [Option.some.injEq] at h; subst h
    rw [sym_valE hu, val_int hv]
    refine cmp_ok (x := d.s.size) fun t a b w => ?_
    rw [f2, ← decide_not]; simp [eqGuard, goInt, binOp, Op.intCmp, ADrawn.env]; omega
  · rename_i kk
    split at h
    · rename_i hk
      obtain ⟨rfl, hb⟩ := hk
      have hb := back_iff hb
      simp only [Option.some.injEq] at h; subst h
      rw [sym_valE hu, val_int hv]
      refine ⟨.int .i64 (d.i + d.s.size), by simp only [val]; rfl, fun t a b w => ?_⟩
      have : IntKind.i64.wrap ((d.s.size : Int) - -d.i) = d.i + d.s.size := by simp [IntKind.wrap, IntKind.bits, IntKind.signed]; omega
      simp [eqGuard, goInt, binOp, Op.intArith, ADrawn.env, this]
      simpa using this
    · simp at h
  · split at h
    · rename_i hb
      have hb := back_iff hb
      simp only [Option.some.injEq] at h; subst h
      rw [sym_valE hu, val_int hv]
      refine cmp_ok (x := d.i + d.s.size) fun t a b w => ?_
      have e : decide (d.i + (d.s.size : Int) < 0) = atOut d.s d.i := by unfold atOut; apply decide_eq_decide.2; omega
      rw [f3]; simp [eqGuard, goInt, binOp, Op.intCmp, ADrawn.env]; exact e
    · simp at h
  · split at h
    · rename_i hb
      have hb := back_iff hb
      simp only [Option.some.injEq] at h; subst h
      rw [sym_valE hu, sym_valE hv]
      refine cmp_ok (x := d.i + d.s.size) (y := d.s.size) fun t a b w => ?_
      have e : decide ((d.s.size : Int) ≤ d.i + d.s.size) = false := decide_eq_false (by omega)
      simp [eqGuard, goInt, binOp, Op.intCmp, ADrawn.env, -decide_eq_false_iff_not]
      exact e
    · simp at h
  · rename_i kk
    split at h
    · rename_i hk
      obtain ⟨rfl, hb⟩ := hk
      simp only [Option.some.injEq] at h; subst h
      rw [val_int hu, sym_valE hv]
      refine cmp_ok (x := d.i) (y := d.s.size) fun t a b w => ?_
      rw [f3]; simp [eqGuard, goInt, binOp, Op.intCmp, ADrawn.env, atOut]; omega
    · simp at h
  · split at h
    · rename_i hb
      have hb := back_iff hb
      simp only [Option.some.injEq] at h; subst h
      rw [sym_valE hu, val_int hv]
      refine ⟨.int .i64 (d.i + d.s.size + 1), by simp only [val]; rfl, fun t a b w => ?_⟩
      have : IntKind.i64.wrap (d.i + (d.s.size : Int) + 1) = d.i + d.s.size + 1 := by simp [IntKind.wrap, IntKind.bits, IntKind.signed]; omega
      simp [eqGuard, goInt, binOp, Op.intArith, ADrawn.env, this]
    · simp at h
  · simp only [Option.some.injEq] at h; subst h
    rw [at_atom1 hu, at_atom1 hv]
    exact str_self_ne _
  · simp only [Option.some.injEq] at h; subst h
    rw [at_atom1 hu, at_atom1 hv]
    exact str_self_eq _
  · simp at h

theorem atEq {i : Int} {x y : AV} {r : Bool} (h : atBin i c .eql x y = some (.bool r)) : x = .str (.atom 1) ∧ y = .str (.atom 1) ∧ r = true := by
  unfold atBin at h
  split at h <;> simp_all

theorem atLen_ok : ∀ x r, atLen x = some r → ∀ (ρ : Rho) u, val (d.env (pinsOf W)) ρ x u → ∃ s, u = .string s ∧ val (d.env (pinsOf W)) ρ r (goInt s.size) := by
  intro x r h ρ u hu
  unfold atLen at h
  split at h
  · simp only [Option.some.injEq] at h; subst h
    refine ⟨d.s, at_atom0 hu, ?_⟩
    simp only [val]; rfl
  · simp at h

theorem atSlice_ok (hf : c.fits d) (hs : d.s.size ≤ 500) : ∀ x lo hi r, atSlice d.i c x lo hi = some r → ∀ (ρ : Rho) u, val (d.env (pinsOf W)) ρ x u → ∃ s l h, u = .string s ∧ l ≤ h ∧ h ≤ s.size ∧
      (match lo with | none => l = 0 | some a => ∀ v, val (d.env (pinsOf W)) ρ a v → ∃ j, v = .int j (l : Int)) ∧ (match hi with | none => h = s.size | some a => ∀ v, val (d.env (pinsOf W)) ρ a v → ∃ j, v = .int j (h : Int)) ∧ val (d.env (pinsOf W)) ρ r (.string (s.extract l h)) := by
  intro x lo hi r h ρ u hu
  obtain ⟨f1, f2, f3⟩ := hf
  unfold atSlice at h
  split at h
  · split at h
    · rename_i hb
      obtain ⟨hb, ho⟩ := hb
      have hb := back_iff hb
      simp only [Option.some.injEq] at h; subst h
      rw [f3] at ho
      simp only [atOut, decide_eq_false_iff_not] at ho
      have hp : place d.s d.i = d.i + d.s.size := by unfold place; rw [if_pos hb.1]
      refine ⟨d.s, (place d.s d.i).toNat, (place d.s d.i + 1).toNat, at_atom0 hu, by omega, by omega, fun v hv => ⟨.i64, ?_⟩, fun v hv => ⟨.i64, ?_⟩, at_mk1⟩
      · rw [sym_valE hv]; show Value.int .i64 (d.i + d.s.size) = _; rw [hp]; congr 1; omega
      · rw [sym_valE hv]; show Value.int .i64 (d.i + d.s.size + 1) = _; rw [hp]; congr 1; omega
    · simp at h
  · rename_i kk mm
    split at h
    · rename_i hb
      obtain ⟨rfl, rfl, h0, ho⟩ := hb
      simp only [Option.some.injEq] at h; subst h
      rw [f3] at ho
      simp only [atOut, decide_eq_false_iff_not] at ho
      have hp : place d.s d.i = d.i := by unfold place; rw [if_neg (by omega)]
      refine ⟨d.s, (place d.s d.i).toNat, (place d.s d.i + 1).toNat, at_atom0 hu, by omega, by omega, fun v hv => ⟨.i64, ?_⟩, fun v hv => ⟨.i64, ?_⟩, at_mk1⟩
      · rw [val_int hv, hp]; congr 1; omega
      · rw [val_int hv, hp]; congr 1; omega
    · simp at h
  · simp at h

theorem atRet_ok (hf : c.fits d) (ρ : Rho) : val (d.env (pinsOf W)) ρ (atRet c) (.tuple #[.string (atRes d.s d.i).1, .bool (atRes d.s d.i).2]) := by
  obtain ⟨f1, f2, f3⟩ := hf
  by_cases h : d.s.size ≤ 400 ∧ atOut d.s d.i = false
  · have ea : atRet c = .tuple [.str (.atom 1), .bool true] := by
      unfold atRet
      have : (c.sl || c.out) = false := by rw [f2, f3, h.2, Bool.or_false]; exact decide_eq_false (by omega)
      rw [this]; rfl
    have eb : atRes d.s d.i = (byteAt d.s d.i, true) := by unfold atRes; rw [if_pos h]
    rw [ea, eb]
    simp only [val, vals]
    exact ⟨_, rfl, _, _, rfl, at_mk1 (ρ := ρ), _, _, rfl, rfl, rfl⟩
  · have ea : atRet c = .tuple [.str (.con []), .bool false] := by
      unfold atRet
      have : (c.sl || c.out) = true := by
        rw [f2, f3]
        by_cases h1 : d.s.size ≤ 400
        · cases h2 : atOut d.s d.i with
          | false => exact absurd ⟨h1, h2⟩ h
          | true => exact Bool.or_true _
        · rw [decide_eq_true (show d.s.size > 400 by omega), Bool.true_or]
      rw [this]; rfl
    have eb : atRes d.s d.i = (⟨#[]⟩, false) := by unfold atRes; rw [if_neg h]
    rw [ea, eb]
    simp only [val, vals]
    exact ⟨_, rfl, _, _, rfl, rfl, _, _, rfl, rfl, rfl⟩

theorem pinnedA {ρ : Rho} {H : Heap} {w : World} (h : Rel (d.env (pinsOf W)) ρ H w) : ∀ (b : Nat) (o : Obj), W.heap[b]? = some o → w.heap[b]? = some o := fun b o hb => (h.pin b o hb).1

theorem atCall_ok (hf : c.fits d) (hd : d.Fit W l k) : ∀ f args H r H', atCall d.i c f args H = some (r, H') → ∀ (ρ : Rho) (w : World) (vs : Array Value), Rel (d.env (pinsOf W)) ρ H w → vals (d.env (pinsOf W)) ρ args vs.toList →
    Calls Tryz.prog f vs w fun e w' => ∃ ρ' v, e = .returned v ∧ val (d.env (pinsOf W)) ρ' r v ∧ Rel (d.env (pinsOf W)) ρ' H' w' ∧ Step ρ H w ρ' H' w' := by
  intro f args H r H' h ρ w vs hr hv
  have hf' := hf
  obtain ⟨f1, f2, f3⟩ := hf
  have hs := hd.s
  unfold atCall at h
  split at h
  · rename_i l b
    simp only [Option.some.injEq, Prod.mk.injEq] at h
    obtain ⟨rfl, rfl⟩ := h
    obtain ⟨u, v, rfl, h1, h2⟩ := twoE hv
    rw [val_str h1, val_int h2]
    refine (X.indexByte _ b w).mono ?_
    rintro e w' ⟨rfl, rfl⟩
    exact ⟨ρ, _, rfl, by simp [val], hr, Step.refl _ _ _⟩
  · obtain ⟨u, rfl, h1⟩ := oneE hv
    exact bCopy_ok h hr h1
  · obtain ⟨u, rfl, h1⟩ := oneE hv
    exact bString_ok h hr h1
  · obtain ⟨u, rfl, h1⟩ := oneE hv
    exact bCopy0_ok h hr h1
  · obtain ⟨u, rfl, h1⟩ := oneE hv
    exact bString0_ok h hr h1
  · rename_i a1 a2 a3 a4 a5 n
    split at h
    · simp at h
    · rename_i hout
      simp only [Option.some.injEq, Prod.mk.injEq] at h
      obtain ⟨rfl, rfl⟩ := h
      obtain ⟨u, v, rfl, h1, h2⟩ := twoE hv
      have hsz : (byteAt d.s d.i).size ≤ 400 := by
        unfold byteAt
        rw [ByteArray.size_extract]
        have : (place d.s d.i + 1).toNat ≤ (place d.s d.i).toNat + 1 := by omega
        omega
      obtain ⟨us, rfl, hu⟩ := val_agg h1
      obtain ⟨vs', rfl, hv'⟩ := val_agg h2
      obtain ⟨s0, rfl, hs0⟩ := oneE hu
      have : ∃ ao n' c', s0 = .slice ao n' c' := by
        cases a1 with
        | none => simp only [val] at hs0; exact ⟨_, _, _, hs0.2.2⟩
        | some q => obtain ⟨i, o⟩ := q; obtain ⟨b, m, c', _, e, _⟩ := val_slice hs0; exact ⟨_, _, _, e⟩
      obtain ⟨ao, n', c', rfl⟩ := this
      simp only [vals] at hv'
      obtain ⟨x1, r1, e1, g1, x2, r2, e2, g2, x3, r3, e3, g3, rfl⟩ := hv'
      subst e3; subst e2
      have e1' : vs' = #[x1, x2, x3] := Array.ext' e1
      rw [e1', val_int g1, at_atom1 g2, val_int g3]
      refine (X.show3 w ao n' c' _ _ hsz).mono ?_
      rintro e w' ⟨rfl, hb⟩
      obtain ⟨p1, p2⟩ := below_rel hr hb
      exact ⟨ρ, _, rfl, at_mk1, p1, p2⟩
  · split at h
    · simp at h
    · rename_i hcl
      simp only [Option.some.injEq, Prod.mk.injEq] at h
      obtain ⟨rfl, rfl⟩ := h
      obtain ⟨u, rfl, h1⟩ := oneE hv
      have hu := sym_valE h1
      have hu' : u = .slice d.a l.length d.cap := by rw [hu, ← hd.len]; rfl
      rw [hu']
      have hn : d.n ≤ 1048576 := by
        rw [f1] at hcl
        simp at hcl
        exact hcl
      refine (spec_DrawTextAt.calls k d.a d.cap l d.s d.i w (hd.reads w (pinnedA hr)) hd.cap (hd.draw hn)).mono ?_
      rintro e w' ⟨rfl, hb⟩
      obtain ⟨p1, p2⟩ := below_rel hr hb
      refine ⟨ρ, _, rfl, ?_, p1, p2⟩
      simp only [val, vals]
      refine ⟨_, rfl, _, _, rfl, ?_, _, _, rfl, rfl, rfl⟩
      show Value.string d.s = _
      simp only [Env.bytes, ADrawn.env, if_true, bytes_back]
  · rename_i kk
    split at h
    · rename_i hk
      subst hk
      simp only [Option.some.injEq, Prod.mk.injEq] at h
      obtain ⟨rfl, rfl⟩ := h
      obtain ⟨u, v, rfl, h1, h2⟩ := twoE hv
      rw [at_atom0 h1, val_int h2]
      refine (impl_TextAt.calls 1 d.s d.i _ _ w (implAt_ok d.s d.i hs)).mono ?_
      rintro e w' ⟨rfl, ⟨n, rfl⟩⟩
      exact ⟨ρ, _, rfl, atRet_ok hf' ρ, hr.drew (w.drawn + n), Step.drew ρ H w (w.drawn + n)⟩
    · simp at h
  · rename_i kk
    split at h
    · rename_i hk
      subst hk
      simp only [Option.some.injEq, Prod.mk.injEq] at h
      obtain ⟨rfl, rfl⟩ := h
      obtain ⟨u, v, rfl, h1, h2⟩ := twoE hv
      rw [at_atom0 h1, val_int h2]
      refine (spec_TextAt.calls 1 d.s d.i _ _ w (specAt_ok d.s d.i hs)).mono ?_
      rintro e w' ⟨rfl, ⟨n, rfl⟩⟩
      exact ⟨ρ, _, rfl, atRet_ok hf' ρ, hr.drew (w.drawn + n), Step.drew ρ H w (w.drawn + n)⟩
    · simp at h
  · simp at h

theorem atFacts_ok (hf : c.fits d) (hd : d.Fit W l k) : FactsOk (d.env (pinsOf W)) Tryz.prog (atFacts d.i c) where
  bin := atBin_ok hf hd.s
  binEq := by
    intro x y r h ρ u v hu hv
    obtain ⟨rfl, rfl, rfl⟩ := atEq (show atBin d.i c .eql x y = some (.bool r) from h)
    refine ⟨_, _, at_atom1 hu, at_atom1 hv, ?_⟩
    rw [Bool.eq_iff_iff]
    simp only [iff_true]
    exact (Go.MapKept.bytes_beq _ _).2 rfl
  len := atLen_ok
  lenS := by
    intro i r h
    have h' : (if i = 0 then some (AV.sym 1) else none) = some r := h
    split at h'
    · rename_i hi
      subst hi
      simp only [Option.some.injEq] at h'
      subst h'
      exact ⟨d.a, d.n, d.cap, rfl, fun ρ => by simp only [val]; rfl⟩
    · simp at h'
  index := by intro x i r h; cases h
  slice := atSlice_ok hf hd.s
  call := atCall_ok hf hd
end
end Go.Ev
