/- What the evaluator is told for the law FnRunsMany: the facts. -/
import Derived.Test.YtdbaglgkbfjbnaaGreatEvT
import Derived.Test.YtdbaglgkbfjbnaaGreatEvV
import Derived.Test.YtdbaglgkbfjbnaaGreatManyNums
import Derived.Test.YtdbaglgkbfjbnaaGreatEvW
import Derived.Test.YtdbaglgkbfjbnaaGreatEvN
import Derived.Test.YtdbaglgkbfjbnaaGreatAtFacts

set_option linter.unusedVariables false
set_option linter.unusedSimpArgs false
namespace Go.Ev

/-- What is known of the drawn text and the number. -/
structure MCfg where
  cl : Bool
  sl : Bool
  emp : Bool
  big : Bool
  np : Bool
  neg : Bool
  far : Bool

def MCfg.can (c : MCfg) : Bool := !(c.emp && c.big) && !(c.neg && !c.np) && !(c.far && c.np)

def manyBin (c : MCfg) (op : BinOp) (x y : AV) : Option AV :=
  match op, x, y with
  | .gtr, .sym 1, .int .i64 1048576 => some (.bool c.cl)
  | .gtr, .sym 3, .int .i64 400 => some (.bool c.sl)
  | .leq, .sym 3, .int .i64 400 => some (.bool (!c.sl))
  | .eql, .str (.atom 0), .str (.con []) => some (.bool c.emp)
  | .quo, .int .i64 400, .sym 3 => if c.emp then none else some (.sym 6)
  | .gtr, .sym 7, .sym 6 => if c.emp then none else some (.bool c.big)
  | .leq, .sym 7, .int .i64 0 => some (.bool c.np)
  | .lss, .sym 7, .int .i64 0 => some (.bool c.neg)
  | .gtr, .sym 7, .int .i64 1000 => some (.bool c.far)
  | .neq, .sym 9, .int .u8 45 => if c.neg || c.far then none else some (.bool true)
  | .neq, .str (.atom 1), .str (.atom 1) => some (.bool false)
  | .eql, .str (.atom 1), .str (.atom 1) => some (.bool true)
  | _, _, _ => none

def manyLen : AV → Option AV
  | .str (.atom 0) => some (.sym 3)
  | _ => none

def manyIndex : AV → AV → Option AV
  | .str (.atom 2), .int .i64 0 => some (.sym 9)
  | _, _ => none

def manyFits (c : MCfg) : Bool := !c.np && !c.emp && !c.big && !c.sl

def manyRet (c : MCfg) : AV :=
  if c.sl then .tuple [.str (.con []), .bool false] else if c.np || c.emp then .tuple [.str (.con []), .bool true] else if c.big then .tuple [.str (.con []), .bool false] else .tuple [.str (.atom 1), .bool true]

def manyCall (c : MCfg) (f : FuncId) (args : List AV) (H : Heap) : Option (AV × Heap) :=
  match f, args with
  | 123, [.str (.con l), .int .u8 b] => some (.int .i64 (Lib.indexByte l b.toNat.toUInt8), H)
  | 153, [.ptr (some (i, 1))] => bCopy i H
  | 103, [.ptr (some (i, 1))] => bString i H
  | 153, [.ptr (some (i, 0))] => bCopy0 i H
  | 103, [.ptr (some (i, 0))] => bString0 i H
  | 291, [.agg [.slice _ _ _ _ _], .agg [.int .i64 3, .str (.atom 1), .int .i64 _]] => if manyFits c then some (.str (.atom 1), H) else none
  | 291, [.agg [.slice _ _ _ _ _], .agg [.int .i64 3, .str (.con []), .int .i64 _]] => some (.str (.con []), H)
  | 19, [.sym 0] => if c.cl then none else some (.tuple [.str (.atom 0), .sym 7], H)
  | 63, [.str (.atom 0), .sym 7] => if manyFits c = true then some (.str (.atom 1), H) else none
  | 21, [.str (.atom 0), .sym 7] => some (manyRet c, H)
  | 65, [.sym 7] => if c.neg || c.far then none else some (.str (.atom 2), H)
  | 64, [.str (.atom 2)] => if c.neg || c.far then none else some (.agg [.int .i64 4, .str (.atom 2), .slice none 0 0 true 0, .slice none 0 0 true 0], H)
  | 34, [.str (.atom 2)] => if c.neg || c.far then none else some (.bool true, H)
  | 261, [.str (.atom 2), .int .i64 400] => if c.neg || c.far then none else some (.sym 7, H)
  | _, _ => none

def manyFacts (c : MCfg) : Facts :=
  { Facts.none with call := manyCall c, lenS := fun i => if i = 0 then some (.sym 1) else none, len := manyLen, index := manyIndex, bin := manyBin c }
end Go.Ev

/- The facts of the law FnRunsMany hold. -/
set_option linter.unusedVariables false
set_option linter.unusedSimpArgs false
namespace Go.Ev
open Go.Proofs Go.Proofs.YtdbaglgkbfjbnaaGreat.PFnRunsTexts Go.RowKit
open Go.Proofs.YtdbaglgkbfjbnaaGreatW.PrintWords

/-! ### runs on what is known -/

def E0 : Env := { str := fun _ => [], sym := fun _ => goInt 0, pins := fun _ => none }
theorem E0_ok : E0.Ok := ⟨fun i => rfl⟩

theorem conFacts_ok : FactsOk E0 Tryz.prog conFacts where
  bin := by intro op x y r h; cases h
  binEq := by intro x y r h; cases h
  len := by intro x r h; cases h
  lenS := by intro i r h; cases h
  index := by intro x i r h; cases h
  slice := by intro x lo hi r h; cases h
  call := by
    intro f args H r H' h ρ w vs hr hv
    have h' : conCall f args H = some (r, H') := h
    unfold conCall at h'
    split at h'
    · simp only [Option.some.injEq, Prod.mk.injEq] at h'
      obtain ⟨rfl, rfl⟩ := h'
      obtain ⟨u, v, rfl, h1, h2⟩ := twoE hv
      rw [val_str h1, val_int h2]
      refine (X.indexByte _ _ w).mono ?_
      rintro e w' ⟨rfl, rfl⟩
      exact ⟨ρ, _, rfl, by simp [val], hr, Step.refl _ _ _⟩
    · obtain ⟨u, rfl, h1⟩ := oneE hv
      exact bCopy0_ok h' hr h1
    · obtain ⟨u, rfl, h1⟩ := oneE hv
      exact bString0_ok h' hr h1
    · simp at h'

theorem con_run {f : FuncId} {args : List AV} {r0 : AV} {vs : Array Value} {w : World} (hrun : conRun f args r0 = true) (hv : vals E0 (fun _ => none) args vs.toList) :
    Calls Tryz.prog f vs w fun e w' => ∃ ρ v, e = .returned v ∧ val E0 ρ r0 v ∧ Below w.heap.size w w' := by
  obtain ⟨r, H', h1, h2⟩ := Q.call_ok plans_ok 1000 60 f args emptyH _ hrun
  have hr := Q.eqV_ok _ _ h2
  subst hr
  refine (ev_ok E0_ok conFacts_ok plans_ok mixed 1000 60 f args emptyH _ H' h1 _ w vs (rel_empty E0 w (fun b o h => by cases h)) hv).mono ?_
  rintro e w' ⟨ρ', v, rfl, hb, _, hs⟩
  exact ⟨ρ', v, rfl, hb, below_of_step hs⟩

def decB (n : Nat) : ByteArray := ⟨(dec n).toArray⟩

theorem dec_decimal {n : Nat} (h : n ≤ 56) (w : World) : Calls Tryz.prog 65 #[.int .i64 n] w fun e w' => e = .returned (.string (decB n)) ∧ Below w.heap.size w w' := by
  refine (con_run (nums n h).decimal (by simp only [vals, val]; exact ⟨_, _, rfl, rfl, rfl⟩)).mono ?_
  rintro e w' ⟨ρ, v, rfl, hv, hb⟩
  rw [val_str hv]
  exact ⟨rfl, hb⟩
theorem dec_ok {n : Nat} (h : n ≤ 56) (w : World) : Calls Tryz.prog 34 #[.string (decB n)] w fun e w' => e = .returned (.bool true) ∧ Below w.heap.size w w' := by
  refine (con_run (nums n h).ok (by simp only [vals, val]; exact ⟨_, _, rfl, rfl, rfl⟩)).mono ?_
  rintro e w' ⟨ρ, v, rfl, hv, hb⟩
  rw [val_bool hv]
  exact ⟨rfl, hb⟩
theorem dec_small {n : Nat} (h : n ≤ 56) (w : World) : Calls Tryz.prog 261 #[.string (decB n), .int .i64 400] w fun e w' => e = .returned (.int .i64 n) ∧ Below w.heap.size w w' := by
  refine (con_run (nums n h).small (by simp only [vals, val]; exact ⟨_, _, rfl, rfl, _, _, rfl, rfl, rfl⟩)).mono ?_
  rintro e w' ⟨ρ, v, rfl, hv, hb⟩
  rw [val_int hv]
  exact ⟨rfl, hb⟩
theorem dec_lit {n : Nat} (h : n ≤ 56) (w : World) : Calls Tryz.prog 64 #[.string (decB n)] w fun e w' => e = .returned (.agg #[.int .i64 4, .string (decB n), .slice none 0 0, .slice none 0 0]) ∧ Below w.heap.size w w' := by
  refine (con_run (nums n h).lit (by simp only [vals, val]; exact ⟨_, _, rfl, rfl, rfl⟩)).mono ?_
  rintro e w' ⟨ρ, v, rfl, hv, hb⟩
  obtain ⟨us, rfl, hu⟩ := val_agg hv
  simp only [vals] at hu
  obtain ⟨x1, r1, e1, g1, x2, r2, e2, g2, x3, r3, e3, g3, x4, r4, e4, g4, rfl⟩ := hu
  subst e4; subst e3; subst e2
  have e' : us = #[x1, x2, x3, x4] := Array.ext' e1
  simp only [val] at g3 g4
  rw [e', val_int g1, val_str g2, g3.2.2, g4.2.2]
  exact ⟨rfl, hb⟩

/-! ### the facts -/

/-- The text, the code slice and the number. -/
structure MDrawn where
  a : Option Addr
  n : Nat
  cap : Nat
  s : ByteArray
  i : Int

def firstB (n : Nat) : UInt8 := (dec n).headD 0

def MDrawn.env (d : MDrawn) (pins : Nat → Option Obj) : Env where
  str := fun k => if k = 0 then d.s.data.toList else if k = 1 then (repB d.s d.i.toNat).data.toList else dec d.i.toNat
  sym := fun k => if k = 0 then .slice d.a d.n d.cap else if k = 1 then goInt d.n else if k = 3 then goInt d.s.size else if k = 6 then .int .i64 (400 / (d.s.size : Int)) else if k = 7 then .int .i64 d.i else .int .u8 (firstB d.i.toNat).toNat
  pins := pins

theorem MDrawn.ok (d : MDrawn) (pins : Nat → Option Obj) : (d.env pins).Ok := ⟨fun i => by
  simp only [MDrawn.env, goInt]
  repeat' split
  all_goals rfl⟩

structure MCfg.fits (c : MCfg) (d : MDrawn) : Prop where
  cl : c.cl = decide (d.n > 1048576)
  sl : c.sl = decide (d.s.size > 400)
  emp : c.emp = decide (d.s.size = 0)
  big : c.big = (!decide (d.s.size = 0) && manyBig d.s d.i)
  np : c.np = decide (d.i ≤ 0)
  neg : c.neg = decide (d.i < 0)
  far : c.far = decide (d.i > 1000)

structure MDrawn.Fit (d : MDrawn) (W : World) (l : List Int) (k : Nat) : Prop where
  len : d.n = l.length
  reads : ∀ w : World, (∀ (b : Nat) (o : Obj), W.heap[b]? = some o → w.heap[b]? = some o) → Kd.C (Kd.int .u8) w d.a l.length l
  cap : l.length ≤ d.cap
  draw : d.n ≤ 1048576 → spec_DrawTextMany.f k l = some (d.s, d.i)
  s : d.s.size ≤ 500
  i : d.i ∈ manyVals

theorem many_small {i : Int} (h : i ∈ manyVals) (h0 : 0 ≤ i) (h1 : i ≤ 1000) : ∃ n : Nat, i = n ∧ n ≤ 56 := by
  rcases List.mem_append.1 h with h | h
  · obtain ⟨k, hk, e⟩ := List.mem_map.1 h
    have := List.mem_range.1 hk
    have e' : (k : Int) - 3 = i := e
    exact ⟨i.toNat, by omega, by omega⟩
  · unfold oddVals at h
    simp only [List.mem_cons, List.not_mem_nil, or_false] at h
    exact ⟨i.toNat, by omega, by omega⟩

theorem dec_ne {n : Nat} : dec n ≠ [] := by
  unfold dec; split <;> simp

theorem first_ne {n : Nat} (h : n ≤ 56) : (firstB n).toNat ≠ 45 := by
  have h10 : n / 10 ≤ 5 := by omega
  unfold firstB dec
  split
  · simp [List.headD]
    omega
  · simp [List.headD]
    omega

section
variable {c : MCfg} {d : MDrawn} {W : World} {l : List Int} {k : Nat}

theorem many_atom0 {ρ : Rho} {v : Value} (h : val (d.env (pinsOf W)) ρ (.str (.atom 0)) v) : v = .string d.s := by
  simp only [val, Env.bytes, MDrawn.env, if_true, bytes_back] at h
  exact h
theorem many_atom1 {ρ : Rho} {v : Value} (h : val (d.env (pinsOf W)) ρ (.str (.atom 1)) v) : v = .string (repB d.s d.i.toNat) := by
  simp only [val, Env.bytes, MDrawn.env] at h
  rw [if_neg (by decide), if_pos trivial, bytes_back] at h
  exact h
theorem many_atom2 {ρ : Rho} {v : Value} (h : val (d.env (pinsOf W)) ρ (.str (.atom 2)) v) : v = .string (decB d.i.toNat) := by
  simp only [val, Env.bytes, MDrawn.env] at h
  rw [if_neg (by decide), if_neg (by decide)] at h
  exact h
theorem many_mk1 {ρ : Rho} : val (d.env (pinsOf W)) ρ (.str (.atom 1)) (.string (repB d.s d.i.toNat)) := by
  simp only [val, Env.bytes, MDrawn.env]
  rw [if_neg (by decide), if_pos trivial, bytes_back]
theorem many_mk2 {ρ : Rho} : val (d.env (pinsOf W)) ρ (.str (.atom 2)) (.string (decB d.i.toNat)) := by
  simp only [val, Env.bytes, MDrawn.env]
  rw [if_neg (by decide), if_neg (by decide)]
  rfl

theorem eqs_okE {E : Env} {ρ : Rho} {P : Program} {a b : List UInt8} {r : Bool} (hr : r = decide (a = b)) : ∃ z, val E ρ (.bool r) z ∧ ∀ t x y w, (do eqGuard .eql t x y (.string ⟨a.toArray⟩) (.string ⟨b.toArray⟩); binOp .eql t (.string ⟨a.toArray⟩) (.string ⟨b.toArray⟩)).run P w = .ok z w := by
  refine ⟨.bool r, by simp [val], fun t x y w => ?_⟩
  subst hr
  obtain ⟨z, h1, h2⟩ := strBin_ok (P := P) (w := w) (E := E) (ρ := ρ) (ox := x) (oy := y) (t := t) (a := .bool (decide (a = b))) (op := .eql) (x := a) (y := b) rfl
  have := val_bool h2
  subst this
  exact h1

theorem manyBin_ok (hf : c.fits d) (hd : d.Fit W l k) (hc : c.neg = false → c.far = false → True) : ∀ op x y r, manyBin c op x y = some r → ∀ (ρ : Rho) u v, val (d.env (pinsOf W)) ρ x u → val (d.env (pinsOf W)) ρ y v →
    ∃ z, val (d.env (pinsOf W)) ρ r z ∧ ∀ t a b w, (do eqGuard op t a b u v; binOp op t u v).run Tryz.prog w = .ok z w := by
  intro op x y r h ρ u v hu hv
  have hs := hd.s
  unfold manyBin at h
  split at h
  · simp only [Option.some.injEq] at h; subst h
    rw [sym_valE hu, val_int hv]
    refine cmp_ok (x := d.n) fun t a b w => ?_
    rw [hf.cl]; simp [eqGuard, goInt, binOp, Op.intCmp, MDrawn.env]; omega
  · simp only [Option.some.injEq] at h; subst h
    rw [sym_valE hu, val_int hv]
    refine cmp_ok (x := d.s.size) fun t a b w => ?_
    rw [hf.sl]; simp [eqGuard, goInt, binOp, Op.intCmp, MDrawn.env]; omega
  · simp only [Option.some.injEq] at h; subst h
    rw [sym_valE hu, val_int hv]
    refine cmp_ok (x := d.s.size) fun t a b w => ?_
    rw [hf.sl, ← decide_not]; simp [eqGuard, goInt, binOp, Op.intCmp, MDrawn.env]; omega
  · simp only [Option.some.injEq] at h; subst h
    rw [many_atom0 hu, val_str hv]
    have e : (⟨d.s.data.toList.toArray⟩ : ByteArray) = d.s := bytes_back d.s
    rw [← e]
    refine eqs_okE (a := d.s.data.toList) (b := []) ?_
    rw [hf.emp]
    apply decide_eq_decide.2
    have l1 : d.s.data.toList.length = d.s.size := by rw [Array.length_toList]; rfl
    rw [← l1, List.length_eq_zero_iff]
  · split at h
    · simp at h
    · rename_i he
      simp only [Option.some.injEq] at h; subst h
      rw [hf.emp] at he
      have he : ¬ d.s.size = 0 := fun h => he (decide_eq_true h)
      rw [val_int hu, sym_valE hv]
      refine ⟨.int .i64 (400 / (d.s.size : Int)), by simp only [val]; rfl, fun t a b w => ?_⟩
      have h0 : (d.s.size : Int) ≠ 0 := by omega
      have hq : Int.tdiv 400 (d.s.size : Int) = 400 / (d.s.size : Int) := Int.tdiv_eq_ediv_of_nonneg (by omega)
      have hq0 : 0 ≤ (400 : Int) / (d.s.size : Int) := Int.ediv_nonneg (by omega) (by omega)
      have hq1 : (400 : Int) / (d.s.size : Int) ≤ 400 := Int.ediv_le_self _ (by omega)
      have hw : IntKind.i64.wrap ((400 : Int) / (d.s.size : Int)) = 400 / (d.s.size : Int) := by
        generalize (400 : Int) / (d.s.size : Int) = q at hq0 hq1
        simp [IntKind.wrap, IntKind.bits, IntKind.signed]; omega
      simp [eqGuard, goInt, binOp, Op.intArith, MDrawn.env]
      rw [Op.intDiv, if_neg h0]
      simp only [hq, hw]
      rfl
  · split at h
    · simp at h
    · rename_i he
      simp only [Option.some.injEq] at h; subst h
      rw [hf.emp] at he
      have he : ¬ d.s.size = 0 := fun h => he (decide_eq_true h)
      rw [sym_valE hu, sym_valE hv]
      refine cmp_ok (x := d.i) (y := 400 / (d.s.size : Int)) fun t a b w => ?_
      have e : c.big = decide (d.i > 400 / (d.s.size : Int)) := by
        rw [hf.big, decide_eq_false (by omega)]; rfl
      rw [e]; simp [eqGuard, goInt, binOp, Op.intCmp, MDrawn.env]
  · simp only [Option.some.injEq] at h; subst h
    rw [sym_valE hu, val_int hv]
    refine cmp_ok (x := d.i) fun t a b w => ?_
    rw [hf.np]; simp [eqGuard, goInt, binOp, Op.intCmp, MDrawn.env]
  · simp only [Option.some.injEq] at h; subst h
    rw [sym_valE hu, val_int hv]
    refine cmp_ok (x := d.i) fun t a b w => ?_
    rw [hf.neg]; simp [eqGuard, goInt, binOp, Op.intCmp, MDrawn.env]
  · simp only [Option.some.injEq] at h; subst h
    rw [sym_valE hu, val_int hv]
    refine cmp_ok (x := d.i) fun t a b w => ?_
    rw [hf.far]; simp [eqGuard, goInt, binOp, Op.intCmp, MDrawn.env]
  · split at h
    · simp at h
    · rename_i hnf
      simp only [Option.some.injEq] at h; subst h
      rw [hf.neg, hf.far] at hnf
      simp at hnf
      obtain ⟨n, hn, hn'⟩ := many_small hd.i hnf.1 hnf.2
      rw [sym_valE hu, val_int hv]
      refine ⟨.bool true, by simp [val], fun t a b w => ?_⟩
      have hb := first_ne hn'
      have e : d.i.toNat = n := by omega
      have hb' : ((firstB n).toNat : Int) ≠ 45 := by omega
      simp [eqGuard, goInt, binOp, Op.intCmp, MDrawn.env, e, hb']
  · simp only [Option.some.injEq] at h; subst h
    rw [many_atom1 hu, many_atom1 hv]
    exact str_self_ne _
  · simp only [Option.some.injEq] at h; subst h
    rw [many_atom1 hu, many_atom1 hv]
    exact str_self_eq _
  · simp at h

theorem manyEq {x y : AV} {r : Bool} (h : manyBin c .eql x y = some (.bool r)) : (x = .str (.atom 1) ∧ y = .str (.atom 1) ∧ r = true) ∨ (x = .str (.atom 0) ∧ y = .str (.con []) ∧ c.emp = r) := by
  unfold manyBin at h
  split at h <;> simp_all

theorem manyLen_ok : ∀ x r, manyLen x = some r → ∀ (ρ : Rho) u, val (d.env (pinsOf W)) ρ x u → ∃ s, u = .string s ∧ val (d.env (pinsOf W)) ρ r (goInt s.size) := by
  intro x r h ρ u hu
  unfold manyLen at h
  split at h
  · simp only [Option.some.injEq] at h; subst h
    refine ⟨d.s, many_atom0 hu, ?_⟩
    simp only [val]; rfl
  · simp at h

theorem manyIndex_ok : ∀ x i r, manyIndex x i = some r → ∀ (ρ : Rho) u k, val (d.env (pinsOf W)) ρ x u → val (d.env (pinsOf W)) ρ i k → ∃ s j n b, u = .string s ∧ k = .int j n ∧ 0 ≤ n ∧ s[n.toNat]? = some b ∧ val (d.env (pinsOf W)) ρ r (.int .u8 b.toNat) := by
  intro x i r h ρ u k hu hk
  unfold manyIndex at h
  split at h
  · simp only [Option.some.injEq] at h; subst h
    refine ⟨decB d.i.toNat, .i64, 0, firstB d.i.toNat, many_atom2 hu, val_int hk, by omega, ?_, by simp only [val]; rfl⟩
    have hne := dec_ne (n := d.i.toNat)
    unfold firstB
    cases hdec : dec d.i.toNat with
    | nil => exact absurd hdec hne
    | cons x xs =>
      unfold decB
      rw [hdec]
      rfl
  · simp at h

theorem manyRet_ok (hf : c.fits d) (ρ : Rho) : val (d.env (pinsOf W)) ρ (manyRet c) (.tuple #[.string (manyRes d.s d.i).1, .bool (manyRes d.s d.i).2]) := by
  have key : (manyRet c = .tuple [.str (.con []), .bool false] ∧ manyRes d.s d.i = (⟨#[]⟩, false)) ∨ (manyRet c = .tuple [.str (.con []), .bool true] ∧ manyRes d.s d.i = (⟨#[]⟩, true)) ∨
      (manyRet c = .tuple [.str (.atom 1), .bool true] ∧ manyRes d.s d.i = (repB d.s d.i.toNat, true)) := by
    unfold manyRet manyRes
    rw [hf.sl, hf.np, hf.emp, hf.big]
    by_cases h1 : d.s.size > 400
    · left
      rw [decide_eq_true h1]
      exact ⟨rfl, if_pos h1⟩
    · rw [decide_eq_false h1]
      by_cases h2 : d.i ≤ 0 ∨ d.s.size = 0
      · right; left
        have e : (decide (d.i ≤ 0) || decide (d.s.size = 0)) = true := by
          rcases h2 with h | h
          · rw [decide_eq_true h, Bool.true_or]
          · rw [decide_eq_true h, Bool.or_true]
        rw [e]
        exact ⟨rfl, by rw [if_neg h1, if_pos h2]⟩
      · have h3 : ¬ d.i ≤ 0 := fun h => h2 (.inl h)
        have h4 : ¬ d.s.size = 0 := fun h => h2 (.inr h)
        rw [decide_eq_false h3, decide_eq_false h4]
        cases hb : manyBig d.s d.i with
        | true => left; exact ⟨rfl, by rw [if_neg h1, if_neg h2, if_pos rfl]⟩
        | false => right; right; exact ⟨rfl, by rw [if_neg h1, if_neg h2, if_neg Bool.false_ne_true]⟩
  rcases key with ⟨ea, eb⟩ | ⟨ea, eb⟩ | ⟨ea, eb⟩
  · rw [ea, eb]
    simp only [val, vals]
    exact ⟨_, rfl, _, _, rfl, rfl, _, _, rfl, rfl, rfl⟩
  · rw [ea, eb]
    simp only [val, vals]
    exact ⟨_, rfl, _, _, rfl, rfl, _, _, rfl, rfl, rfl⟩
  · rw [ea, eb]
    simp only [val, vals]
    exact ⟨_, rfl, _, _, rfl, many_mk1 (ρ := ρ), _, _, rfl, rfl, rfl⟩

theorem many_fits (hf : c.fits d) (h : manyFits c = true) : 0 < d.i ∧ d.i * (d.s.size : Int) ≤ 400 ∧ 0 < d.s.size ∧ d.i.toNat * d.s.size ≤ 400 := by
  unfold manyFits at h
  rw [hf.sl, hf.np, hf.emp, hf.big] at h
  by_cases h2 : d.s.size = 0
  · rw [decide_eq_true h2] at h
    simp at h
  rw [decide_eq_false h2] at h
  simp only [manyBig, Bool.not_false, Bool.true_and, Bool.and_true, Bool.and_eq_true, Bool.not_eq_true', decide_eq_false_iff_not] at h
  obtain ⟨⟨h1, h3⟩, h4⟩ := h
  have hpos : (0 : Int) < d.s.size := by omega
  have h5 : d.i * (d.s.size : Int) ≤ 400 := Int.mul_le_of_le_ediv hpos (by omega)
  refine ⟨by omega, h5, by omega, ?_⟩
  obtain ⟨m, hm⟩ := Int.eq_ofNat_of_zero_le (show 0 ≤ d.i by omega)
  rw [hm] at h5 ⊢
  exact Int.ofNat_le.mp (by rw [Int.natCast_mul]; exact h5)

theorem repB_size (s : ByteArray) (n : Nat) : (repB s n).size = n * s.size := by
  have : (repB s n).size = (Lib.repeatL s.data.toList n).length := by
    unfold repB ByteArray.size; simp
  rw [this, Lib.repeatL_length, Array.length_toList]
  rfl

theorem show_agg {E : Env} {ρ : Rho} {a1 : Option (Nat × Nat)} {n c z : Nat} {ex : Bool} {u : Value} (h : val E ρ (.agg [.slice a1 n c ex z]) u) : ∃ ao n' c', u = .agg #[.slice ao n' c'] := by
  obtain ⟨us, rfl, hu⟩ := val_agg h
  obtain ⟨s0, rfl, hs0⟩ := oneE hu
  cases a1 with
  | none => simp only [val] at hs0; exact ⟨_, _, _, by rw [hs0.2.2]⟩
  | some q => obtain ⟨i, o⟩ := q; obtain ⟨b, m, c', _, e, _⟩ := val_slice hs0; exact ⟨_, _, _, by rw [e]⟩
theorem text_agg {E : Env} {ρ : Rho} {x : AStr} {n : Int} {u : Value} (h : val E ρ (.agg [.int .i64 3, .str x, .int .i64 n]) u) : ∃ t, val E ρ (.str x) (.string t) ∧ u = .agg #[.int .i64 3, .string t, .int .i64 n] := by
  obtain ⟨vs', rfl, hv'⟩ := val_agg h
  simp only [vals] at hv'
  obtain ⟨x1, r1, e1, g1, x2, r2, e2, g2, x3, r3, e3, g3, rfl⟩ := hv'
  subst e3; subst e2
  have e1' : vs' = #[x1, x2, x3] := Array.ext' e1
  have : ∃ t, x2 = .string t := by
    simp only [val] at g2
    exact ⟨_, g2⟩
  obtain ⟨t, rfl⟩ := this
  exact ⟨t, g2, by rw [e1', val_int g1, val_int g3]⟩

theorem pinnedM {ρ : Rho} {H : Heap} {w : World} (h : Rel (d.env (pinsOf W)) ρ H w) : ∀ (b : Nat) (o : Obj), W.heap[b]? = some o → w.heap[b]? = some o := fun b o hb => (h.pin b o hb).1

theorem manyCall_ok (hf : c.fits d) (hd : d.Fit W l k) : ∀ f args H r H', manyCall c f args H = some (r, H') → ∀ (ρ : Rho) (w : World) (vs : Array Value), Rel (d.env (pinsOf W)) ρ H w → vals (d.env (pinsOf W)) ρ args vs.toList →
    Calls Tryz.prog f vs w fun e w' => ∃ ρ' v, e = .returned v ∧ val (d.env (pinsOf W)) ρ' r v ∧ Rel (d.env (pinsOf W)) ρ' H' w' ∧ Step ρ H w ρ' H' w' := by
  intro f args H r H' h ρ w vs hr hv
  have hs := hd.s
  have num : (c.neg || c.far) = false → ∃ n : Nat, d.i = n ∧ n ≤ 56 ∧ d.i.toNat = n := by
    intro h
    rw [hf.neg, hf.far] at h
    simp at h
    obtain ⟨n, hn, hn'⟩ := many_small hd.i h.1 h.2
    exact ⟨n, hn, hn', by omega⟩
  unfold manyCall at h
  split at h
  · simp only [Option.some.injEq, Prod.mk.injEq] at h
    obtain ⟨rfl, rfl⟩ := h
    obtain ⟨u, v, rfl, h1, h2⟩ := twoE hv
    rw [val_str h1, val_int h2]
    refine (X.indexByte _ _ w).mono ?_
    rintro e w' ⟨rfl, rfl⟩
    exact ⟨ρ, _, rfl, by simp [val], hr, Step.refl _ _ _⟩
  · obtain ⟨u, rfl, h1⟩ := oneE hv
    exact bCopy_ok h hr h1
  · obtain ⟨u, rfl, h1⟩ := oneE hv
    exact bString_ok h hr h1
  · obtain ⟨u, rfl, h1⟩ := oneE hv
    exact bCopy0_ok h hr h1
  · obtain ⟨u, rfl, h1⟩ := oneE hv
    exact bString0_ok h hr h1
  · split at h
    · rename_i hfit
      simp only [Option.some.injEq, Prod.mk.injEq] at h
      obtain ⟨rfl, rfl⟩ := h
      obtain ⟨u, v, rfl, h1, h2⟩ := twoE hv
      obtain ⟨_, _, _, hle⟩ := many_fits hf hfit
      have hsz : (repB d.s d.i.toNat).size ≤ 400 := by rw [repB_size]; exact hle
      obtain ⟨ao, n', c', rfl⟩ := show_agg h1
      obtain ⟨t, ht, rfl⟩ := text_agg h2
      have e := many_atom1 ht
      simp only [Value.string.injEq] at e
      subst e
      refine (X.show3 w ao n' c' _ _ hsz).mono ?_
      rintro e w' ⟨rfl, hb⟩
      obtain ⟨p1, p2⟩ := below_rel hr hb
      exact ⟨ρ, _, rfl, many_mk1, p1, p2⟩
    · simp at h
  · simp only [Option.some.injEq, Prod.mk.injEq] at h
    obtain ⟨rfl, rfl⟩ := h
    obtain ⟨u, v, rfl, h1, h2⟩ := twoE hv
    obtain ⟨ao, n', c', rfl⟩ := show_agg h1
    obtain ⟨t, ht, rfl⟩ := text_agg h2
    have e := val_str ht
    simp only [Value.string.injEq] at e
    subst e
    refine (X.show3 w ao n' c' _ _ (by decide)).mono ?_
    rintro e w' ⟨rfl, hb⟩
    obtain ⟨p1, p2⟩ := below_rel hr hb
    exact ⟨ρ, _, rfl, ht, p1, p2⟩
  · split at h
    · simp at h
    · rename_i hcl
      simp only [Option.some.injEq, Prod.mk.injEq] at h
      obtain ⟨rfl, rfl⟩ := h
      obtain ⟨u, rfl, h1⟩ := oneE hv
      have hu := sym_valE h1
      have hu' : u = .slice d.a l.length d.cap := by rw [hu, ← hd.len]; rfl
      rw [hu']
      have hn : d.n ≤ 1048576 := by
        rw [hf.cl] at hcl
        simp at hcl
        exact hcl
      refine (spec_DrawTextMany.calls k d.a d.cap l d.s d.i w (hd.reads w (pinnedM hr)) hd.cap (hd.draw hn)).mono ?_
      rintro e w' ⟨rfl, hb⟩
      obtain ⟨p1, p2⟩ := below_rel hr hb
      refine ⟨ρ, _, rfl, ?_, p1, p2⟩
      simp only [val, vals]
      refine ⟨_, rfl, _, _, rfl, ?_, _, _, rfl, rfl, rfl⟩
      show Value.string d.s = _
      simp only [Env.bytes, MDrawn.env, if_true, bytes_back]
  · split at h
    · rename_i hfit
      simp only [Option.some.injEq, Prod.mk.injEq] at h
      obtain ⟨rfl, rfl⟩ := h
      obtain ⟨u, v, rfl, h1, h2⟩ := twoE hv
      obtain ⟨hp, _, _, hle⟩ := many_fits hf hfit
      have hi : d.i = (d.i.toNat : Int) := by omega
      have e2 : v = .int .i64 (d.i.toNat : Int) := by rw [sym_valE h2, ← hi]; rfl
      have hbound : d.i.toNat ≤ 400 := by
        have : d.i.toNat * 1 ≤ d.i.toNat * d.s.size := Nat.mul_le_mul_left _ (by omega)
        omega
      rw [many_atom0 h1, e2]
      refine (X.repeats d.s d.i.toNat w (by omega) (by rw [Nat.mul_comm]; omega)).mono ?_
      rintro e w' ⟨rfl, hb⟩
      obtain ⟨p1, p2⟩ := below_rel hr hb
      exact ⟨ρ, _, rfl, many_mk1, p1, p2⟩
    · simp at h
  · simp only [Option.some.injEq, Prod.mk.injEq] at h
    obtain ⟨rfl, rfl⟩ := h
    obtain ⟨u, v, rfl, h1, h2⟩ := twoE hv
    have e2 : v = .int .i64 d.i := by rw [sym_valE h2]; rfl
    rw [many_atom0 h1, e2]
    refine (spec_TextMany.calls (500 + 1) d.s d.i _ _ w (specMany_ok d.s d.i hs 500 (by omega))).mono ?_
    rintro e w' ⟨rfl, ⟨n, rfl⟩⟩
    exact ⟨ρ, _, rfl, manyRet_ok hf ρ, hr.drew (w.drawn + n), Step.drew ρ H w (w.drawn + n)⟩
  · split at h
    · simp at h
    · rename_i hnf
      simp only [Option.some.injEq, Prod.mk.injEq] at h
      obtain ⟨rfl, rfl⟩ := h
      obtain ⟨n, hn, hn', hnn⟩ := num (by simpa using hnf)
      obtain ⟨u, rfl, h1⟩ := oneE hv
      have e : u = .int .i64 (n : Int) := by rw [sym_valE h1, ← hn]; rfl
      rw [e]
      refine (dec_decimal hn' w).mono ?_
      rintro e w' ⟨rfl, hb⟩
      obtain ⟨p1, p2⟩ := below_rel hr hb
      exact ⟨ρ, _, rfl, by rw [← hnn]; exact many_mk2, p1, p2⟩
  · split at h
    · simp at h
    · rename_i hnf
      simp only [Option.some.injEq, Prod.mk.injEq] at h
      obtain ⟨rfl, rfl⟩ := h
      obtain ⟨n, hn, hn', hnn⟩ := num (by simpa using hnf)
      obtain ⟨u, rfl, h1⟩ := oneE hv
      rw [many_atom2 h1, hnn]
      refine (dec_lit hn' w).mono ?_
      rintro e w' ⟨rfl, hb⟩
      obtain ⟨p1, p2⟩ := below_rel hr hb
      refine ⟨ρ, _, rfl, ?_, p1, p2⟩
      simp only [val, vals]
      refine ⟨_, rfl, _, _, rfl, rfl, _, _, rfl, ?_, _, _, rfl, ⟨trivial, trivial, rfl⟩, _, _, rfl, ⟨trivial, trivial, rfl⟩, rfl⟩
      rw [← hnn]
      exact many_mk2 (ρ := ρ)
  · split at h
    · simp at h
    · rename_i hnf
      simp only [Option.some.injEq, Prod.mk.injEq] at h
      obtain ⟨rfl, rfl⟩ := h
      obtain ⟨n, hn, hn', hnn⟩ := num (by simpa using hnf)
      obtain ⟨u, rfl, h1⟩ := oneE hv
      rw [many_atom2 h1, hnn]
      refine (dec_ok hn' w).mono ?_
      rintro e w' ⟨rfl, hb⟩
      obtain ⟨p1, p2⟩ := below_rel hr hb
      exact ⟨ρ, _, rfl, by simp [val], p1, p2⟩
  · split at h
    · simp at h
    · rename_i hnf
      simp only [Option.some.injEq, Prod.mk.injEq] at h
      obtain ⟨rfl, rfl⟩ := h
      obtain ⟨n, hn, hn', hnn⟩ := num (by simpa using hnf)
      obtain ⟨u, v, rfl, h1, h2⟩ := twoE hv
      rw [many_atom2 h1, val_int h2, hnn]
      refine (dec_small hn' w).mono ?_
      rintro e w' ⟨rfl, hb⟩
      obtain ⟨p1, p2⟩ := below_rel hr hb
      exact ⟨ρ, _, rfl, by rw [← hn]; simp only [val]; rfl, p1, p2⟩
  · simp at h

theorem manyFacts_ok (hf : c.fits d) (hd : d.Fit W l k) : FactsOk (d.env (pinsOf W)) Tryz.prog (manyFacts c) where
  bin := manyBin_ok hf hd (fun _ _ => trivial)
  binEq := by
    intro x y r h ρ u v hu hv
    rcases manyEq (show manyBin c .eql x y = some (.bool r) from h) with ⟨rfl, rfl, rfl⟩ | ⟨rfl, rfl, h'⟩
    · refine ⟨_, _, many_atom1 hu, many_atom1 hv, ?_⟩
      rw [Bool.eq_iff_iff]
      simp only [iff_true]
      exact (Go.MapKept.bytes_beq _ _).2 rfl
    · subst h'
      refine ⟨d.s, ⟨#[]⟩, many_atom0 hu, val_str hv, ?_⟩
      rw [hf.emp, Bool.eq_iff_iff]
      simp only [decide_eq_true_eq]
      refine (Go.MapKept.bytes_beq d.s ⟨#[]⟩).trans ⟨fun e => by rw [e]; rfl, fun e => ?_⟩
      cases hp : d.s with
      | mk b =>
        rw [hp] at e
        have : b = #[] := Array.eq_empty_of_size_eq_zero e
        rw [this]
  len := manyLen_ok
  lenS := by
    intro i r h
    have h' : (if i = 0 then some (AV.sym 1) else none) = some r := h
    split at h'
    · rename_i hi
      subst hi
      simp only [Option.some.injEq] at h'
      subst h'
      exact ⟨d.a, d.n, d.cap, rfl, fun ρ => by simp only [val]; rfl⟩
    · simp at h'
  index := manyIndex_ok
  slice := by intro x lo hi r h; cases h
  call := manyCall_ok hf hd
end
end Go.Ev
