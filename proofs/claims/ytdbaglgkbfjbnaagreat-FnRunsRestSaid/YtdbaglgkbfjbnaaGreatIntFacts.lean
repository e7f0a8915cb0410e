/- What the evaluator is told for the laws on integers (FnRunsOrder, Sum, Difference, Product, Quotient, Rest): the facts. -/
import Derived.Test.YtdbaglgkbfjbnaaGreatEvX
import Derived.Lib.IndexBytes
import Derived.Test.YtdbaglgkbfjbnaaGreatDvI

set_option linter.unusedVariables false
set_option linter.unusedSimpArgs false
namespace Go.Ev

/-- What is known of the drawn integers a and b (texts 0 and 1; 2: the result; 3 and 4: a and b without sign). -/
structure OCfg where
  cl : Bool
  ia : Bool
  ib : Bool
  na : Bool
  nb : Bool
  same : Bool
  ok : Bool
  lt : Bool
  zero : Bool

def intBin (c : OCfg) (op : BinOp) (x y : AV) : Option AV :=
  match op, x, y with
  | .gtr, .sym 1, .int .i64 1048576 => some (.bool c.cl)
  | .neq, .sym 2, .sym 2 => some (.bool false)
  | .eql, .sym 2, .sym 2 => some (.bool true)
  | .eql, .sym 2, .int .i64 (-2) => some (.bool (!(c.ia && c.ib)))
  | .lss, .sym 2, .int .i64 0 => some (.bool c.lt)
  | .gtr, .sym 3, .int .i64 0 => if c.ia then some (.bool true) else none
  | .gtr, .sym 4, .int .i64 0 => if c.ib then some (.bool true) else none
  | .eql, .sym 9, .int .u8 45 => if c.ia && !c.na then some (.bool false) else none
  | .eql, .sym 10, .int .u8 45 => if c.ib && !c.nb then some (.bool false) else none
  | .neq, .sym 9, .int .u8 45 => if c.ia && !c.na then some (.bool true) else none
  | .neq, .sym 10, .int .u8 45 => if c.ib && !c.nb then some (.bool true) else none
  | .neq, .sym 11, .int .u8 45 => if c.ia && c.na then some (.bool true) else none
  | .neq, .sym 12, .int .u8 45 => if c.ib && c.nb then some (.bool true) else none
  | .neq, .str (.atom 2), .str (.atom 2) => some (.bool false)
  | .eql, .str (.atom 2), .str (.atom 2) => some (.bool true)
  | .eql, .str (.atom 1), .str (.atom 0) => if !c.na && !c.nb then some (.bool c.same) else none
  | .eql, .str (.atom 4), .str (.atom 0) => if !c.na && c.nb then some (.bool c.same) else none
  | .eql, .str (.atom 1), .str (.atom 3) => if c.na && !c.nb then some (.bool c.same) else none
  | .eql, .str (.atom 4), .str (.atom 3) => if c.na && c.nb then some (.bool c.same) else none
  | .eql, .str (.atom 1), .str (.con [48]) => some (.bool c.zero)
  | .eql, .str (.atom 0), .str (.con [48]) => if c.same && !c.na && !c.nb then some (.bool c.zero) else if c.same && c.na && c.nb && c.ia then some (.bool false) else none
  | .eql, .str (.atom 3), .str (.con [48]) => if c.same && c.na && !c.nb then some (.bool c.zero) else none
  | _, _, _ => none

def intLen : AV → Option AV
  | .str (.atom 0) => some (.sym 3)
  | .str (.atom 1) => some (.sym 4)
  | _ => none

def intIndex (c : OCfg) (x i : AV) : Option AV :=
  match x, i with
  | .str (.atom 0), .int .i64 0 => if c.ia then some (if c.na then .int .u8 45 else .sym 9) else none
  | .str (.atom 1), .int .i64 0 => if c.ib then some (if c.nb then .int .u8 45 else .sym 10) else none
  | .str (.atom 3), .int .i64 0 => if c.ia && c.na then some (.sym 11) else none
  | .str (.atom 4), .int .i64 0 => if c.ib && c.nb then some (.sym 12) else none
  | _, _ => none

def intSlice (c : OCfg) (x : AV) (lo hi : Option AV) : Option AV :=
  match x, lo, hi with
  | .str (.atom 0), some (.int .i64 1), none => if c.ia && c.na then some (.str (.atom 3)) else none
  | .str (.atom 1), some (.int .i64 1), none => if c.ib && c.nb then some (.str (.atom 4)) else none
  | _, _, _ => none

def intRet (c : OCfg) : AV := if c.ok then .tuple [.str (.atom 2), .bool true] else .tuple [.str (.con []), .bool false]

/-- Which functions: the draw, the operation of the program and of the reference (28: the order). -/
structure OFun where
  draw : Nat
  impl : Nat
  spec : Nat

def intCall (o : OFun) (c : OCfg) (f : FuncId) (args : List AV) (H : Heap) : Option (AV × Heap) :=
  match args with
  | [.str (.con l), .int .u8 b] => if f = 123 then some (.int .i64 (Lib.indexByte l b.toNat.toUInt8), H) else none
  | [.ptr (some (i, 1))] => if f = 153 then bCopy i H else if f = 103 then bString i H else none
  | [.ptr (some (i, 0))] => if f = 153 then bCopy0 i H else if f = 103 then bString0 i H else none
  | [.agg [.slice _ _ _ _ _], .agg [.int .i64 2, .str (.atom 2), .int .i64 _]] => if f = 291 ∧ c.ok = true then some (.str (.atom 2), H) else none
  | [.sym 0] => if f = o.draw ∧ c.cl = false then some (.tuple [.str (.atom 0), .str (.atom 1)], H) else none
  | [.str (.atom 0)] => if f = 34 then some (.bool c.ia, H) else none
  | [.str (.atom 1)] => if f = 34 then some (.bool c.ib, H) else none
  | [.str (.atom 3)] => if f = 34 ∧ c.na = true ∧ c.ia = true then some (.bool true, H) else none
  | [.str (.atom 4)] => if f = 34 ∧ c.nb = true ∧ c.ib = true then some (.bool true, H) else none
  | [.str (.con [48]), .str (.atom 3)] => if f = 39 ∧ c.na = true ∧ c.ia = true then some (.tuple [.str (.atom 0), .bool true], H) else none
  | [.str (.con [48]), .str (.atom 4)] => if f = 39 ∧ c.nb = true ∧ c.ib = true then some (.tuple [.str (.atom 1), .bool true], H) else none
  | [.str (.con [48]), .str (.atom 0)] => if f = 39 ∧ c.na = false ∧ c.nb = true ∧ c.ib = true ∧ c.same = true then some (.tuple [.str (.atom 1), .bool true], H) else none
  | [.str (.atom 0), .str (.atom 0)] => if f = o.impl ∧ c.na = c.nb ∧ c.same = true then some (if o.impl = 28 then .sym 2 else intRet c, H) else none
  | [.str (.atom 0), .str (.atom 3)] => if f = o.impl ∧ c.na = true ∧ c.nb = false ∧ c.same = true then some (if o.impl = 28 then .sym 2 else intRet c, H) else none
  | [.str (.atom 0), .str (.atom 1)] => if f = o.impl ∨ f = o.spec then some (if o.impl = 28 then .sym 2 else intRet c, H) else none
  | _ => none

def intFacts (o : OFun) (c : OCfg) : Facts :=
  { Facts.none with call := intCall o c, lenS := fun i => if i = 0 then some (.sym 1) else none, len := intLen, bin := intBin c, index := intIndex c, slice := intSlice c }
end Go.Ev

/- The facts of the laws on integers hold, if the leaves answer as they should. -/
set_option linter.unusedVariables false
set_option linter.unusedSimpArgs false
namespace Go.Ev
open Go.Proofs Go.RowKit

/-- The code slice, the integers x and y, what the operation answers. -/
structure IDrawn where
  a : Option Addr
  n : Nat
  cap : Nat
  x : ByteArray
  y : ByteArray
  out : ByteArray
  ok : Bool
  cmp : Int

def first (s : ByteArray) : UInt8 := s.data.toList.headD 0
def isNeg (s : ByteArray) : Bool := decide (first s = 45)
def body (s : ByteArray) : ByteArray := s.extract 1 s.size
def konst (s : ByteArray) : ByteArray := if isNeg s then body s else s

def IDrawn.env (d : IDrawn) (pins : Nat → Option Obj) : Env where
  str := fun k => if k = 0 then d.x.data.toList else if k = 1 then d.y.data.toList else if k = 2 then d.out.data.toList else if k = 3 then (body d.x).data.toList else (body d.y).data.toList
  sym := fun k => if k = 0 then .slice d.a d.n d.cap else if k = 1 then goInt d.n else if k = 2 then .int .i64 d.cmp else if k = 3 then goInt d.x.size else if k = 4 then goInt d.y.size
    else if k = 9 then .int .u8 (first d.x).toNat else if k = 10 then .int .u8 (first d.y).toNat else if k = 11 then .int .u8 (first (body d.x)).toNat else .int .u8 (first (body d.y)).toNat
  pins := pins

theorem IDrawn.okE (d : IDrawn) (pins : Nat → Option Obj) : (d.env pins).Ok := ⟨fun i => by
  simp only [IDrawn.env, goInt]
  repeat' split
  all_goals rfl⟩

structure OCfg.fits (c : OCfg) (d : IDrawn) : Prop where
  cl : c.cl = decide (d.n > 1048576)
  na : c.na = isNeg d.x
  nb : c.nb = isNeg d.y
  same : c.same = decide (konst d.x = konst d.y)
  ok : c.ok = d.ok
  lt : c.lt = decide (d.cmp < 0)
  bad : (!(c.ia && c.ib)) = decide (d.cmp = -2)
  zero : c.zero = decide (d.y = ⟨#[48]⟩)

def zeroB : ByteArray := ⟨#[48]⟩

/-- What the leaves answer. -/
structure IDrawn.Fit (o : OFun) (c : OCfg) (d : IDrawn) (W : World) : Prop where
  draw : d.n ≤ 1048576 → ∀ w : World, (∀ (b : Nat) (o : Obj), W.heap[b]? = some o → w.heap[b]? = some o) →
    Calls Tryz.prog o.draw #[.slice d.a d.n d.cap] w fun e w' => e = .returned (.tuple #[.string d.x, .string d.y]) ∧ Below w.heap.size w w'
  okX : ∀ w, Calls Tryz.prog 34 #[.string d.x] w fun e w' => e = .returned (.bool c.ia) ∧ Below w.heap.size w w'
  okY : ∀ w, Calls Tryz.prog 34 #[.string d.y] w fun e w' => e = .returned (.bool c.ib) ∧ Below w.heap.size w w'
  sizeX : c.ia = true → d.x.data.toList ≠ []
  sizeY : c.ib = true → d.y.data.toList ≠ []
  bodyX : c.ia = true → isNeg d.x = true → (body d.x).data.toList ≠ [] ∧ first (body d.x) ≠ 45
  bodyY : c.ib = true → isNeg d.y = true → (body d.y).data.toList ≠ [] ∧ first (body d.y) ≠ 45
  okBX : c.ia = true → isNeg d.x = true → ∀ w, Calls Tryz.prog 34 #[.string (body d.x)] w fun e w' => e = .returned (.bool true) ∧ Below w.heap.size w w'
  okBY : c.ib = true → isNeg d.y = true → ∀ w, Calls Tryz.prog 34 #[.string (body d.y)] w fun e w' => e = .returned (.bool true) ∧ Below w.heap.size w w'
  subX : c.ia = true → isNeg d.x = true → ∀ w, Calls Tryz.prog 39 #[.string zeroB, .string (body d.x)] w fun e w' => e = .returned (.tuple #[.string d.x, .bool true]) ∧ Below w.heap.size w w'
  subY : c.ib = true → isNeg d.y = true → ∀ w, Calls Tryz.prog 39 #[.string zeroB, .string (body d.y)] w fun e w' => e = .returned (.tuple #[.string d.y, .bool true]) ∧ Below w.heap.size w w'
  opI : ∀ w, Calls Tryz.prog o.impl #[.string d.x, .string d.y] w fun e w' => e = .returned (if o.impl = 28 then .int .i64 d.cmp else if d.ok then .tuple #[.string d.out, .bool true] else .tuple #[.string ⟨#[]⟩, .bool false]) ∧ Below w.heap.size w w'
  opS : ∀ w, Calls Tryz.prog o.spec #[.string d.x, .string d.y] w fun e w' => e = .returned (if o.impl = 28 then .int .i64 d.cmp else if d.ok then .tuple #[.string d.out, .bool true] else .tuple #[.string ⟨#[]⟩, .bool false]) ∧ Below w.heap.size w w'
  out : d.out.size ≤ 400
  nz : c.ia = true → isNeg d.x = true → d.x ≠ zeroB

theorem bytes_inj {s t : ByteArray} (h : s.data.toList = t.data.toList) : s = t := by
  rw [← bytes_back s, ← bytes_back t, h]

section
variable {o : OFun} {c : OCfg} {d : IDrawn} {W : World}

theorem i0 {ρ : Rho} {v : Value} (h : val (d.env (pinsOf W)) ρ (.str (.atom 0)) v) : v = .string d.x := by
  simp only [val] at h; exact h.trans (congrArg Value.string (bytes_back d.x))
theorem i1 {ρ : Rho} {v : Value} (h : val (d.env (pinsOf W)) ρ (.str (.atom 1)) v) : v = .string d.y := by
  simp only [val] at h; exact h.trans (congrArg Value.string (bytes_back d.y))
theorem i2 {ρ : Rho} {v : Value} (h : val (d.env (pinsOf W)) ρ (.str (.atom 2)) v) : v = .string d.out := by
  simp only [val] at h; exact h.trans (congrArg Value.string (bytes_back d.out))
theorem i3 {ρ : Rho} {v : Value} (h : val (d.env (pinsOf W)) ρ (.str (.atom 3)) v) : v = .string (body d.x) := by
  simp only [val] at h; exact h.trans (congrArg Value.string (bytes_back (body d.x)))
theorem i4 {ρ : Rho} {v : Value} (h : val (d.env (pinsOf W)) ρ (.str (.atom 4)) v) : v = .string (body d.y) := by
  simp only [val] at h; exact h.trans (congrArg Value.string (bytes_back (body d.y)))
theorem m0 {ρ : Rho} : val (d.env (pinsOf W)) ρ (.str (.atom 0)) (.string d.x) := by
  simp only [val]; exact (congrArg Value.string (bytes_back d.x)).symm
theorem m1 {ρ : Rho} : val (d.env (pinsOf W)) ρ (.str (.atom 1)) (.string d.y) := by
  simp only [val]; exact (congrArg Value.string (bytes_back d.y)).symm
theorem m2 {ρ : Rho} : val (d.env (pinsOf W)) ρ (.str (.atom 2)) (.string d.out) := by
  simp only [val]; exact (congrArg Value.string (bytes_back d.out)).symm
theorem m3 {ρ : Rho} : val (d.env (pinsOf W)) ρ (.str (.atom 3)) (.string (body d.x)) := by
  simp only [val]; exact (congrArg Value.string (bytes_back (body d.x))).symm
theorem m4 {ρ : Rho} : val (d.env (pinsOf W)) ρ (.str (.atom 4)) (.string (body d.y)) := by
  simp only [val]; exact (congrArg Value.string (bytes_back (body d.y))).symm

theorem str_eq {E : Env} {ρ : Rho} {P : Program} {s t : ByteArray} {r : Bool} (h : r = decide (s = t)) : ∃ z, val E ρ (.bool r) z ∧ ∀ ty a b w, (do eqGuard .eql ty a b (.string s) (.string t); binOp .eql ty (.string s) (.string t)).run P w = .ok z w := by
  refine ⟨.bool r, by simp [val], fun ty a b w => ?_⟩
  obtain ⟨z, h1, h2⟩ := strBin_ok (P := P) (w := w) (E := E) (ρ := ρ) (ox := a) (oy := b) (t := ty) (a := .bool (decide (s.data.toList = t.data.toList))) (op := .eql) (x := s.data.toList) (y := t.data.toList) rfl
  have := val_bool h2
  subst this
  have e : decide (s.data.toList = t.data.toList) = r := by
    rw [h]; apply decide_eq_decide.2
    exact ⟨bytes_inj, fun e => by rw [e]⟩
  rw [e] at h1
  simpa [bytes_back] using h1

theorem int_eq {E : Env} {ρ : Rho} {P : Program} {k : IntKind} {x y : Int} {r : Bool} (h : r = decide (x = y)) : ∃ z, val E ρ (.bool r) z ∧ ∀ ty a b w, (do eqGuard .eql ty a b (.int k x) (.int k y); binOp .eql ty (.int k x) (.int k y)).run P w = .ok z w := by
  refine ⟨.bool r, by simp [val], fun ty a b w => ?_⟩
  subst h
  simp [eqGuard, binOp, Op.intCmp]
  rw [Bool.eq_iff_iff]; simp
theorem int_ne {E : Env} {ρ : Rho} {P : Program} {k : IntKind} {x y : Int} {r : Bool} (h : r = !decide (x = y)) : ∃ z, val E ρ (.bool r) z ∧ ∀ ty a b w, (do eqGuard .neq ty a b (.int k x) (.int k y); binOp .neq ty (.int k x) (.int k y)).run P w = .ok z w := by
  refine ⟨.bool r, by simp [val], fun ty a b w => ?_⟩
  subst h
  simp [eqGuard, binOp, Op.intCmp]
  rw [Bool.eq_iff_iff]; simp
theorem byte_ne {b : UInt8} (h : b ≠ 45) : ((b.toNat : Nat) : Int) ≠ 45 := by
  intro e
  apply h
  apply UInt8.toNat_inj.1
  show b.toNat = 45
  omega

theorem size_pos {s : ByteArray} (h : s.data.toList ≠ []) : 0 < s.size := by
  have : s.data.toList.length = s.size := by rw [Array.length_toList]; rfl
  cases hs : s.data.toList with
  | nil => exact absurd hs h
  | cons a l => rw [hs] at this; simp at this; omega

theorem intBin_ok (hf : c.fits d) (hd : d.Fit o c W) : ∀ op x y r, intBin c op x y = some r → ∀ (ρ : Rho) u v, val (d.env (pinsOf W)) ρ x u → val (d.env (pinsOf W)) ρ y v →
    ∃ z, val (d.env (pinsOf W)) ρ r z ∧ ∀ t a b w, (do eqGuard op t a b u v; binOp op t u v).run Tryz.prog w = .ok z w := by
  intro op x y r h ρ u v hu hv
  have ks : ∀ (p q : ByteArray), konst d.x = p → konst d.y = q → c.same = decide (q = p) := by
    intro p q hp hq; rw [hf.same, hp, hq]; apply decide_eq_decide.2; exact eq_comm
  have kx : c.na = true → konst d.x = body d.x := fun h => by unfold konst; rw [← hf.na, h]; rfl
  have kx' : c.na = false → konst d.x = d.x := fun h => by unfold konst; rw [← hf.na, h]; rfl
  have ky : c.nb = true → konst d.y = body d.y := fun h => by unfold konst; rw [← hf.nb, h]; rfl
  have ky' : c.nb = false → konst d.y = d.y := fun h => by unfold konst; rw [← hf.nb, h]; rfl
  unfold intBin at h
  split at h
  · simp only [Option.some.injEq] at h; subst h
    rw [sym_valE hu, val_int hv]
    refine cmp_ok (x := d.n) fun t a b w => ?_
    rw [hf.cl]; simp [eqGuard, goInt, binOp, Op.intCmp, IDrawn.env]; omega
  · simp only [Option.some.injEq] at h; subst h
    rw [sym_valE hu, sym_valE hv]
    exact int_ne (x := d.cmp) (y := d.cmp) (by simp)
  · simp only [Option.some.injEq] at h; subst h
    rw [sym_valE hu, sym_valE hv]
    exact int_eq (x := d.cmp) (y := d.cmp) (by simp)
  · simp only [Option.some.injEq] at h; subst h
    rw [sym_valE hu, val_int hv]
    exact int_eq (x := d.cmp) (y := -2) hf.bad
  · simp only [Option.some.injEq] at h; subst h
    rw [sym_valE hu, val_int hv]
    refine cmp_ok (x := d.cmp) fun t a b w => ?_
    rw [hf.lt]; simp [eqGuard, goInt, binOp, Op.intCmp, IDrawn.env]
  · split at h
    · rename_i hc
      simp only [Option.some.injEq] at h; subst h
      rw [sym_valE hu, val_int hv]
      have := size_pos (hd.sizeX hc)
      refine cmp_ok (x := d.x.size) fun t a b w => ?_
      simp [eqGuard, goInt, binOp, Op.intCmp, IDrawn.env]; omega
    · simp at h
  · split at h
    · rename_i hc
      simp only [Option.some.injEq] at h; subst h
      rw [sym_valE hu, val_int hv]
      have := size_pos (hd.sizeY hc)
      refine cmp_ok (x := d.y.size) fun t a b w => ?_
      simp [eqGuard, goInt, binOp, Op.intCmp, IDrawn.env]; omega
    · simp at h
  · split at h
    · rename_i hc
      simp only [Bool.and_eq_true, Bool.not_eq_true'] at hc
      simp only [Option.some.injEq] at h; subst h
      rw [sym_valE hu, val_int hv]
      have hn : first d.x ≠ 45 := by have := hc.2; rw [hf.na] at this; exact of_decide_eq_false this
      exact int_eq (k := .u8) (x := (first d.x).toNat) (y := 45) (decide_eq_false (byte_ne hn)).symm
    · simp at h
  · split at h
    · rename_i hc
      simp only [Bool.and_eq_true, Bool.not_eq_true'] at hc
      simp only [Option.some.injEq] at h; subst h
      rw [sym_valE hu, val_int hv]
      have hn : first d.y ≠ 45 := by have := hc.2; rw [hf.nb] at this; exact of_decide_eq_false this
      exact int_eq (k := .u8) (x := (first d.y).toNat) (y := 45) (decide_eq_false (byte_ne hn)).symm
    · simp at h
  · split at h
    · rename_i hc
      simp only [Bool.and_eq_true, Bool.not_eq_true'] at hc
      simp only [Option.some.injEq] at h; subst h
      rw [sym_valE hu, val_int hv]
      have hn : first d.x ≠ 45 := by have := hc.2; rw [hf.na] at this; exact of_decide_eq_false this
      exact int_ne (k := .u8) (x := (first d.x).toNat) (y := 45) (by rw [decide_eq_false (byte_ne hn)]; rfl)
    · simp at h
  · split at h
    · rename_i hc
      simp only [Bool.and_eq_true, Bool.not_eq_true'] at hc
      simp only [Option.some.injEq] at h; subst h
      rw [sym_valE hu, val_int hv]
      have hn : first d.y ≠ 45 := by have := hc.2; rw [hf.nb] at this; exact of_decide_eq_false this
      exact int_ne (k := .u8) (x := (first d.y).toNat) (y := 45) (by rw [decide_eq_false (byte_ne hn)]; rfl)
    · simp at h
  · split at h
    · rename_i hc
      simp only [Bool.and_eq_true] at hc
      simp only [Option.some.injEq] at h; subst h
      rw [sym_valE hu, val_int hv]
      have hn := (hd.bodyX hc.1 (by rw [← hf.na]; exact hc.2)).2
      exact int_ne (k := .u8) (x := (first (body d.x)).toNat) (y := 45) (by rw [decide_eq_false (byte_ne hn)]; rfl)
    · simp at h
  · split at h
    · rename_i hc
      simp only [Bool.and_eq_true] at hc
      simp only [Option.some.injEq] at h; subst h
      rw [sym_valE hu, val_int hv]
      have hn := (hd.bodyY hc.1 (by rw [← hf.nb]; exact hc.2)).2
      exact int_ne (k := .u8) (x := (first (body d.y)).toNat) (y := 45) (by rw [decide_eq_false (byte_ne hn)]; rfl)
    · simp at h
  · simp only [Option.some.injEq] at h; subst h
    rw [i2 hu, i2 hv]
    exact str_self_ne _
  · simp only [Option.some.injEq] at h; subst h
    rw [i2 hu, i2 hv]
    exact str_self_eq _
  · split at h
    · rename_i hc
      simp only [Bool.and_eq_true, Bool.not_eq_true'] at hc
      simp only [Option.some.injEq] at h; subst h
      rw [i1 hu, i0 hv]
      exact str_eq (ks _ _ (kx' hc.1) (ky' hc.2))
    · simp at h
  · split at h
    · rename_i hc
      simp only [Bool.and_eq_true, Bool.not_eq_true'] at hc
      simp only [Option.some.injEq] at h; subst h
      rw [i4 hu, i0 hv]
      exact str_eq (ks _ _ (kx' hc.1) (ky hc.2))
    · simp at h
  · split at h
    · rename_i hc
      simp only [Bool.and_eq_true, Bool.not_eq_true'] at hc
      simp only [Option.some.injEq] at h; subst h
      rw [i1 hu, i3 hv]
      exact str_eq (ks _ _ (kx hc.1) (ky' hc.2))
    · simp at h
  · split at h
    · rename_i hc
      simp only [Bool.and_eq_true] at hc
      simp only [Option.some.injEq] at h; subst h
      rw [i4 hu, i3 hv]
      exact str_eq (ks _ _ (kx hc.1) (ky hc.2))
    · simp at h
  · simp only [Option.some.injEq] at h; subst h
    rw [i1 hu, val_str hv]
    exact str_eq hf.zero
  · split at h
    · rename_i hc
      simp only [Bool.and_eq_true, Bool.not_eq_true'] at hc
      simp only [Option.some.injEq] at h; subst h
      rw [i0 hu, val_str hv]
      have e : d.x = d.y := by
        have := hc.1.1
        rw [hf.same, kx' hc.1.2, ky' hc.2] at this
        exact of_decide_eq_true this
      rw [e]
      exact str_eq hf.zero
    · split at h
      · rename_i hc
        simp only [Bool.and_eq_true] at hc
        simp only [Option.some.injEq] at h; subst h
        rw [i0 hu, val_str hv]
        exact str_eq (decide_eq_false (hd.nz hc.2 (by rw [← hf.na]; exact hc.1.1.2))).symm
      · simp at h
  · split at h
    · rename_i hc
      simp only [Bool.and_eq_true, Bool.not_eq_true'] at hc
      simp only [Option.some.injEq] at h; subst h
      rw [i3 hu, val_str hv]
      have e : body d.x = d.y := by
        have := hc.1.1
        rw [hf.same, kx hc.1.2, ky' hc.2] at this
        exact of_decide_eq_true this
      rw [e]
      exact str_eq hf.zero
    · simp at h
  · simp at h

theorem intEq_str {x y : AV} {r : Bool} (h : intBin c .eql x y = some (.bool r)) (hs : ∃ p, x = .str p) :
    (x = .str (.atom 2) ∧ y = .str (.atom 2)) ∨ (x = .str (.atom 1) ∧ y = .str (.atom 0)) ∨ (x = .str (.atom 4) ∧ y = .str (.atom 0)) ∨ (x = .str (.atom 1) ∧ y = .str (.atom 3)) ∨ (x = .str (.atom 4) ∧ y = .str (.atom 3)) ∨
    (x = .str (.atom 1) ∧ y = .str (.con [48])) ∨ (x = .str (.atom 0) ∧ y = .str (.con [48])) ∨ (x = .str (.atom 3) ∧ y = .str (.con [48])) := by
  obtain ⟨p, rfl⟩ := hs
  unfold intBin at h
  split at h <;> simp_all

theorem intLen_ok : ∀ x r, intLen x = some r → ∀ (ρ : Rho) u, val (d.env (pinsOf W)) ρ x u → ∃ s, u = .string s ∧ val (d.env (pinsOf W)) ρ r (goInt s.size) := by
  intro x r h ρ u hu
  unfold intLen at h
  split at h
  · simp only [Option.some.injEq] at h; subst h
    exact ⟨d.x, i0 hu, by simp only [val]; rfl⟩
  · simp only [Option.some.injEq] at h; subst h
    exact ⟨d.y, i1 hu, by simp only [val]; rfl⟩
  · simp at h

theorem first_get {s : ByteArray} (h : s.data.toList ≠ []) : s[(0 : Int).toNat]? = some (first s) := by
  cases s with
  | mk a =>
    cases a with
    | mk l =>
      cases l with
      | nil => exact absurd rfl h
      | cons b l => rfl

theorem intIndex_ok (hf : c.fits d) (hd : d.Fit o c W) : ∀ x i r, intIndex c x i = some r → ∀ (ρ : Rho) u k, val (d.env (pinsOf W)) ρ x u → val (d.env (pinsOf W)) ρ i k → ∃ s j n b, u = .string s ∧ k = .int j n ∧ 0 ≤ n ∧ s[n.toNat]? = some b ∧ val (d.env (pinsOf W)) ρ r (.int .u8 b.toNat) := by
  intro x i r h ρ u k hu hk
  unfold intIndex at h
  split at h
  · split at h
    · rename_i hc
      simp only [Option.some.injEq] at h; subst h
      refine ⟨d.x, .i64, 0, first d.x, i0 hu, val_int hk, by omega, first_get (hd.sizeX hc), ?_⟩
      split
      · rename_i hn
        rw [hf.na] at hn
        have : first d.x = 45 := of_decide_eq_true hn
        rw [this]; simp [val]
      · simp only [val]; rfl
    · simp at h
  · split at h
    · rename_i hc
      simp only [Option.some.injEq] at h; subst h
      refine ⟨d.y, .i64, 0, first d.y, i1 hu, val_int hk, by omega, first_get (hd.sizeY hc), ?_⟩
      split
      · rename_i hn
        rw [hf.nb] at hn
        have : first d.y = 45 := of_decide_eq_true hn
        rw [this]; simp [val]
      · simp only [val]; rfl
    · simp at h
  · split at h
    · rename_i hc
      simp only [Bool.and_eq_true] at hc
      simp only [Option.some.injEq] at h; subst h
      exact ⟨body d.x, .i64, 0, first (body d.x), i3 hu, val_int hk, by omega, first_get (hd.bodyX hc.1 (by rw [← hf.na]; exact hc.2)).1, by simp only [val]; rfl⟩
    · simp at h
  · split at h
    · rename_i hc
      simp only [Bool.and_eq_true] at hc
      simp only [Option.some.injEq] at h; subst h
      exact ⟨body d.y, .i64, 0, first (body d.y), i4 hu, val_int hk, by omega, first_get (hd.bodyY hc.1 (by rw [← hf.nb]; exact hc.2)).1, by simp only [val]; rfl⟩
    · simp at h
  · simp at h

theorem intSlice_ok (hf : c.fits d) (hd : d.Fit o c W) : ∀ x lo hi r, intSlice c x lo hi = some r → ∀ (ρ : Rho) u, val (d.env (pinsOf W)) ρ x u → ∃ s l h, u = .string s ∧ l ≤ h ∧ h ≤ s.size ∧
      (match lo with | none => l = 0 | some a => ∀ v, val (d.env (pinsOf W)) ρ a v → ∃ j, v = .int j (l : Int)) ∧ (match hi with | none => h = s.size | some a => ∀ v, val (d.env (pinsOf W)) ρ a v → ∃ j, v = .int j (h : Int)) ∧ val (d.env (pinsOf W)) ρ r (.string (s.extract l h)) := by
  intro x lo hi r h ρ u hu
  unfold intSlice at h
  split at h
  · split at h
    · rename_i hc
      simp only [Bool.and_eq_true] at hc
      simp only [Option.some.injEq] at h; subst h
      have := size_pos (hd.sizeX hc.1)
      exact ⟨d.x, 1, d.x.size, i0 hu, by omega, Nat.le_refl _, fun v hv => ⟨.i64, val_int hv⟩, rfl, m3⟩
    · simp at h
  · split at h
    · rename_i hc
      simp only [Bool.and_eq_true] at hc
      simp only [Option.some.injEq] at h; subst h
      have := size_pos (hd.sizeY hc.1)
      exact ⟨d.y, 1, d.y.size, i1 hu, by omega, Nat.le_refl _, fun v hv => ⟨.i64, val_int hv⟩, rfl, m4⟩
    · simp at h
  · simp at h
end
end Go.Ev

/- The facts of the laws on integers hold, if the leaves answer as they should: calls. -/
set_option linter.unusedVariables false
set_option linter.unusedSimpArgs false
namespace Go.Ev
open Go.Proofs Go.RowKit

theorem body_list (s : ByteArray) : (body s).data.toList = s.data.toList.drop 1 := by
  have hl : s.data.toList.length = s.size := by rw [Array.length_toList]; rfl
  unfold body
  rw [ByteArray.data_extract, Array.toList_extract]
  simp only [List.extract_eq_take_drop]
  rw [List.take_of_length_le (by rw [List.length_drop, hl]; exact Nat.le_refl _)]

theorem neg_list {s : ByteArray} (h : isNeg s = true) : s.data.toList = 45 :: (body s).data.toList := by
  rw [body_list]
  have h' : first s = 45 := of_decide_eq_true h
  unfold first at h'
  cases hs : s.data.toList with
  | nil => rw [hs] at h'; simp at h'
  | cons a l => rw [hs] at h'; simp at h'; rw [h']; rfl

theorem konst_same {s t : ByteArray} (hn : isNeg s = isNeg t) (hk : konst s = konst t) : s = t := by
  unfold konst at hk
  rw [← hn] at hk
  cases h : isNeg s with
  | true =>
    rw [h] at hk
    simp only [if_true] at hk
    exact bytes_inj ((neg_list h).trans ((congrArg (fun z : ByteArray => 45 :: z.data.toList) hk).trans (neg_list (hn.symm.trans h)).symm))
  | false =>
    rw [h] at hk
    simpa using hk

section
variable {o : OFun} {c : OCfg} {d : IDrawn} {W : World}

theorem opRet (hf : c.fits d) (ρ : Rho) : val (d.env (pinsOf W)) ρ (if o.impl = 28 then .sym 2 else intRet c) (if o.impl = 28 then .int .i64 d.cmp else if d.ok then .tuple #[.string d.out, .bool true] else .tuple #[.string ⟨#[]⟩, .bool false]) := by
  split
  · simp only [val]; rfl
  · unfold intRet
    rw [hf.ok]
    split
    · simp only [val, vals]
      exact ⟨_, rfl, _, _, rfl, m2 (ρ := ρ), _, _, rfl, rfl, rfl⟩
    · simp only [val, vals]
      exact ⟨_, rfl, _, _, rfl, rfl, _, _, rfl, rfl, rfl⟩

theorem intCall_ok (hf : c.fits d) (hd : d.Fit o c W) : ∀ f args H r H', intCall o c f args H = some (r, H') → ∀ (ρ : Rho) (w : World) (vs : Array Value), Rel (d.env (pinsOf W)) ρ H w → vals (d.env (pinsOf W)) ρ args vs.toList →
    Calls Tryz.prog f vs w fun e w' => ∃ ρ' v, e = .returned v ∧ val (d.env (pinsOf W)) ρ' r v ∧ Rel (d.env (pinsOf W)) ρ' H' w' ∧ Step ρ H w ρ' H' w' := by
  intro f args H r H' h ρ w vs hr hv
  have fin : ∀ {f : FuncId} {vs : Array Value} {v : Value} {r : AV}, val (d.env (pinsOf W)) ρ r v → (Calls Tryz.prog f vs w fun e w' => e = .returned v ∧ Below w.heap.size w w') →
      Calls Tryz.prog f vs w fun e w' => ∃ ρ' v, e = .returned v ∧ val (d.env (pinsOf W)) ρ' r v ∧ Rel (d.env (pinsOf W)) ρ' H w' ∧ Step ρ H w ρ' H w' := by
    intro f vs v r hv hc
    refine hc.mono ?_
    rintro e w' ⟨rfl, hb⟩
    obtain ⟨p1, p2⟩ := below_rel hr hb
    exact ⟨ρ, _, rfl, hv, p1, p2⟩
  have tup : ∀ {a : AV} {s : ByteArray} {b : Bool}, val (d.env (pinsOf W)) ρ a (.string s) → val (d.env (pinsOf W)) ρ (.tuple [a, .bool b]) (.tuple #[.string s, .bool b]) := by
    intro a s b h
    simp only [val, vals]
    exact ⟨_, rfl, _, _, rfl, h, _, _, rfl, rfl, rfl⟩
  unfold intCall at h
  split at h
  · split at h
    · rename_i hfn
      subst hfn
      simp only [Option.some.injEq, Prod.mk.injEq] at h
      obtain ⟨rfl, rfl⟩ := h
      obtain ⟨u, v, rfl, h1, h2⟩ := twoE hv
      rw [val_str h1, val_int h2]
      refine (X.indexByte _ _ w).mono ?_
      rintro e w' ⟨rfl, rfl⟩
      exact ⟨ρ, _, rfl, by simp [val], hr, Step.refl _ _ _⟩
    · simp at h
  · obtain ⟨u, rfl, h1⟩ := oneE hv
    split at h
    · rename_i hfn; subst hfn; exact bCopy_ok h hr h1
    · split at h
      · rename_i hfn; subst hfn; exact bString_ok h hr h1
      · simp at h
  · obtain ⟨u, rfl, h1⟩ := oneE hv
    split at h
    · rename_i hfn; subst hfn; exact bCopy0_ok h hr h1
    · split at h
      · rename_i hfn; subst hfn; exact bString0_ok h hr h1
      · simp at h
  · split at h
    · rename_i hc
      obtain ⟨rfl, hok⟩ := hc
      simp only [Option.some.injEq, Prod.mk.injEq] at h
      obtain ⟨rfl, rfl⟩ := h
      obtain ⟨u, v, rfl, h1, h2⟩ := twoE hv
      obtain ⟨us, rfl, hu⟩ := val_agg h1
      obtain ⟨s0, rfl, hs0⟩ := oneE hu
      obtain ⟨vs', rfl, hv'⟩ := val_agg h2
      simp only [vals] at hv'
      obtain ⟨x1, r1, e1, g1, x2, r2, e2, g2, x3, r3, e3, g3, rfl⟩ := hv'
      subst e3; subst e2
      have e1' : vs' = #[x1, x2, x3] := Array.ext' e1
      rename_i a1 a2 a3 a4 a5 n
      have : ∃ ao n' c', s0 = .slice ao n' c' := by
        cases a1 with
        | none => simp only [val] at hs0; exact ⟨_, _, _, hs0.2.2⟩
        | some q => obtain ⟨i, o⟩ := q; obtain ⟨b, m, c', _, e, _⟩ := val_slice hs0; exact ⟨_, _, _, e⟩
      obtain ⟨ao, n', c', rfl⟩ := this
      rw [e1', val_int g1, i2 g2, val_int g3]
      exact fin m2 (X.show2 w ao n' c' _ _ hd.out)
    · simp at h
  · split at h
    · rename_i hc
      obtain ⟨rfl, hcl⟩ := hc
      simp only [Option.some.injEq, Prod.mk.injEq] at h
      obtain ⟨rfl, rfl⟩ := h
      obtain ⟨u, rfl, h1⟩ := oneE hv
      have hu : u = .slice d.a d.n d.cap := by rw [sym_valE h1]; rfl
      have hn : d.n ≤ 1048576 := by
        rw [hf.cl] at hcl
        simpa using hcl
      rw [hu]
      refine fin ?_ (hd.draw hn w (fun b o hb => (hr.pin b o hb).1))
      simp only [val, vals]
      exact ⟨_, rfl, _, _, rfl, m0 (ρ := ρ), _, _, rfl, m1 (ρ := ρ), rfl⟩
    · simp at h
  · split at h
    · rename_i hfn
      subst hfn
      simp only [Option.some.injEq, Prod.mk.injEq] at h
      obtain ⟨rfl, rfl⟩ := h
      obtain ⟨u, rfl, h1⟩ := oneE hv
      rw [i0 h1]
      exact fin (by simp [val]) (hd.okX w)
    · simp at h
  · split at h
    · rename_i hfn
      subst hfn
      simp only [Option.some.injEq, Prod.mk.injEq] at h
      obtain ⟨rfl, rfl⟩ := h
      obtain ⟨u, rfl, h1⟩ := oneE hv
      rw [i1 h1]
      exact fin (by simp [val]) (hd.okY w)
    · simp at h
  · split at h
    · rename_i hc
      obtain ⟨rfl, hn, hi⟩ := hc
      simp only [Option.some.injEq, Prod.mk.injEq] at h
      obtain ⟨rfl, rfl⟩ := h
      obtain ⟨u, rfl, h1⟩ := oneE hv
      rw [i3 h1]
      exact fin (by simp [val]) (hd.okBX hi (by rw [← hf.na]; exact hn) w)
    · simp at h
  · split at h
    · rename_i hc
      obtain ⟨rfl, hn, hi⟩ := hc
      simp only [Option.some.injEq, Prod.mk.injEq] at h
      obtain ⟨rfl, rfl⟩ := h
      obtain ⟨u, rfl, h1⟩ := oneE hv
      rw [i4 h1]
      exact fin (by simp [val]) (hd.okBY hi (by rw [← hf.nb]; exact hn) w)
    · simp at h
  · split at h
    · rename_i hc
      obtain ⟨rfl, hn, hi⟩ := hc
      simp only [Option.some.injEq, Prod.mk.injEq] at h
      obtain ⟨rfl, rfl⟩ := h
      obtain ⟨u, v, rfl, h1, h2⟩ := twoE hv
      rw [val_str h1, i3 h2]
      exact fin (tup m0) (hd.subX hi (by rw [← hf.na]; exact hn) w)
    · simp at h
  · split at h
    · rename_i hc
      obtain ⟨rfl, hn, hi⟩ := hc
      simp only [Option.some.injEq, Prod.mk.injEq] at h
      obtain ⟨rfl, rfl⟩ := h
      obtain ⟨u, v, rfl, h1, h2⟩ := twoE hv
      rw [val_str h1, i4 h2]
      exact fin (tup m1) (hd.subY hi (by rw [← hf.nb]; exact hn) w)
    · simp at h
  · split at h
    · rename_i hc
      obtain ⟨rfl, hna, hnb, hi, hs⟩ := hc
      simp only [Option.some.injEq, Prod.mk.injEq] at h
      obtain ⟨rfl, rfl⟩ := h
      obtain ⟨u, v, rfl, h1, h2⟩ := twoE hv
      have e : d.x = body d.y := by
        rw [hf.same] at hs
        have hk := of_decide_eq_true hs
        unfold konst at hk
        rw [← hf.na, ← hf.nb, hna, hnb] at hk
        simpa using hk
      rw [val_str h1, i0 h2, e]
      exact fin (tup m1) (hd.subY hi (by rw [← hf.nb]; exact hnb) w)
    · simp at h
  · split at h
    · rename_i hc
      obtain ⟨rfl, hn, hs⟩ := hc
      simp only [Option.some.injEq, Prod.mk.injEq] at h
      obtain ⟨rfl, rfl⟩ := h
      obtain ⟨u, v, rfl, h1, h2⟩ := twoE hv
      have e : d.x = d.y := by
        rw [hf.same] at hs
        exact konst_same (by rw [← hf.na, ← hf.nb, hn]) (of_decide_eq_true hs)
      have e1 := i0 h1
      have e2 := i0 h2
      rw [e1, e2]
      have := hd.opI w
      rw [← e] at this
      exact fin (opRet hf ρ) this
    · simp at h
  · split at h
    · rename_i hc
      obtain ⟨rfl, hna, hnb, hs⟩ := hc
      simp only [Option.some.injEq, Prod.mk.injEq] at h
      obtain ⟨rfl, rfl⟩ := h
      obtain ⟨u, v, rfl, h1, h2⟩ := twoE hv
      have e : body d.x = d.y := by
        rw [hf.same] at hs
        have hk := of_decide_eq_true hs
        unfold konst at hk
        rw [← hf.na, ← hf.nb, hna, hnb] at hk
        simpa using hk
      rw [i0 h1, i3 h2, e]
      exact fin (opRet hf ρ) (hd.opI w)
    · simp at h
  · split at h
    · rename_i hc
      simp only [Option.some.injEq, Prod.mk.injEq] at h
      obtain ⟨rfl, rfl⟩ := h
      obtain ⟨u, v, rfl, h1, h2⟩ := twoE hv
      rw [i0 h1, i1 h2]
      rcases hc with rfl | rfl
      · exact fin (opRet hf ρ) (hd.opI w)
      · exact fin (opRet hf ρ) (hd.opS w)
    · simp at h
  · simp at h

theorem intFacts_ok (hf : c.fits d) (hd : d.Fit o c W) : FactsOk (d.env (pinsOf W)) Tryz.prog (intFacts o c) where
  bin := intBin_ok hf hd
  binEq := by
    intro x y r h hs ρ u v hu hv
    obtain ⟨z, hz, hrun⟩ := intBin_ok hf hd .eql x y (.bool r) h ρ u v hu hv
    have key : ∀ {s t : ByteArray}, u = .string s → v = .string t → ∃ s s', u = .string s ∧ v = .string s' ∧ (s == s') = r := by
      intro s t e1 e2
      subst e1; subst e2
      refine ⟨s, t, rfl, rfl, ?_⟩
      obtain ⟨z', hz', hrun'⟩ := str_eq (E := d.env (pinsOf W)) (ρ := ρ) (P := Tryz.prog) (s := s) (t := t) rfl
      have w0 : World := W
      have a := hrun 0 (.tmp 0) (.tmp 0) W
      have b := hrun' 0 (.tmp 0) (.tmp 0) W
      rw [a] at b
      simp only [Result.ok.injEq, and_true] at b
      have e1 := val_bool hz
      have e2 := val_bool hz'
      rw [b, e2] at e1
      simp only [Value.bool.injEq] at e1
      rw [← e1, Bool.eq_iff_iff]
      simp only [decide_eq_true_eq]
      exact Go.MapKept.bytes_beq s t
    rcases intEq_str (show intBin c .eql x y = some (.bool r) from h) hs with ⟨rfl, rfl⟩ | ⟨rfl, rfl⟩ | ⟨rfl, rfl⟩ | ⟨rfl, rfl⟩ | ⟨rfl, rfl⟩ | ⟨rfl, rfl⟩ | ⟨rfl, rfl⟩ | ⟨rfl, rfl⟩
    · exact key (i2 hu) (i2 hv)
    · exact key (i1 hu) (i0 hv)
    · exact key (i4 hu) (i0 hv)
    · exact key (i1 hu) (i3 hv)
    · exact key (i4 hu) (i3 hv)
    · exact key (i1 hu) (val_str hv)
    · exact key (i0 hu) (val_str hv)
    · exact key (i3 hu) (val_str hv)
  len := intLen_ok
  lenS := by
    intro i r h
    have h' : (if i = 0 then some (AV.sym 1) else none) = some r := h
    split at h'
    · rename_i hi
      subst hi
      simp only [Option.some.injEq] at h'
      subst h'
      exact ⟨d.a, d.n, d.cap, rfl, fun ρ => by simp only [val]; rfl⟩
    · simp at h'
  index := intIndex_ok hf hd
  slice := intSlice_ok hf hd
  call := intCall_ok hf hd
end
end Go.Ev

/- A law on integers returns true, if its runs do and the leaves answer as they should. -/
set_option linter.unusedVariables false
set_option linter.unusedSimpArgs false
namespace Go.Ev
open Go.Proofs Go.RowKit

theorem intLaw_run {law : FuncId} {o : OFun} {c : OCfg} {d : IDrawn} {W : World} (hf : c.fits d) (hd : d.Fit o c W) (hrun : Q.callK Tryz.prog (intFacts o c) plansT 1000 60 law [.sym 0] emptyH (fun r _ => Q.eqV r (.bool true)) = true) :
    Calls Tryz.prog law #[.slice d.a d.n d.cap] W fun e w' => e = .returned (.bool true) ∧ Below W.heap.size W w' :=
  run_true (d.okE (pinsOf W)) (intFacts_ok hf hd) hrun (fun b o h => h) (by simp only [vals, val]; exact ⟨_, _, rfl, rfl, rfl⟩)
end Go.Ev

/- The leaves of the laws on integers answer as they should. -/
set_option linter.unusedVariables false
set_option linter.unusedSimpArgs false
namespace Go.Ev
open Go.Proofs Go.RowKit

/-- The bytes of a code slice. -/
theorem code_bytes (a0 : Option Addr) (len0 cap0 : Nat) (z0 : List Int) (w : World)
    (w0 : (a0 = none ∧ len0 = 0 ∧ cap0 = 0 ∧ z0 = []) ∨ ∃ x, a0 = some x ∧ len0 ≤ cap0 ∧ cap0 ≤ maxLen ∧ z0.length = cap0 ∧ (∀ i, i < z0.length → w.cell? (x.add i) = some (.int .u8 (z0.getD i 0))) ∧ ∀ n ∈ z0, (Lit.int .u8 n).wf = true) :
    ∃ l : List UInt8, len0 = l.length ∧ l.length ≤ cap0 ∧ (a0 = none → cap0 = 0) ∧ (0 < l.length → ∃ ad, a0 = some ad ∧ ∀ j, j < l.length → w.cell? (ad.add j) = some (.int .u8 (l.getD j 0).toNat)) := by
  rcases w0 with ⟨rfl, rfl, rfl, rfl⟩ | ⟨x, rfl, hl, hm', hz, hcell, hw⟩
  · exact ⟨[], rfl, Nat.zero_le _, fun _ => rfl, fun h => by simp at h⟩
  · have e : ((z0.take len0).map fun n => UInt8.ofNat n.toNat).length = len0 := by simp; omega
    refine ⟨(z0.take len0).map fun n => UInt8.ofNat n.toNat, e.symm, by rw [e]; exact hl, fun h => by simp at h, fun h => ⟨x, rfl, fun j hj => ?_⟩⟩
    rw [e] at hj
    rw [hcell j (by omega)]
    congr 2
    have hg : z0.getD j 0 = z0[j]'(by omega) := by
      rw [List.getD_eq_getElem?_getD, List.getElem?_eq_getElem (by omega)]; rfl
    have hmem := hw (z0[j]'(by omega)) (List.getElem_mem _)
    simp [Lit.wf, IntKind.min, IntKind.max, IntKind.signed, IntKind.bits] at hmem
    rw [hg, List.getD_eq_getElem?_getD, List.getElem?_map, List.getElem?_take_of_lt hj, List.getElem?_eq_getElem (by omega)]
    simp only [Option.map_some, Option.getD_some]
    rw [Dv.u8_of (by omega) (by omega)]

theorem first_neg (l : List UInt8) : isNeg ⟨l.toArray⟩ = Dv.negL l := by
  unfold isNeg first Dv.negL
  cases l with
  | nil => rfl
  | cons c l => simp
theorem body_mk {l : List UInt8} (h : Dv.negL l = true) : body ⟨l.toArray⟩ = ⟨(Dv.bodyL l).toArray⟩ := by
  apply bytes_inj
  rw [body_list]
  show l.drop 1 = Dv.bodyL l
  unfold Dv.bodyL
  rw [h]; rfl
theorem first_mk (l : List UInt8) : first ⟨l.toArray⟩ = l.getD 0 0 := by
  unfold first
  cases l <;> rfl

theorem intFit {o : OFun} {c : OCfg} {d : IDrawn} {W : World} {x y : List UInt8} (hx : d.x = ⟨x.toArray⟩) (hy : d.y = ⟨y.toArray⟩) (ca : c.ia = Dv.isIntL x) (cb : c.ib = Dv.isIntL y)
    (draw : d.n ≤ 1048576 → ∀ w : World, (∀ (b : Nat) (o : Obj), W.heap[b]? = some o → w.heap[b]? = some o) → Calls Tryz.prog o.draw #[.slice d.a d.n d.cap] w fun e w' => e = .returned (.tuple #[.string ⟨x.toArray⟩, .string ⟨y.toArray⟩]) ∧ Below w.heap.size w w')
    (opI : ∀ w, Calls Tryz.prog o.impl #[.string ⟨x.toArray⟩, .string ⟨y.toArray⟩] w fun e w' => e = .returned (if o.impl = 28 then .int .i64 d.cmp else if d.ok then .tuple #[.string d.out, .bool true] else .tuple #[.string ⟨#[]⟩, .bool false]) ∧ Below w.heap.size w w')
    (opS : ∀ w, Calls Tryz.prog o.spec #[.string ⟨x.toArray⟩, .string ⟨y.toArray⟩] w fun e w' => e = .returned (if o.impl = 28 then .int .i64 d.cmp else if d.ok then .tuple #[.string d.out, .bool true] else .tuple #[.string ⟨#[]⟩, .bool false]) ∧ Below w.heap.size w w')
    (out : d.out.size ≤ 400) : d.Fit o c W := by
  have ok : ∀ (l : List UInt8) (w : World), Calls Tryz.prog 34 #[.string ⟨l.toArray⟩] w fun e w' => e = .returned (.bool (Dv.isIntL l)) ∧ Below w.heap.size w w' := fun l w => Dv.strBool rfl (Dv.f34 (m := 103) (Nat.le_refl _) l) w
  have size : ∀ l : List UInt8, Dv.isIntL l = true → l ≠ [] := by
    intro l h e
    subst e
    exact absurd h (by decide)
  have bod : ∀ l : List UInt8, Dv.isIntL l = true → Dv.negL l = true → Dv.bodyL l ≠ [] ∧ (Dv.bodyL l).getD 0 0 ≠ 45 := by
    intro l h hn
    obtain ⟨h1, h2, h3, h4⟩ := Dv.isInt_parts h
    cases e : Dv.bodyL l with
    | nil => rw [e] at h1; simp at h1
    | cons a b =>
      rw [e] at h3
      have hc := (Dv.isD_iff a).1 (by simp at h3; exact h3.1)
      refine ⟨by simp, fun h => ?_⟩
      have : a = 45 := h
      subst this
      have : (48 : Nat) ≤ 45 := hc.1
      omega
  have sub : ∀ (l : List UInt8) (w : World), Dv.isIntL l = true → Dv.negL l = true → Calls Tryz.prog 39 #[.string zeroB, .string ⟨(Dv.bodyL l).toArray⟩] w fun e w' => e = .returned (.tuple #[.string ⟨l.toArray⟩, .bool true]) ∧ Below w.heap.size w w' :=
    fun l w h hn => Dv.strsTwo (l := [48]) rfl (Dv.sub0 (m := 105) (Nat.le_refl _) h hn) w
  obtain ⟨a, n, cap, dx, dy, dout, dok, dcmp⟩ := d
  simp only at hx hy
  subst hx hy
  exact {
    draw := draw
    okX := fun w => by rw [ca]; exact ok x w
    okY := fun w => by rw [cb]; exact ok y w
    sizeX := fun h => size x (ca ▸ h)
    sizeY := fun h => size y (cb ▸ h)
    bodyX := fun h hn => by
      have h := ca ▸ h
      have hn : Dv.negL x = true := by rw [← first_neg]; exact hn
      show (body ⟨x.toArray⟩).data.toList ≠ [] ∧ first (body ⟨x.toArray⟩) ≠ 45
      rw [body_mk hn, first_mk]
      exact bod x h hn
    bodyY := fun h hn => by
      have h := cb ▸ h
      have hn : Dv.negL y = true := by rw [← first_neg]; exact hn
      show (body ⟨y.toArray⟩).data.toList ≠ [] ∧ first (body ⟨y.toArray⟩) ≠ 45
      rw [body_mk hn, first_mk]
      exact bod y h hn
    okBX := fun h hn w => by
      have h := ca ▸ h
      have hn : Dv.negL x = true := by rw [← first_neg]; exact hn
      show Calls Tryz.prog 34 #[.string (body ⟨x.toArray⟩)] w _
      rw [body_mk hn]
      have := ok (Dv.bodyL x) w
      rw [(Dv.body_int h hn).1] at this
      exact this
    okBY := fun h hn w => by
      have h := cb ▸ h
      have hn : Dv.negL y = true := by rw [← first_neg]; exact hn
      show Calls Tryz.prog 34 #[.string (body ⟨y.toArray⟩)] w _
      rw [body_mk hn]
      have := ok (Dv.bodyL y) w
      rw [(Dv.body_int h hn).1] at this
      exact this
    subX := fun h hn w => by
      have h := ca ▸ h
      have hn : Dv.negL x = true := by rw [← first_neg]; exact hn
      show Calls Tryz.prog 39 #[.string zeroB, .string (body ⟨x.toArray⟩)] w _
      rw [body_mk hn]
      exact sub x w h hn
    subY := fun h hn w => by
      have h := cb ▸ h
      have hn : Dv.negL y = true := by rw [← first_neg]; exact hn
      show Calls Tryz.prog 39 #[.string zeroB, .string (body ⟨y.toArray⟩)] w _
      rw [body_mk hn]
      exact sub y w h hn
    opI := opI
    opS := opS
    out := out
    nz := fun h hn e => by
      have hn : Dv.negL x = true := by rw [← first_neg]; exact hn
      have e : (⟨x.toArray⟩ : ByteArray) = ⟨#[48]⟩ := e
      have : x = [48] := by
        have := congrArg (fun b : ByteArray => b.data.toList) e
        simpa using this
      subst this
      exact absurd hn (by decide) }
/-- What is known of two texts and an answer. -/
def cfgOf (n : Nat) (x y : List UInt8) (ok : Bool) (cmp : Int) : OCfg :=
  ⟨decide (n > 1048576), Dv.isIntL x, Dv.isIntL y, Dv.negL x, Dv.negL y, decide (konst ⟨x.toArray⟩ = konst ⟨y.toArray⟩), ok, decide (cmp < 0), decide ((⟨y.toArray⟩ : ByteArray) = ⟨#[48]⟩)⟩
theorem cfg_fits {a : Option Addr} {n cap : Nat} {x y : List UInt8} {out : ByteArray} {ok : Bool} {cmp : Int} (hbad : (!(Dv.isIntL x && Dv.isIntL y)) = decide (cmp = -2)) : (cfgOf n x y ok cmp).fits ⟨a, n, cap, ⟨x.toArray⟩, ⟨y.toArray⟩, out, ok, cmp⟩ where
  cl := rfl
  na := (first_neg x).symm
  nb := (first_neg y).symm
  same := rfl
  ok := rfl
  lt := rfl
  bad := hbad
  zero := rfl
theorem neg_not_zero {y : List UInt8} (h : decide ((⟨y.toArray⟩ : ByteArray) = ⟨#[48]⟩) = true) : Dv.negL y = false := by
  have e := of_decide_eq_true h
  have : y = [48] := by
    have := congrArg (fun b : ByteArray => b.data.toList) e
    simpa using this
  subst this
  rfl
theorem canA {n : Nat} {x y : List UInt8} {ok : Bool} {cmp : Int} (hn : n > 1048576 → x = [] ∧ y = []) : ((!(cfgOf n x y ok cmp).cl || (!(cfgOf n x y ok cmp).ia && !(cfgOf n x y ok cmp).ib && !(cfgOf n x y ok cmp).na && !(cfgOf n x y ok cmp).nb && (cfgOf n x y ok cmp).same && !(cfgOf n x y ok cmp).zero)) &&
    !((cfgOf n x y ok cmp).ib && (cfgOf n x y ok cmp).zero && (cfgOf n x y ok cmp).nb)) = true := by
  have h2 : ((cfgOf n x y ok cmp).ib && (cfgOf n x y ok cmp).zero && (cfgOf n x y ok cmp).nb) = false := by
    cases hz : (cfgOf n x y ok cmp).zero with
    | false => simp
    | true =>
      have : (cfgOf n x y ok cmp).nb = false := neg_not_zero hz
      rw [this]; simp
  rw [h2, Bool.not_false, Bool.and_true]
  by_cases h : n > 1048576
  · obtain ⟨rfl, rfl⟩ := hn h
    have e1 : (cfgOf n [] [] ok cmp).ia = false := by show Dv.isIntL [] = false; decide
    have e2 : (cfgOf n [] [] ok cmp).ib = false := e1
    have e3 : (cfgOf n [] [] ok cmp).na = false := by show Dv.negL [] = false; decide
    have e4 : (cfgOf n [] [] ok cmp).nb = false := e3
    have e5 : (cfgOf n [] [] ok cmp).same = true := by
      show decide (konst ⟨([] : List UInt8).toArray⟩ = konst ⟨([] : List UInt8).toArray⟩) = true
      exact decide_eq_true rfl
    have e6 : (cfgOf n [] [] ok cmp).zero = false := by
      show decide ((⟨([] : List UInt8).toArray⟩ : ByteArray) = ⟨#[48]⟩) = false
      refine decide_eq_false fun e => ?_
      have := congrArg (fun b : ByteArray => b.data.toList) e
      simp at this
    rw [e1, e2, e3, e4, e5, e6]; simp
  · have e : (cfgOf n x y ok cmp).cl = false := decide_eq_false h
    rw [e]; simp

/-- A law whose operation gives a text: both sides answer z. -/
theorem textLaw {law : FuncId} {o : OFun} (ho : o.impl ≠ 28) {can : OCfg → Bool} (runs : ∀ c, can c = true → Q.callK Tryz.prog (intFacts o c) plansT 1000 60 law [.sym 0] emptyH (fun r _ => Q.eqV r (.bool true)) = true)
    (hdraw : Dv.Stab.sig o.draw = some ⟨[.one (.pv (.list 5))], [.one (.pv .str), .one (.pv .str)]⟩) (himpl : Dv.Stab.sig o.impl = some ⟨[.one (.pv .str), .one (.pv .str)], [.one (.pv .str), .one (.pv .bool)]⟩) (hspec : Dv.Stab.sig o.spec = some ⟨[.one (.pv .str), .one (.pv .str)], [.one (.pv .str), .one (.pv .bool)]⟩)
    (draws : ∀ l : List UInt8, l.length ≤ 1048576 → ∃ m x y, Dv.R m o.draw (.agg [Dv.bl l]) = some (.agg [.str x, .str y]) ∧ x.length ≤ 301 ∧ y.length ≤ 301)
    (val : List UInt8 → List UInt8 → Option Int) (ops : ∀ x y, x.length ≤ 301 → y.length ≤ 301 → ∃ m, Dv.R m o.impl (.agg [.str x, .str y]) = some (Dv.opV (if Dv.isIntL x = true ∧ Dv.isIntL y = true then val x y else none)) ∧ Dv.R m o.spec (.agg [.str x, .str y]) = some (Dv.opV (if Dv.isIntL x = true ∧ Dv.isIntL y = true then val x y else none)))
    (hcan : ∀ n x y, x.length ≤ 301 → y.length ≤ 301 → (n > 1048576 → x = [] ∧ y = []) → can (cfgOf n x y (Dv.opOk (if Dv.isIntL x = true ∧ Dv.isIntL y = true then val x y else none)) (if Dv.isIntL x = true ∧ Dv.isIntL y = true then 0 else -2)) = true)
    (a0 : Option Addr) (len0 cap0 : Nat) (z0 : List Int) (w : World)
    (w0 : (a0 = none ∧ len0 = 0 ∧ cap0 = 0 ∧ z0 = []) ∨ ∃ x, a0 = some x ∧ len0 ≤ cap0 ∧ cap0 ≤ maxLen ∧ z0.length = cap0 ∧ (∀ i, i < z0.length → w.cell? (x.add i) = some (.int .u8 (z0.getD i 0))) ∧ ∀ n ∈ z0, (Lit.int .u8 n).wf = true) :
    Calls Tryz.prog law #[.slice a0 len0 cap0] w fun e w' => e = .returned (.bool true) ∧ Below w.heap.size w w' := by
  obtain ⟨l, rfl, hc, ha, hcell⟩ := code_bytes a0 len0 cap0 z0 w w0
  obtain ⟨x, y, hx, hy, hn, hd⟩ : ∃ x y : List UInt8, x.length ≤ 301 ∧ y.length ≤ 301 ∧ (l.length > 1048576 → x = [] ∧ y = []) ∧ (l.length ≤ 1048576 → ∃ m, Dv.R m o.draw (.agg [Dv.bl l]) = some (.agg [.str x, .str y])) := by
    by_cases h : l.length ≤ 1048576
    · obtain ⟨m, x, y, h1, h2, h3⟩ := draws l h
      exact ⟨x, y, h2, h3, fun h' => by omega, fun _ => ⟨m, h1⟩⟩
    · exact ⟨[], [], by simp, by simp, fun _ => ⟨rfl, rfl⟩, fun h' => absurd h' h⟩
  obtain ⟨m, hi, hs⟩ := ops x y hx hy
  have hcan' := hcan l.length x y hx hy hn
  generalize hz : (if Dv.isIntL x = true ∧ Dv.isIntL y = true then val x y else none) = z at hi hs hcan'
  have res : ∀ f, Dv.Stab.sig f = some ⟨[.one (.pv .str), .one (.pv .str)], [.one (.pv .str), .one (.pv .bool)]⟩ → Dv.R m f (.agg [.str x, .str y]) = some (Dv.opV z) → ∀ w, Calls Tryz.prog f #[.string ⟨x.toArray⟩, .string ⟨y.toArray⟩] w fun e w' => e = .returned (if o.impl = 28 then .int .i64 (if Dv.isIntL x = true ∧ Dv.isIntL y = true then 0 else -2) else if Dv.opOk z then .tuple #[.string ⟨(Dv.opOut z).toArray⟩, .bool true] else .tuple #[.string ⟨#[]⟩, .bool false]) ∧ Below w.heap.size w w' := by
    intro f hsg h w
    have := Dv.strsTwo hsg h w
    rw [if_neg ho]
    cases hok : Dv.opOk z with
    | true => rw [hok] at this; exact this
    | false => rw [hok, Dv.opOut_bad hok] at this; exact this
  refine intLaw_run (o := o) (d := ⟨a0, l.length, cap0, ⟨x.toArray⟩, ⟨y.toArray⟩, ⟨(Dv.opOut z).toArray⟩, Dv.opOk z, _⟩) (cfg_fits (cmp := if Dv.isIntL x = true ∧ Dv.isIntL y = true then 0 else -2) ?_) (intFit (x := x) (y := y) rfl rfl rfl rfl (fun hle w' hw' => ?_) (res _ himpl hi) (res _ hspec hs) ?_) (runs _ hcan')
  · cases Dv.isIntL x <;> cases Dv.isIntL y <;> rfl
  · obtain ⟨m', hm'⟩ := hd hle
    exact Dv.drawCalls hdraw hm' w w' hw' a0 cap0 hc ha hcell
  · have := Dv.opOut_len z
    show (Dv.opOut z).toArray.size ≤ 400
    rw [List.size_toArray]; omega
end Go.Ev
