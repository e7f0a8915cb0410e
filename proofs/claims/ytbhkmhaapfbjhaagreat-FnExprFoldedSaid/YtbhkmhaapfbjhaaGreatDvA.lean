/- Pure values, expressions over them, and trees of what a function does: the functional form of a Go function. -/
import Derived.Calls
import Derived.Orders
import Derived.Defers
import Derived.Below
import Derived.KernelRfl
import Derived.Laws.Sem
import Derived.Laws.Entries
import Derived.Laws.Tables
import Derived.Laws.Rows
import Derived.Laws.Cells
import Derived.Laws.Append
import Derived.Laws.CopyRow
import Derived.Laws.AppendOwn
import Derived.Laws.Strings
import Derived.Laws.Slices
import Derived.Laws.StructEq
import Derived.Laws.Small
import Derived.Laws.Unary
import Derived.Laws.BytesString

set_option linter.unusedVariables false
set_option linter.unusedSimpArgs false
namespace Go.Dv

/-- A pure value. A slice is the list of its elements (sz cells each; ag: the elements are structs); a struct is its cells. -/
inductive PV where
  | int (k : IntKind) (n : Int)
  | bool (b : Bool)
  | str (l : List UInt8)
  | list (sz : Nat) (ag : Bool) (xs : List PV)
  | agg (cs : List PV)
  deriving Inhabited

mutual
def PV.beq : PV → PV → Bool
  | .int j a, .int k b => decide (j = k) && decide (a = b)
  | .bool a, .bool b => a == b
  | .str a, .str b => decide (a = b)
  | .list m f xs, .list n g ys => m == n && f == g && PV.beqL xs ys
  | .agg xs, .agg ys => PV.beqL xs ys
  | _, _ => false
def PV.beqL : List PV → List PV → Bool
  | [], [] => true
  | a :: as, b :: bs => PV.beq a b && PV.beqL as bs
  | _, _ => false
end
mutual
theorem PV.beq_iff : ∀ (a b : PV), PV.beq a b = true ↔ a = b
  | .int j x, b => by cases b <;> simp [PV.beq]
  | .bool x, b => by cases b <;> simp [PV.beq]
  | .str x, b => by cases b <;> simp [PV.beq]
  | .list m f x, b => by cases b <;> simp [PV.beq, PV.beqL_iff x, and_assoc]
  | .agg x, b => by cases b <;> simp [PV.beq, PV.beqL_iff x]
theorem PV.beqL_iff : ∀ (a b : List PV), PV.beqL a b = true ↔ a = b
  | [], b => by cases b <;> simp [PV.beqL]
  | x :: xs, b => by cases b <;> simp [PV.beqL, PV.beq_iff x, PV.beqL_iff xs]
end
instance : DecidableEq PV := fun a b => if h : PV.beq a b = true then .isTrue ((PV.beq_iff a b).1 h) else .isFalse fun e => h ((PV.beq_iff a b).2 e)

/-! Parts of values; what is asked of a value of another kind is junk. -/
def PV.i : PV → Int
  | .int _ n => n
  | _ => 0
def PV.b : PV → Bool
  | .bool b => b
  | _ => false
def PV.s : PV → List UInt8
  | .str l => l
  | _ => []
def PV.l : PV → List PV
  | .list _ _ xs => xs
  | _ => []
def PV.cs : PV → List PV
  | .agg cs => cs
  | _ => []

def bitsI (op : BinOp) (k : IntKind) (x y : Int) : Int :=
  let a := BitVec.ofInt k.bits x
  let b := BitVec.ofInt k.bits y
  match op with
  | .and => k.wrap (a &&& b).toNat
  | .or => k.wrap (a ||| b).toNat
  | .xor => k.wrap (a ^^^ b).toNat
  | _ => k.wrap (a &&& ~~~b).toNat

/-- Operations on integers, as the model has them. -/
def intOp (op : BinOp) (k : IntKind) (a b : Int) : PV :=
  match op with
  | .add => .int k (k.wrap (a + b))
  | .sub => .int k (k.wrap (a - b))
  | .mul => .int k (k.wrap (a * b))
  | .quo => .int k (k.wrap (a.tdiv b))
  | .rem => .int k (a.tmod b)
  | .and => .int k (bitsI .and k a b)
  | .or => .int k (bitsI .or k a b)
  | .xor => .int k (bitsI .xor k a b)
  | .andNot => .int k (bitsI .andNot k a b)
  | .eql => .bool (decide (a = b))
  | .neq => .bool (!decide (a = b))
  | .lss => .bool (decide (a < b))
  | .leq => .bool (decide (a ≤ b))
  | .gtr => .bool (decide (b < a))
  | .geq => .bool (decide (b ≤ a))
  | _ => .bool false

def strOp (op : BinOp) (a b : List UInt8) : PV :=
  match op with
  | .add => .str (a ++ b)
  | .eql => .bool (decide (a = b))
  | .neq => .bool (!decide (a = b))
  | .lss => .bool (Op.bytesLess a b)
  | .leq => .bool (Op.bytesLess a b || decide (a = b))
  | .gtr => .bool (!(Op.bytesLess a b || decide (a = b)))
  | .geq => .bool (!Op.bytesLess a b)
  | _ => .bool false

def boolOp (op : BinOp) (a b : Bool) : PV :=
  match op with
  | .eql => .bool (a == b)
  | .neq => .bool (!(a == b))
  | _ => .bool false

/-- Operations on one value, on two, on three. -/
inductive O1 where
  | not
  | neg (k : IntKind)
  | conv (k : IntKind)
  | len
  | fld (i : Nat)
  | slen
  | toS
  | toB
  | okB
  | zeros (sz : Nat) (ag : Bool) (z : PV)
  deriving Inhabited
inductive O2 where
  | int (op : BinOp) (k : IntKind)
  | str (op : BinOp)
  | bool (op : BinOp)
  | eq
  | and2
  | mx (k : IntKind)
  | mn (k : IntKind)
  | idx
  | cat
  | snoc
  | mkS
  | sidx
  | setf (i : Nat)
  deriving Inhabited
inductive O3 where
  | sub
  | upd
  | ssub
  deriving Inhabited

def O1.beq : O1 → O1 → Bool
  | .not, .not => true
  | .neg j, .neg k => decide (j = k)
  | .conv j, .conv k => decide (j = k)
  | .len, .len => true
  | .fld i, .fld j => i == j
  | .slen, .slen => true
  | .toS, .toS => true
  | .toB, .toB => true
  | .okB, .okB => true
  | .zeros m f z, .zeros n g y => m == n && f == g && PV.beq z y
  | _, _ => false
def O2.beq : O2 → O2 → Bool
  | .int o j, .int p k => decide (o = p) && decide (j = k)
  | .str o, .str p => decide (o = p)
  | .bool o, .bool p => decide (o = p)
  | .eq, .eq => true
  | .and2, .and2 => true
  | .mx j, .mx k => decide (j = k)
  | .mn j, .mn k => decide (j = k)
  | .idx, .idx => true
  | .cat, .cat => true
  | .snoc, .snoc => true
  | .mkS, .mkS => true
  | .sidx, .sidx => true
  | .setf i, .setf j => i == j
  | _, _ => false
def O3.beq : O3 → O3 → Bool
  | .sub, .sub => true
  | .upd, .upd => true
  | .ssub, .ssub => true
  | _, _ => false
theorem O1.beq_eq {a b : O1} (h : a.beq b = true) : a = b := by
  cases a <;> cases b <;> simp [O1.beq] at h ⊢ <;> first | exact h | (refine ⟨h.1.1, h.1.2, (PV.beq_iff _ _).1 h.2⟩)
theorem O2.beq_eq {a b : O2} (h : a.beq b = true) : a = b := by
  cases a <;> cases b <;> simp [O2.beq] at h ⊢ <;> exact h
theorem O3.beq_eq {a b : O3} (h : a.beq b = true) : a = b := by
  cases a <;> cases b <;> simp [O3.beq] at h ⊢

/-- Expressions over what is bound. -/
inductive SE where
  | var (i : Nat)
  | lit (v : PV)
  | o1 (o : O1) (a : SE)
  | o2 (o : O2) (a b : SE)
  | o3 (o : O3) (a b c : SE)
  deriving Inhabited
def SE.beq : SE → SE → Bool
  | .var i, .var j => i == j
  | .lit v, .lit w => PV.beq v w
  | .o1 o a, .o1 p b => o.beq p && SE.beq a b
  | .o2 o a c, .o2 p b d => o.beq p && SE.beq a b && SE.beq c d
  | .o3 o a c e, .o3 p b d f => o.beq p && SE.beq a b && SE.beq c d && SE.beq e f
  | _, _ => false
theorem SE.beq_eq : ∀ {a b : SE}, SE.beq a b = true → a = b
  | .var i, b, h => by cases b <;> simp [SE.beq] at h ⊢; exact h
  | .lit v, b, h => by cases b <;> simp [SE.beq] at h ⊢; exact (PV.beq_iff _ _).1 h
  | .o1 o a, b, h => by cases b <;> simp [SE.beq] at h ⊢; exact ⟨O1.beq_eq h.1, SE.beq_eq h.2⟩
  | .o2 o a c, b, h => by cases b <;> simp [SE.beq] at h ⊢; exact ⟨O2.beq_eq h.1.1, SE.beq_eq h.1.2, SE.beq_eq h.2⟩
  | .o3 o a c e, b, h => by cases b <;> simp [SE.beq] at h ⊢; exact ⟨O3.beq_eq h.1.1.1, SE.beq_eq h.1.1.2, SE.beq_eq h.1.2, SE.beq_eq h.2⟩

theorem O1.beq_refl (a : O1) : a.beq a = true := by cases a <;> simp [O1.beq, (PV.beq_iff _ _).2 rfl]
theorem O2.beq_refl (a : O2) : a.beq a = true := by cases a <;> simp [O2.beq]
theorem O3.beq_refl (a : O3) : a.beq a = true := by cases a <;> simp [O3.beq]
theorem SE.beq_refl : ∀ (a : SE), SE.beq a a = true
  | .var i => by simp [SE.beq]
  | .lit v => by simp [SE.beq, (PV.beq_iff _ _).2 rfl]
  | .o1 o a => by simp [SE.beq, O1.beq_refl, SE.beq_refl a]
  | .o2 o a c => by simp [SE.beq, O2.beq_refl, SE.beq_refl a, SE.beq_refl c]
  | .o3 o a c e => by simp [SE.beq, O3.beq_refl, SE.beq_refl a, SE.beq_refl c, SE.beq_refl e]
instance : DecidableEq SE := fun a b => if h : SE.beq a b = true then .isTrue (SE.beq_eq h) else .isFalse fun e => h (e ▸ SE.beq_refl a)

def updL (xs : List PV) (i : Int) (x : PV) : List PV := if 0 ≤ i then xs.set i.toNat x else xs
def bytesOfL (xs : List PV) : List UInt8 := xs.map fun x => UInt8.ofNat x.i.toNat
def listOfB (l : List UInt8) : List PV := l.map fun b => .int .u8 b.toNat

def O1.dn : O1 → PV → PV
  | .not, a => .bool (!a.b)
  | .neg k, a => .int k (k.wrap (-a.i))
  | .conv k, a => .int k (k.wrap a.i)
  | .len, a => .int .i64 a.l.length
  | .fld i, a => a.cs.getD i (.bool false)
  | .slen, a => .int .i64 a.s.length
  | .toS, a => .str (bytesOfL a.l)
  | .toB, a => .list 1 false (listOfB a.s)
  | .okB, a => .bool (a.l.all fun x => decide (0 ≤ x.i) && decide (x.i < 256))
  | .zeros sz ag z, a => .list sz ag (List.replicate a.i.toNat z)
def O2.dn : O2 → PV → PV → PV
  | .int op k, a, b => intOp op k a.i b.i
  | .str op, a, b => strOp op a.s b.s
  | .bool op, a, b => boolOp op a.b b.b
  | .eq, a, b => .bool (decide (a = b))
  | .and2, a, b => .bool (a.b && b.b)
  | .mx k, a, b => .int k (if b.i > a.i then b.i else a.i)
  | .mn k, a, b => .int k (if b.i < a.i then b.i else a.i)
  | .idx, a, i => a.l.getD i.i.toNat (.bool false)
  | .cat, a, b => match a with
    | .list sz ag xs => .list sz ag (xs ++ b.l)
    | v => v
  | .snoc, a, x => match a with
    | .list sz ag xs => .list sz ag (xs ++ [x])
    | v => v
  | .mkS, a, x => .agg (a.cs ++ [x])
  | .sidx, a, i => .int .u8 (a.s.getD i.i.toNat 0).toNat
  | .setf i, a, x => .agg (a.cs.set i x)
def O3.dn : O3 → PV → PV → PV → PV
  | .sub, a, lo, hi => match a with
    | .list sz ag xs => .list sz ag ((xs.take hi.i.toNat).drop lo.i.toNat)
    | v => v
  | .upd, a, i, x => match a with
    | .list sz ag xs => .list sz ag (updL xs i.i x)
    | v => v
  | .ssub, a, lo, hi => .str ((a.s.take hi.i.toNat).drop lo.i.toNat)

def SE.dn (env : List PV) : SE → PV
  | .var i => env.getD i (.bool false)
  | .lit v => v
  | .o1 o a => o.dn (a.dn env)
  | .o2 o a b => o.dn (a.dn env) (b.dn env)
  | .o3 o a b c => o.dn (a.dn env) (b.dn env) (c.dn env)

/-- What a function does. lab b a: what a jumps to is b; cont: to a loop or a label around. -/
inductive Tree where
  | ret (r : SE)
  | ite (c : SE) (a b : Tree)
  | need (c : SE) (t : Tree)
  | call (f : FuncId) (args : SE) (t : Tree)
  | loop (start : SE) (body : Tree)
  | lab (b a : Tree)
  | cont (lvl : Nat) (e : SE)
  | tell (pos : Nat) (l : List PV)
  | fail (why : String)
  deriving Inhabited

def rounds (f : (PV → Option PV) → PV → Option PV) : Nat → PV → Option PV
  | 0, _ => none
  | n + 1, v => f (rounds f n) v

/-- fuel: rounds of each loop; L: the loops and labels around. -/
def Tree.dn (fuel : Nat) (G : FuncId → PV → Option PV) : Tree → List (PV → Option PV) → List PV → Option PV
  | .ret r, L, env => some (r.dn env)
  | .ite c a b, L, env => match c.dn env with
    | .bool true => a.dn fuel G L env
    | .bool false => b.dn fuel G L env
    | _ => none
  | .need c t, L, env => match c.dn env with
    | .bool true => t.dn fuel G L env
    | _ => none
  | .call f e t, L, env => match G f (e.dn env) with
    | some r => t.dn fuel G L (env ++ [r])
    | none => none
  | .loop e body, L, env => rounds (fun self v => body.dn fuel G (L ++ [self]) (env ++ [v])) fuel (e.dn env)
  | .lab b a, L, env => a.dn fuel G (L ++ [fun v => b.dn fuel G L (env ++ [v])]) env
  | .cont lvl e, L, env => match L[lvl]? with
    | some f => f (e.dn env)
    | none => none
  | .tell _ _, L, env => none
  | .fail _, L, env => none

/-- A program of trees, with so much fuel. -/
def run (leaf : FuncId → Option (PV → Option PV)) (trees : FuncId → Option Tree) : Nat → FuncId → PV → Option PV
  | 0, _, _ => none
  | n + 1, f, v => match leaf f with
    | some g => g v
    | none => match trees f with
      | none => none
      | some t => t.dn (n + 1) (run leaf trees n) [] [v]

/-! ### Names that are bound -/
def SE.upTo (n : Nat) : SE → Bool
  | .var i => decide (i < n)
  | .lit _ => true
  | .o1 _ a => a.upTo n
  | .o2 _ a b => a.upTo n && b.upTo n
  | .o3 _ a b c => a.upTo n && b.upTo n && c.upTo n
theorem SE.dn_upTo {n : Nat} {env env' : List PV} (h : ∀ i, i < n → env.getD i (.bool false) = env'.getD i (.bool false)) : ∀ {e : SE}, e.upTo n = true → e.dn env = e.dn env'
  | .var i, hu => by simp only [SE.dn]; exact h i (by simpa [SE.upTo] using hu)
  | .lit v, _ => rfl
  | .o1 o a, hu => by simp only [SE.upTo] at hu; simp only [SE.dn, SE.dn_upTo h hu]
  | .o2 o a b, hu => by simp only [SE.upTo, Bool.and_eq_true] at hu; simp only [SE.dn, SE.dn_upTo h hu.1, SE.dn_upTo h hu.2]
  | .o3 o a b c, hu => by simp only [SE.upTo, Bool.and_eq_true] at hu; simp only [SE.dn, SE.dn_upTo h hu.1.1, SE.dn_upTo h hu.1.2, SE.dn_upTo h hu.2]
/-- The first names are the same. -/
def Agree (n : Nat) (env env' : List PV) : Prop := ∀ i, i < n → env.getD i (.bool false) = env'.getD i (.bool false)
theorem Agree.symm {n : Nat} {env env' : List PV} (h : Agree n env env') : Agree n env' env := fun i hi => (h i hi).symm
theorem Agree.trans {n : Nat} {a b c : List PV} (h : Agree n a b) (k : Agree n b c) : Agree n a c := fun i hi => (h i hi).trans (k i hi)
theorem Agree.ofPre {env env' : List PV} (h : env <+: env') : Agree env.length env env' := by
  obtain ⟨r, rfl⟩ := h
  intro i hi
  simp [List.getD_eq_getElem?_getD, List.getElem?_append_left hi]
theorem Agree.le {m n : Nat} {a b : List PV} (h : Agree n a b) (hm : m ≤ n) : Agree m a b := fun i hi => h i (by omega)

end Go.Dv

/- How pure values stand to the model's values; abstract values, blocks and the heap. -/
set_option linter.unusedVariables false
set_option linter.unusedSimpArgs false
namespace Go.Dv

/-- Cells that never change again. -/
abbrev Pins := Nat → Nat → Option Value
def Pins.le (p q : Pins) : Prop := ∀ b o v, p b o = some v → q b o = some v
theorem Pins.le_refl (p : Pins) : p.le p := fun _ _ _ h => h
theorem Pins.le_trans {p q r : Pins} (h : p.le q) (k : q.le r) : p.le r := fun b o v x => k b o v (h b o v x)

/-- A slice's value: n elements, the first of them where `at_` says. -/
def IsSlice (v : Value) (n : Nat) (sz : Nat) (at_ : Nat → Nat → Prop) : Prop :=
  ∃ a c, v = .slice a n c ∧ n ≤ c ∧ 0 < sz ∧ (a = none → c = 0) ∧ (0 < n → ∃ b o, a = some ⟨b, o, none⟩ ∧ at_ b o)

mutual
/-- A value of one cell. -/
def RV (p : Pins) : PV → Value → Prop
  | .int k n, v => v = .int k n
  | .bool b, v => v = .bool b
  | .str l, v => v = .string ⟨l.toArray⟩
  | .list sz ag xs, v => IsSlice v xs.length sz fun b o => REs p (p b) sz ag o xs
  | .agg _, _ => False
/-- Elements, one behind the other, in a row of cells q. -/
def REs (p : Pins) (q : Nat → Option Value) (sz : Nat) (ag : Bool) : Nat → List PV → Prop
  | _, [] => True
  | o, x :: xs => RE p q sz ag o x ∧ REs p q sz ag (o + sz) xs
def RE (p : Pins) (q : Nat → Option Value) (sz : Nat) (ag : Bool) : Nat → PV → Prop
  | o, .agg cs => ag = true ∧ cs.length = sz ∧ RCs p q o cs
  | o, .int k n => ag = false ∧ sz = 1 ∧ ∃ v, q o = some v ∧ v = .int k n
  | o, .bool c => ag = false ∧ sz = 1 ∧ ∃ v, q o = some v ∧ v = .bool c
  | o, .str l => ag = false ∧ sz = 1 ∧ ∃ v, q o = some v ∧ v = .string ⟨l.toArray⟩
  | o, .list s g xs => ag = false ∧ sz = 1 ∧ ∃ v, q o = some v ∧ IsSlice v xs.length s fun b o => REs p (p b) s g o xs
def RCs (p : Pins) (q : Nat → Option Value) : Nat → List PV → Prop
  | _, [] => True
  | o, x :: xs => (∃ v, q o = some v ∧ RV p x v) ∧ RCs p q (o + 1) xs
end

theorem IsSlice.imp {v : Value} {n sz : Nat} {A B : Nat → Nat → Prop} (h : IsSlice v n sz A) (k : ∀ b o, A b o → B b o) : IsSlice v n sz B := by
  obtain ⟨a, c, h1, h2, h3, h4, h5⟩ := h
  refine ⟨a, c, h1, h2, h3, h4, fun hn => ?_⟩
  obtain ⟨b, o, e, h⟩ := h5 hn
  exact ⟨b, o, e, k b o h⟩

mutual
theorem RV_mono {p p' : Pins} (h : p.le p') : ∀ (x : PV) (v : Value), RV p x v → RV p' x v
  | .int k n, v, hv => by simpa [RV] using hv
  | .bool b, v, hv => by simpa [RV] using hv
  | .str l, v, hv => by simpa [RV] using hv
  | .list sz ag xs, v, hv => by
    simp only [RV] at hv ⊢
    exact hv.imp fun b o hh => REs_mono h (fun o v hq => h b o v hq) xs o hh
  | .agg _, v, hv => by simp [RV] at hv
theorem REs_mono {p p' : Pins} (h : p.le p') {q q' : Nat → Option Value} (hq : ∀ o v, q o = some v → q' o = some v) {sz : Nat} {ag : Bool} : ∀ (xs : List PV) (o : Nat), REs p q sz ag o xs → REs p' q' sz ag o xs
  | [], o, hv => by simp [REs]
  | x :: xs, o, hv => by
    simp only [REs] at hv ⊢
    exact ⟨RE_mono h hq x o hv.1, REs_mono h hq xs _ hv.2⟩
theorem RE_mono {p p' : Pins} (h : p.le p') {q q' : Nat → Option Value} (hq : ∀ o v, q o = some v → q' o = some v) {sz : Nat} {ag : Bool} : ∀ (x : PV) (o : Nat), RE p q sz ag o x → RE p' q' sz ag o x
  | .agg cs, o, hv => by
    simp only [RE] at hv ⊢
    exact ⟨hv.1, hv.2.1, RCs_mono h hq cs o hv.2.2⟩
  | .int k n, o, hv => by
    simp only [RE] at hv ⊢
    obtain ⟨h1, h2, v, h3, h4⟩ := hv
    exact ⟨h1, h2, v, hq _ _ h3, h4⟩
  | .bool c, o, hv => by
    simp only [RE] at hv ⊢
    obtain ⟨h1, h2, v, h3, h4⟩ := hv
    exact ⟨h1, h2, v, hq _ _ h3, h4⟩
  | .str c, o, hv => by
    simp only [RE] at hv ⊢
    obtain ⟨h1, h2, v, h3, h4⟩ := hv
    exact ⟨h1, h2, v, hq _ _ h3, h4⟩
  | .list s g xs, o, hv => by
    simp only [RE] at hv ⊢
    obtain ⟨h1, h2, v, h3, h4⟩ := hv
    exact ⟨h1, h2, v, hq _ _ h3, h4.imp fun b o hh => REs_mono h (fun o v hq => h b o v hq) xs o hh⟩
theorem RCs_mono {p p' : Pins} (h : p.le p') {q q' : Nat → Option Value} (hq : ∀ o v, q o = some v → q' o = some v) : ∀ (xs : List PV) (o : Nat), RCs p q o xs → RCs p' q' o xs
  | [], o, hv => by simp [RCs]
  | x :: xs, o, hv => by
    simp only [RCs] at hv ⊢
    obtain ⟨⟨v, h1, h2⟩, h3⟩ := hv
    exact ⟨⟨v, hq _ _ h1, RV_mono h x v h2⟩, RCs_mono h hq xs _ h3⟩
end

/-! ### Kinds -/
/-- The kind of a value of one cell; a slice by the type of its elements. -/
inductive Kn where
  | int (k : IntKind)
  | bool
  | str
  | list (e : TypeId)
  deriving DecidableEq, Inhabited

def sizeA (P : Program) (t : TypeId) : Option Nat := (P.info? t).map (·.size)
def isAggA (P : Program) (t : TypeId) : Option Bool :=
  match P.underlying t with
  | some (.struct _) => some true
  | some (.array _ _) => some true
  | some _ => some false
  | none => none
def kindOf (P : Program) (t : TypeId) : Option Kn :=
  match P.underlying t with
  | some (.int k) => some (.int k)
  | some .bool => some .bool
  | some .string => some .str
  | some (.slice e) => some (.list e)
  | _ => none
/-- The kinds of a value's cells, if each has one. -/
def cellKs (P : Program) : Nat → TypeId → Option (List Kn)
  | 0, _ => none
  | d + 1, t =>
    match P.underlying t with
    | some (.struct fs) => fs.toList.foldr (fun f r => match cellKs P d f.type, r with | some a, some b => some (a ++ b) | _, _ => none) (some [])
    | _ => (kindOf P t).map fun k => [k]
def cellK (P : Program) (t : TypeId) : Option (List Kn) := cellKs P 12 t

section
variable (P : Program)
mutual
/-- A value of one cell is of a kind. -/
def wt : Kn → PV → Bool
  | .int k, .int k' _ => decide (k = k')
  | .bool, .bool _ => true
  | .str, .str _ => true
  | .list e, .list sz ag xs => sizeA P e == some sz && isAggA P e == some ag && wtEs e (cellK P e) xs
  | _, _ => false
def wtEs (e : TypeId) (ks : Option (List Kn)) : List PV → Bool
  | [] => true
  | x :: xs => wtE e ks x && wtEs e ks xs
def wtE (e : TypeId) (ks : Option (List Kn)) : PV → Bool
  | .agg cs => match ks with | some ks => wtCs ks cs | none => false
  | .int k n => match ks with | some [.int k'] => decide (k' = k) | _ => false
  | .bool _ => match ks with | some [.bool] => true | _ => false
  | .str _ => match ks with | some [.str] => true | _ => false
  | .list sz ag xs => match ks with | some [.list e'] => sizeA P e' == some sz && isAggA P e' == some ag && wtEs e' (cellK P e') xs | _ => false
def wtCs : List Kn → List PV → Bool
  | [], [] => true
  | k :: ks, c :: cs => wt k c && wtCs ks cs
  | _, _ => false
end
end

/-! ### Abstract values -/
inductive AV where
  | un
  | pv (k : Kn) (e : SE)
  | ptr (i o : Nat)
  | nilp
  | slf (i o : Nat)
  | nils
  | emp
  | el (e ix : SE) (o : Nat) (t : TypeId)
  | own (i : Nat) (n : SE)
  | elo (i : Nat) (n ix : SE) (o sz : Nat)
  | fn (f : FuncId) (first captured : List AV)
  | nilfn
  | agg (l : List AV)
  | tup (l : List AV)
  deriving Inhabited

inductive Blk where
  | dead
  | cells (vs : List AV) (t : TypeId)
  | lst (e n : SE) (sz : Nat) (ag : Bool) (t : TypeId) (wr : Bool)
  deriving Inhabited

def Blk.alive : Blk → Bool
  | .dead => false
  | _ => true

/-- Where a block lies: the world's block, if there is one; a row's capacity. -/
abbrev Rho := Nat → Option (Option Nat × Nat)
def Rho.le (ρ ρ' : Rho) : Prop := ∀ i b, ρ i = some b → ρ' i = some b
theorem Rho.le_refl (ρ : Rho) : ρ.le ρ := fun _ _ h => h
theorem Rho.le_trans {a b c : Rho} (h : a.le b) (k : b.le c) : a.le c := fun i x hx => k i x (h i x hx)

section
variable (P : Program) (env : List PV) (p : Pins) (ρ : Rho)
mutual
def val : AV → Value → Prop
  | .un, _ => True
  | .pv k e, v => RV p (e.dn env) v ∧ wt P k (e.dn env) = true
  | .ptr i o, v => ∃ b m, ρ i = some (some b, m) ∧ v = .pointer (some ⟨b, o, none⟩)
  | .nilp, v => v = .pointer none
  | .slf i o, v => v = .pointer none ∨ ∃ b m, ρ i = some (some b, m) ∧ v = .pointer (some ⟨b, o, none⟩)
  | .nils, v => v = .slice none 0 0
  | .emp, v => ∃ a, v = .slice a 0 0
  | .el e ix o t, v => ∃ b o' sz ag xs, e.dn env = .list sz ag xs ∧ wt P (.list t) (.list sz ag xs) = true ∧ REs p (p b) sz ag o' xs ∧ 0 ≤ (ix.dn env).i ∧ (ix.dn env).i.toNat < xs.length ∧ v = .pointer (some ⟨b, o' + (ix.dn env).i.toNat * sz + o, none⟩)
  | .own i n, v => ∃ a c, ∃ m : Nat, ∃ ad, ρ i = some (a, c) ∧ n.dn env = .int .i64 m ∧ v = .slice ad m c ∧ m ≤ c ∧ (a = none → c = 0) ∧ (0 < c → ad = a.map fun b => ⟨b, 0, none⟩)
  | .elo i n ix o sz, v => ∃ b c, ρ i = some (some b, c) ∧ 0 ≤ (ix.dn env).i ∧ (ix.dn env).i < (n.dn env).i ∧ v = .pointer (some ⟨b, (ix.dn env).i.toNat * sz + o, none⟩)
  | .fn f xs ys, v => ∃ us ws, v = .func (.func f) us ws ∧ vals xs us.toList ∧ vals ys ws.toList
  | .nilfn, v => v = .nilFunc
  | .agg xs, v => ∃ us, v = .agg us ∧ vals xs us.toList
  | .tup xs, v => ∃ us, v = .tuple us ∧ vals xs us.toList
def vals : List AV → List Value → Prop
  | [], vs => vs = []
  | a :: as, vs => ∃ v r, vs = v :: r ∧ val a v ∧ vals as r
end
end

mutual
theorem val_mono {P : Program} {env : List PV} {p p' : Pins} {ρ ρ' : Rho} (hp : p.le p') (h : ρ.le ρ') : ∀ (a : AV) (v : Value), val P env p ρ a v → val P env p' ρ' a v
  | .un, v, _ => by simp [val]
  | .pv k e, v, hv => by simp only [val] at hv ⊢; exact ⟨RV_mono hp _ _ hv.1, hv.2⟩
  | .ptr i o, v, hv => by
    simp only [val] at hv ⊢
    obtain ⟨b, m, hb, e⟩ := hv
    exact ⟨b, m, h _ _ hb, e⟩
  | .nilp, v, hv => by simpa [val] using hv
  | .slf i o, v, hv => by
    simp only [val] at hv ⊢
    rcases hv with hv | ⟨b, m, hb, e⟩
    · exact .inl hv
    · exact .inr ⟨b, m, h _ _ hb, e⟩
  | .nils, v, hv => by simpa [val] using hv
  | .emp, v, hv => by simpa [val] using hv
  | .el e ix o t, v, hv => by
    simp only [val] at hv ⊢
    obtain ⟨b, o', sz, ag, xs, h1, h0, h2, h3⟩ := hv
    exact ⟨b, o', sz, ag, xs, h1, h0, REs_mono hp (fun o v hq => hp b o v hq) xs _ h2, h3⟩
  | .own i n, v, hv => by
    simp only [val] at hv ⊢
    obtain ⟨a, c, m, ad, hb, e⟩ := hv
    exact ⟨a, c, m, ad, h _ _ hb, e⟩
  | .elo i n ix o sz, v, hv => by
    simp only [val] at hv ⊢
    obtain ⟨b, m, hb, e⟩ := hv
    exact ⟨b, m, h _ _ hb, e⟩
  | .fn f xs ys, v, hv => by
    simp only [val] at hv ⊢
    obtain ⟨us, ws, e, h1, h2⟩ := hv
    exact ⟨us, ws, e, vals_mono hp h _ _ h1, vals_mono hp h _ _ h2⟩
  | .nilfn, v, hv => by simpa [val] using hv
  | .agg xs, v, hv => by
    simp only [val] at hv ⊢
    obtain ⟨us, e, h1⟩ := hv
    exact ⟨us, e, vals_mono hp h _ _ h1⟩
  | .tup xs, v, hv => by
    simp only [val] at hv ⊢
    obtain ⟨us, e, h1⟩ := hv
    exact ⟨us, e, vals_mono hp h _ _ h1⟩
theorem vals_mono {P : Program} {env : List PV} {p p' : Pins} {ρ ρ' : Rho} (hp : p.le p') (h : ρ.le ρ') : ∀ (a : List AV) (v : List Value), vals P env p ρ a v → vals P env p' ρ' a v
  | [], v, hv => by simpa [vals] using hv
  | x :: xs, v, hv => by
    simp only [vals] at hv ⊢
    obtain ⟨u, r, e, h1, h2⟩ := hv
    exact ⟨u, r, e, val_mono hp h _ _ h1, vals_mono hp h _ _ h2⟩
end

section
variable {P : Program} {env : List PV} {p : Pins} {ρ : Rho}
theorem vals_nil : vals P env p ρ [] [] := by simp [vals]
theorem vals_cons {a : AV} {as : List AV} {v : Value} {vs : List Value} (h : val P env p ρ a v) (hs : vals P env p ρ as vs) : vals P env p ρ (a :: as) (v :: vs) := by
  simp only [vals]; exact ⟨v, vs, rfl, h, hs⟩
theorem vals_nil_inv {vs : List Value} (h : vals P env p ρ [] vs) : vs = [] := by simpa [vals] using h
theorem vals_length {as : List AV} {vs : List Value} (h : vals P env p ρ as vs) : vs.length = as.length := by
  induction as generalizing vs with
  | nil => simp [vals_nil_inv h]
  | cons a as ih =>
    simp only [vals] at h
    obtain ⟨v, r, rfl, _, h2⟩ := h
    simp [ih h2]
theorem vals_get {as : List AV} {vs : List Value} (h : vals P env p ρ as vs) {k : Nat} {a : AV} (hk : as[k]? = some a) : ∃ v, vs[k]? = some v ∧ val P env p ρ a v := by
  induction as generalizing vs k with
  | nil => simp at hk
  | cons x xs ih =>
    simp only [vals] at h
    obtain ⟨v, r, rfl, h1, h2⟩ := h
    cases k with
    | zero => simp only [List.getElem?_cons_zero, Option.some.injEq] at hk; subst hk; exact ⟨v, by simp, h1⟩
    | succ k => simp only [List.getElem?_cons_succ] at hk ⊢; exact ih h2 hk
theorem vals_of_get {as : List AV} {vs : List Value} (hl : vs.length = as.length) (h : ∀ (k : Nat) (a : AV), as[k]? = some a → ∃ v, vs[k]? = some v ∧ val P env p ρ a v) : vals P env p ρ as vs := by
  induction as generalizing vs with
  | nil => simp at hl; subst hl; exact vals_nil
  | cons x xs ih =>
    cases vs with
    | nil => simp at hl
    | cons v r =>
      obtain ⟨u, hu, hv⟩ := h 0 x (by simp)
      simp only [List.getElem?_cons_zero, Option.some.injEq] at hu
      subst hu
      exact vals_cons hv (ih (by simpa using hl) fun k a hk => by simpa using h (k + 1) a (by simpa using hk))
theorem vals_append {as bs : List AV} {vs us : List Value} (h : vals P env p ρ as vs) (k : vals P env p ρ bs us) : vals P env p ρ (as ++ bs) (vs ++ us) := by
  induction as generalizing vs with
  | nil => rw [vals_nil_inv h]; simpa using k
  | cons x xs ih =>
    simp only [vals] at h
    obtain ⟨v, r, rfl, h1, h2⟩ := h
    exact vals_cons h1 (ih h2)
theorem vals_set {as : List AV} {vs : List Value} (h : vals P env p ρ as vs) (n : Nat) {a : AV} {v : Value} (ha : val P env p ρ a v) : vals P env p ρ (as.set n a) (vs.set n v) := by
  induction as generalizing vs n with
  | nil => rw [vals_nil_inv h]; simp [vals]
  | cons x xs ih =>
    simp only [vals] at h
    obtain ⟨u, r, rfl, h1, h2⟩ := h
    cases n with
    | zero => simp only [List.set_cons_zero]; exact vals_cons ha h2
    | succ n => simp only [List.set_cons_succ]; exact vals_cons h1 (ih h2 n)
end

/-! ### The heap: blocks by number -/
abbrev Heap := List Blk

/-- A row of one's own lies at a block, with so much room. -/
def RowOk (p : Pins) (w : World) (a : Option Nat) (c : Nat) (xs : List PV) (t : TypeId) (sz : Nat) (ag wr : Bool) : Prop :=
  0 < sz ∧ xs.length ≤ c ∧ (a = none → c = 0) ∧
    ∀ b, a = some b → ∃ cs, w.heap[b]? = some (.cells cs t (0, 0)) ∧ cs.size = c * sz ∧ REs p (fun o => cs[o]?) sz ag 0 xs ∧ (∀ o v, p b o = some v → o < xs.length * sz) ∧ (wr = true → ∀ o, p b o = none)

def blkRel (P : Program) (env : List PV) (p : Pins) (ρ : Rho) (w : World) (i : Nat) : Blk → Prop
  | .dead => True
  | .cells vs t => ∃ b m cs, ρ i = some (some b, m) ∧ w.heap[b]? = some (.cells cs t (0, 0)) ∧ cs.size = vs.length ∧ (∀ o, p b o = none) ∧ ∀ (k : Nat) (a : AV), vs[k]? = some a → ∃ v : Value, cs[k]? = some v ∧ val P env p ρ a v
  | .lst e n sz ag t wr => ∃ a c xs, ρ i = some (a, c) ∧ e.dn env = .list sz ag xs ∧ wt P (.list t) (.list sz ag xs) = true ∧ n.dn env = .int .i64 xs.length ∧ RowOk p w a c xs t sz ag wr

/-- What the pins always say: the cell of bytealg.MaxLen (global 0). -/
def Base (p : Pins) : Prop := ∃ m, p 0 0 = some (.int .i64 m)
theorem Base.mono {p p' : Pins} (h : Base p) (hp : p.le p') : Base p' := by
  obtain ⟨m, hm⟩ := h
  exact ⟨m, hp _ _ _ hm⟩
structure Rel (P : Program) (env : List PV) (p : Pins) (ρ : Rho) (H : Heap) (w : World) : Prop where
  pin : ∀ b o v, p b o = some v → w.cell? ⟨b, o, none⟩ = some v
  blk : ∀ i x B, ρ i = some x → H[i]? = some B → blkRel P env p ρ w i B
  inj : ∀ i j b m m' B C, ρ i = some (some b, m) → ρ j = some (some b, m') → H[i]? = some B → H[j]? = some C → B.alive = true → C.alive = true → i = j
  dom : ∀ i x, ρ i = some x → i < H.length ∧ ∀ b, x.1 = some b → b < w.heap.size
  base : Base p

/-- What belongs to the heap. -/
def mine (ρ : Rho) (H : Heap) (b : Nat) : Prop := ∃ i m B, ρ i = some (some b, m) ∧ H[i]? = some B ∧ B.alive = true

/-- A step of the world beside a step of the heap. -/
structure Step (p : Pins) (ρ : Rho) (H : Heap) (w : World) (p' : Pins) (ρ' : Rho) (H' : Heap) (w' : World) : Prop where
  os : w'.os = w.os
  tape : w'.tape = w.tape
  output : w'.output = w.output
  size : w.heap.size ≤ w'.heap.size
  pins : p.le p'
  le : ρ.le ρ'
  next : H.length ≤ H'.length
  keep : ∀ b, b < w.heap.size → ¬ mine ρ H b → w'.heap[b]? = w.heap[b]?
  new : ∀ b, b < w.heap.size → mine ρ' H' b → mine ρ H b
  fresh : ∀ b o v, p' b o = some v → p b o = some v ∨ mine ρ H b ∨ w.heap.size ≤ b
  born : ∀ i x, ρ' i = some x → ρ i = some x ∨ H.length ≤ i

theorem Step.refl (p : Pins) (ρ : Rho) (H : Heap) (w : World) : Step p ρ H w p ρ H w :=
  ⟨rfl, rfl, rfl, Nat.le_refl _, Pins.le_refl _, Rho.le_refl _, Nat.le_refl _, fun _ _ _ => rfl, fun _ _ h => h, fun _ _ _ h => .inl h, fun _ _ h => .inl h⟩

theorem Step.trans {p p' p'' : Pins} {ρ ρ' ρ'' : Rho} {H H' H'' : Heap} {w w' w'' : World} (h : Step p ρ H w p' ρ' H' w') (k : Step p' ρ' H' w' p'' ρ'' H'' w'') : Step p ρ H w p'' ρ'' H'' w'' where
  os := k.os.trans h.os
  tape := k.tape.trans h.tape
  output := k.output.trans h.output
  size := Nat.le_trans h.size k.size
  pins := Pins.le_trans h.pins k.pins
  le := Rho.le_trans h.le k.le
  next := Nat.le_trans h.next k.next
  keep := fun b hb hn => (k.keep b (Nat.lt_of_lt_of_le hb h.size) (fun hw => hn (h.new b hb hw))).trans (h.keep b hb hn)
  new := fun b hb hw => h.new b hb (k.new b (Nat.lt_of_lt_of_le hb h.size) hw)
  fresh := fun b o v hv => by
    rcases k.fresh b o v hv with h1 | h1 | h1
    · exact h.fresh b o v h1
    · by_cases hb : b < w.heap.size
      · exact .inr (.inl (h.new b hb h1))
      · exact .inr (.inr (by omega))
    · exact .inr (.inr (Nat.le_trans h.size h1))
  born := fun i x hx => by
    rcases k.born i x hx with h1 | h1
    · exact h.born i x h1
    · exact .inr (Nat.le_trans h.next h1)
end Go.Dv

/- The symbolic evaluator: operations. -/
set_option linter.unusedVariables false
set_option linter.unusedSimpArgs false
namespace Go.Dv

/-! Constructors that reckon where all is known. -/
def seInt (op : BinOp) (k : IntKind) : SE → SE → SE
  | .lit (.int j a), .lit (.int l b) => .lit (intOp op k a b)
  | a, b => .o2 (.int op k) a b
theorem seInt_dn (op : BinOp) (k : IntKind) (a b : SE) (env : List PV) : (seInt op k a b).dn env = intOp op k (a.dn env).i (b.dn env).i := by
  unfold seInt
  split <;> rfl
def seStr (op : BinOp) : SE → SE → SE
  | .lit (.str a), .lit (.str b) => .lit (strOp op a b)
  | a, b => .o2 (.str op) a b
theorem seStr_dn (op : BinOp) (a b : SE) (env : List PV) : (seStr op a b).dn env = strOp op (a.dn env).s (b.dn env).s := by
  unfold seStr
  split <;> rfl
def seNot : SE → SE
  | .lit (.bool b) => .lit (.bool (!b))
  | a => .o1 .not a
theorem seNot_dn (a : SE) (env : List PV) : (seNot a).dn env = .bool (!(a.dn env).b) := by
  unfold seNot
  split <;> rfl
def seBool (op : BinOp) : SE → SE → SE
  | .lit (.bool a), .lit (.bool b) => .lit (boolOp op a b)
  | a, b => .o2 (.bool op) a b
theorem seBool_dn (op : BinOp) (a b : SE) (env : List PV) : (seBool op a b).dn env = boolOp op (a.dn env).b (b.dn env).b := by
  unfold seBool
  split <;> rfl
def seLen : SE → SE
  | .lit (.list _ _ xs) => .lit (.int .i64 xs.length)
  | a => .o1 .len a
theorem seLen_dn (a : SE) (env : List PV) : (seLen a).dn env = .int .i64 (a.dn env).l.length := by
  unfold seLen
  split <;> rfl
def seSlen : SE → SE
  | .lit (.str l) => .lit (.int .i64 l.length)
  | a => .o1 .slen a
theorem seSlen_dn (a : SE) (env : List PV) : (seSlen a).dn env = .int .i64 (a.dn env).s.length := by
  unfold seSlen
  split <;> rfl
def seFld (a : SE) (i : Nat) : SE := .o1 (.fld i) a
def seNeg (k : IntKind) : SE → SE
  | .lit (.int _ n) => .lit (.int k (k.wrap (-n)))
  | a => .o1 (.neg k) a
theorem seNeg_dn (k : IntKind) (a : SE) (env : List PV) : (seNeg k a).dn env = .int k (k.wrap (-(a.dn env).i)) := by
  unfold seNeg
  split <;> rfl
def seConv (k : IntKind) : SE → SE
  | .lit (.int _ n) => .lit (.int k (k.wrap n))
  | a => .o1 (.conv k) a
theorem seConv_dn (k : IntKind) (a : SE) (env : List PV) : (seConv k a).dn env = .int k (k.wrap (a.dn env).i) := by
  unfold seConv
  split <;> rfl
def seMx (k : IntKind) : SE → SE → SE
  | .lit (.int _ a), .lit (.int _ b) => .lit (.int k (if b > a then b else a))
  | a, b => .o2 (.mx k) a b
theorem seMx_dn (k : IntKind) (a b : SE) (env : List PV) : (seMx k a b).dn env = .int k (if (b.dn env).i > (a.dn env).i then (b.dn env).i else (a.dn env).i) := by
  unfold seMx
  split <;> rfl
def seMn (k : IntKind) : SE → SE → SE
  | .lit (.int _ a), .lit (.int _ b) => .lit (.int k (if b < a then b else a))
  | a, b => .o2 (.mn k) a b
theorem seMn_dn (k : IntKind) (a b : SE) (env : List PV) : (seMn k a b).dn env = .int k (if (b.dn env).i < (a.dn env).i then (b.dn env).i else (a.dn env).i) := by
  unfold seMn
  split <;> rfl
def seNil (sz : Nat) (ag : Bool) : SE := .lit (.list sz ag [])

def i64 (n : Int) : SE := .lit (.int .i64 n)

/-! ### Values of the program's text -/
mutual
def ofV : Value → Option AV
  | .bool b => some (.pv .bool (.lit (.bool b)))
  | .int k n => some (.pv (.int k) (.lit (.int k n)))
  | .string s => some (.pv .str (.lit (.str s.data.toList)))
  | .pointer none => some .nilp
  | .slice none 0 0 => some .nils
  | .nilFunc => some .nilfn
  | .agg a => (ofVA a).map AV.agg
  | .tuple a => (ofVA a).map AV.tup
  | _ => none
def ofVA : Array Value → Option (List AV)
  | ⟨l⟩ => ofVL l
def ofVL : List Value → Option (List AV)
  | [] => some []
  | v :: vs => (ofV v).bind fun a => (ofVL vs).map (a :: ·)
end

def undefA : AV := .tup []
def evA (ts : List AV) : Operand → AV
  | .tmp t => ts.getD t .un
  | .const v => (ofV v).getD .un
  | .global _ => .un
  | .func f => .fn f [] []

def zeroA (P : Program) (t : TypeId) : Option AV := ((P.info? t).bind (·.zero)).bind ofV
def oneA : AV → Bool
  | .un | .agg _ | .tup _ => false
  | _ => true
def cellsA : AV → Option (List AV)
  | .un => none
  | .tup _ => none
  | .agg l => if l.all oneA then some l else none
  | a => some [a]
def getCells (vs : List AV) (o n : Nat) : Option (List AV) :=
  let l := (vs.drop o).take n
  if l.length = n then some l else none
def setL : List AV → Nat → List AV → List AV
  | vs, _, [] => vs
  | vs, o, x :: xs => setL (vs.set o x) (o + 1) xs

inductive OpR where
  | val (a : AV)
  | new (mk : Nat → AV) (B : Blk)
  | wr (a : AV) (H : Heap)
  | skip (H : Heap)
  | enter (f : FuncId) (args : List AV)

/-- What an operation asks, and what it gives. -/
abbrev Out := Option (List SE × OpR)
def done (a : AV) : Out := some ([], .val a)
def asks (l : List SE) (a : AV) : Out := some (l, .val a)

section
variable (P : Program)

def nilSE (k : Kn) : Option SE :=
  match k with
  | .list e => match sizeA P e, isAggA P e with
    | some sz, some ag => if 0 < sz then some (seNil sz ag) else none
    | _, _ => none
  | _ => none
/-- A value of one cell as a pure one, of a kind. -/
def toSE (k : Kn) : AV → Option SE
  | .pv k' e => if k = k' then some e else none
  | .emp => nilSE P k
  | .nils => nilSE P k
  | _ => none
def toSEs : List Kn → List AV → Option (List SE)
  | [], [] => some []
  | k :: ks, a :: as => match toSE P k a, toSEs ks as with
    | some e, some es => some (e :: es)
    | _, _ => none
  | _, _ => none
def mkSE (es : List SE) : SE := es.foldl (SE.o2 .mkS) (.lit (.agg []))
/-- An element of a list: a struct, or a value of one cell. -/
def elemSE (t : TypeId) (cs : List AV) : Option SE :=
  match cellK P t with
  | none => none
  | some ks => match toSEs P ks cs with
    | none => none
    | some es => match isAggA P t, es with
      | some true, es => some (mkSE es)
      | some false, [e] => some e
      | _, _ => none

/-- The cells of a pure struct. -/
def partsOf (e : SE) : Nat → List Kn → List AV
  | _, [] => []
  | i, k :: ks => .pv k (seFld e i) :: partsOf e (i + 1) ks

/-- What lies at an element, from a cell of it on. -/
def elemAt (te t : TypeId) (x : SE) (o : Nat) : Option AV :=
  match isAggA P te, cellK P te, isAggA P t with
  | some false, some [k], some false => if o = 0 then some (.pv k x) else none
  | some true, some ks, some false => match ks[o]? with
    | some k => some (.pv k (seFld x o))
    | none => none
  | some true, some ks, some true => match sizeA P t with
    | some n => if o + n ≤ ks.length then some (.agg ((partsOf x 0 ks).drop o |>.take n)) else none
    | none => none
  | _, _, _ => none

def loadA (H : Heap) (t : TypeId) : AV → Option AV
  | .ptr i o =>
    match H[i]? with
    | some (.cells vs _) =>
      match isAggA P t with
      | some true => (sizeA P t).bind fun n => (getCells vs o n).map AV.agg
      | some false => vs[o]?
      | none => none
    | _ => none
  | .el e ix o te => elemAt P te t (.o2 .idx e ix) o
  | .elo i n ix o sz =>
    match H[i]? with
    | some (.lst e n' sz' ag te wr) => if n = n' ∧ sz = sz' then elemAt P te t (.o2 .idx e ix) o else none
    | _ => none
  | _ => none

/-- An own row is handed on: from now on nobody writes what is in it. -/
def froze (H : Heap) : AV → AV × Heap
  | .own i n => match H[i]? with
    | some (.lst e n' sz ag t wr) => if n = n' then (.pv (.list t) e, H.set i (.lst e n' sz ag t false)) else (.un, H)
    | _ => (.un, H)
  | a => (a, H)
def frozeL (H : Heap) : List AV → List AV × Heap
  | [] => ([], H)
  | a :: as => let q := froze H a; let r := frozeL q.2 as; (q.1 :: r.1, r.2)

def storeA (H : Heap) (t : TypeId) (q x : AV) : Option Heap :=
  match q with
  | .ptr i o =>
    match H[i]? with
    | some (.cells vs bt) =>
      match cellsA x, sizeA P t with
      | some cs, some n => if cs.length = n ∧ o + n ≤ vs.length then some (H.set i (.cells (setL vs o cs) bt)) else none
      | _, _ => none
    | _ => none
  | .elo i n ix o sz =>
    match cellsA x with
    | none => none
    | some cs =>
      let fr := frozeL H cs
      match fr.2[i]? with
      | some (.lst e n' sz' ag te true) =>
        if n = n' ∧ sz = sz' then
          match cellK P te with
          | none => none
          | some ks =>
            match toSEs P ((ks.drop o).take cs.length) fr.1 with
            | none => none
            | some es =>
              if (sizeA P t).any (· == es.length) && es.length == cs.length && decide (o + es.length ≤ ks.length) && (isAggA P te == some ag) && decide (0 < es.length) then
                let x' := if ag then (es.foldl (fun (s : SE × Nat) y => (SE.o2 (.setf s.2) s.1 y, s.2 + 1)) (SE.o2 .idx e ix, o)).1 else es.headD (.lit (.agg []))
                some (fr.2.set i (.lst (.o3 .upd e ix x') n' sz' ag te true))
              else none
        else none
      | _ => none
  | _ => none

def fillA (place : Nat → Option (Nat × Nat)) : List AV → List (Nat × AV) → Option (List AV)
  | cs, [] => some cs
  | cs, (i, x) :: r =>
    match place i, cellsA x with
    | some (off, size), some xs => if xs.length = size ∧ off + size ≤ cs.length then fillA place (setL cs off xs) r else none
    | _, _ => none
def placesA : List Field → Option (List (Nat × Nat))
  | [] => some []
  | f :: fs => (sizeA P f.type).bind fun n => (placesA fs).map ((f.offset, n) :: ·)
def buildA (t : TypeId) (parts : List (Nat × AV)) : Option AV :=
  match P.underlying t, (zeroA P t).bind cellsA with
  | some (.struct fields), some zs =>
    match placesA P fields.toList with
    | some pl => (fillA (pl[·]?) zs parts).map AV.agg
    | none => none
  | _, _ => none

def zerosA (zs : List AV) (n : Nat) : List AV := (List.range n).map fun k => zs.getD (k % zs.length) .un

/-- The elements of a row of cells. -/
def chunkSE (e : TypeId) (sz : Nat) : Nat → List AV → SE → Option SE
  | 0, _, acc => some acc
  | n + 1, cs, acc => (elemSE P e (cs.take sz)).bind fun x => chunkSE e sz n (cs.drop sz) (.o2 .snoc acc x)

def buildSliceA (t : TypeId) (len : Nat) (parts : List (Nat × AV)) : Out :=
  match P.underlying t with
  | some (.slice e) =>
    match sizeA P e, isAggA P e, (zeroA P e).bind cellsA with
    | some sz, some ag, some zs =>
      if 0 < sz ∧ zs.length = sz ∧ len * sz ≤ 16777216 then
        (fillA (fun i => some (i * sz, sz)) (zerosA zs (len * sz)) parts).bind fun cs =>
          (chunkSE P e sz len cs (seNil sz ag)).map fun c => ([], .new (fun n => .own n (i64 len)) (.lst c (i64 len) sz ag e true))
      else none
    | _, _, _ => none
  | _ => none

/-- With own rows among the parts: they are handed on. -/
def buildSliceF (H : Heap) (t : TypeId) (len : Nat) (parts : List (Nat × AV)) : Out :=
  match buildSliceA P t len ((parts.map (·.1)).zip (frozeL H (parts.map (·.2))).1) with
  | some (ns, .new mk B) => some (ns, .wr (mk (frozeL H (parts.map (·.2))).2.length) ((frozeL H (parts.map (·.2))).2 ++ [B]))
  | _ => none

def allocA (t : TypeId) : Out :=
  ((zeroA P t).bind cellsA).map fun zs => ([], .new (fun n => .ptr n 0) (.cells zs t))
def boxA (t : TypeId) (x : AV) : Out := (cellsA x).map fun cs => ([], .new (fun n => .ptr n 0) (.cells cs t))

/-- No slice grows over this. -/
def most : Int := 16777216

def pvOf : AV → Option PV
  | .pv _ (.lit v) => some v
  | _ => none

def makeSliceA (t : TypeId) (len cap : AV) : Out :=
  match P.underlying t, len, cap with
  | some (.slice e), .pv (.int .i64) l, .pv (.int .i64) c =>
    match P.info? e, (zeroA P e).bind cellsA, isAggA P e with
    | some i, some zs, some ag =>
      match elemSE P e zs with
      | some ze =>
        if i.bytes ≤ 4096 ∧ zs.length = i.size ∧ 0 < i.size then
          let r : SE := .o1 (.zeros i.size ag (ze.dn [])) l
          some ([seInt .leq .i64 (i64 0) l, seInt .leq .i64 l c, seInt .leq .i64 c (i64 16777216)],
            .new (fun n => .own n (seLen r)) (.lst r (seLen r) i.size ag e true))
        else none
      | none => none
    | _, _, _ => none
  | _, _, _ => none

def isU8 (e : TypeId) : Bool := match P.underlying e with | some (.int .u8) => true | _ => false
/-- What an append puts behind. -/
def addedSE (H : Heap) (e : TypeId) : AV → Option SE
  | .emp
  | .nils => match sizeA P e, isAggA P e with
    | some sz, some ag => some (seNil sz ag)
    | _, _ => none
  | .own i n => match H[i]? with
    | some (.lst c n' sz ag t wr) => if n = n' ∧ t = e then some c else none
    | _ => none
  | .pv (.list t) c => if t = e then some c else none
  | .pv .str c => if isU8 P e = true ∧ sizeA P e = some 1 then some (.o1 .toB c) else none
  | _ => none
def catSE (a b : SE) : SE :=
  match b with
  | .lit (.list _ _ []) => a
  | .o2 .snoc (.lit (.list _ _ [])) x => .o2 .snoc a x
  | b => .o2 .cat a b
def plainArg : Option TypeId → Bool
  | none => true
  | some t => match P.underlying t with
    | some (.int _) => false
    | some _ => true
    | none => false
def appendA (H : Heap) (sT : TypeId) (xT : Option TypeId) (s x : AV) : Out :=
  match P.underlying sT with
  | some (.slice e) =>
    match P.info? e, isAggA P e, addedSE P H e x, (zeroA P e).bind cellsA with
    | some info, some ag, some b, some zs =>
      if plainArg P xT ∧ info.bytes ≤ 4096 ∧ 0 < info.size ∧ zs.length = info.size then
        match s with
        | .emp
        | .nils =>
          let c := catSE (seNil info.size ag) b
          some ([seInt .leq .i64 (seLen c) (i64 most)], .wr (.own H.length (seLen c)) (H ++ [.lst c (seLen c) info.size ag e true]))
        | .own i n =>
          match H[i]? with
          | some (.lst a n' sz ag' t wr) =>
            if n = n' ∧ t = e then
              let c := catSE a b
              some ([seInt .leq .i64 (seLen c) (i64 most)], .wr (.own H.length (seLen c)) ((H.set i .dead) ++ [.lst c (seLen c) sz ag' e wr]))
            else none
          | _ => none
        | _ => none
      else none
    | _, _, _, _ => none
  | _ => none

def intOf : AV → Option SE
  | .pv (.int _) e => some e
  | _ => none
def bnd (x : Option AV) (miss : SE) : Option SE :=
  match x with
  | none => some miss
  | some a => intOf a

def sliceA (H : Heap) (t : TypeId) (x : AV) (lo hi mx : Option AV) : Out :=
  match mx with
  | some (.pv (.int .i64) (.lit (.int .i64 0))) =>
    (match P.underlying t, x, lo, hi with
    | some (.slice e), .pv (.list _) _, none, some (.pv (.int .i64) (.lit (.int .i64 0))) => (match sizeA P e with | some _ => done .emp | none => none)
    | some (.slice e), .nils, none, some (.pv (.int .i64) (.lit (.int .i64 0))) => (match sizeA P e with | some _ => done .emp | none => none)
    | some (.slice e), .own _ _, none, some (.pv (.int .i64) (.lit (.int .i64 0))) => (match sizeA P e with | some _ => done .emp | none => none)
    | _, _, _, _ => none)
  | some _ => none
  | none =>
  match P.underlying t, x with
  | some .string, .pv .str s =>
    match bnd lo (i64 0), bnd hi (seSlen s) with
    | some l, some h => some ([seInt .leq .i64 (i64 0) l, seInt .leq .i64 l h, seInt .leq .i64 h (seSlen s)], .val (.pv .str (.o3 .ssub s l h)))
    | _, _ => none
  | some (.slice e), .pv (.list e') s =>
    if e = e' then
      match bnd lo (i64 0), bnd hi (seLen s) with
      | some l, some h => some ([seInt .leq .i64 (i64 0) l, seInt .leq .i64 l h, seInt .leq .i64 h (seLen s)], .val (.pv (.list e) (.o3 .sub s l h)))
      | _, _ => none
    else none
  | _, _ => none

def fieldAddrA (s : TypeId) (x : AV) (field : Nat) : Option AV :=
  match P.underlying s with
  | some (.struct fields) =>
    match fields[field]? with
    | some f => match sizeA P f.type with
      | some (_ + 1) => match x with
        | .ptr i o => some (.ptr i (o + f.offset))
        | .el e ix o t => some (.el e ix (o + f.offset) t)
        | .elo i n ix o sz => some (.elo i n ix (o + f.offset) sz)
        | _ => none
      | _ => none
    | none => none
  | _ => none

def partA (t : TypeId) (cs : List AV) (off : Nat) : Option AV :=
  match isAggA P t with
  | some true => (sizeA P t).bind fun n => (getCells cs off n).map AV.agg
  | some false => cs[off]?
  | none => none
def fieldA (t : TypeId) (x : AV) (field : Nat) : Option AV :=
  match P.underlying t, x with
  | some (.struct fields), .agg cs =>
    match fields[field]? with
    | some f => partA P f.type cs f.offset
    | none => none
  | _, _ => none

def indexAddrA (H : Heap) (t : TypeId) (x ix : AV) : Out :=
  match P.underlying t, x, ix with
  | some (.slice e), .pv (.list e') s, .pv (.int _) i =>
    if e = e' then some ([seInt .leq .i64 (i64 0) i, seInt .lss .i64 i (seLen s)], .val (.el s i 0 e)) else none
  | some (.slice e), .own b n, .pv (.int _) i =>
    (sizeA P e).map fun sz => ([seInt .leq .i64 (i64 0) i, seInt .lss .i64 i n], .val (.elo b n i 0 sz))
  | _, _, _ => none
def indexA (t : TypeId) (x ix : AV) : Out :=
  match P.underlying t, x, ix with
  | some .string, .pv .str s, .pv (.int _) i => some ([seInt .leq .i64 (i64 0) i, seInt .lss .i64 i (seSlen s)], .val (.pv (.int .u8) (.o2 .sidx s i)))
  | _, _, _ => none

def cmpOp : BinOp → Bool
  | .eql | .neq | .lss | .leq | .gtr | .geq => true
  | _ => false
def flatField (f : Field) : Bool :=
  f.name != "_" && (match P.underlying f.type with | some .bool => true | some (.int _) => true | some .string => true | _ => false)
def flatFields : List Field → Nat → Bool
  | [], _ => true
  | f :: fs, i => flatField P f && f.offset == i && flatFields fs (i + 1)
def eqOne (t : TypeId) : AV → AV → Option SE
  | .pv .bool a, .pv .bool b => match P.underlying t with | some .bool => some (.o2 .eq a b) | _ => none
  | .pv (.int j) a, .pv (.int k) b => match P.underlying t with | some (.int _) => if j = k then some (.o2 .eq a b) else none | _ => none
  | .pv .str a, .pv .str b => match P.underlying t with | some .string => some (.o2 .eq a b) | _ => none
  | _, _ => none
def eqCells : List Field → List AV → List AV → Option SE
  | [], [], [] => some (.lit (.bool true))
  | f :: fs, a :: as, b :: bs => match eqOne P f.type a b, eqCells fs as bs with
    | some e, some (.lit (.bool true)) => some e
    | some e, some r => some (.o2 .and2 e r)
    | _, _ => none
  | _, _, _ => none
def eqAgg (t : TypeId) (as bs : List AV) : Option SE :=
  match P.underlying t with
  | some (.struct fs) => if (flatFields P fs.toList 0 && !P.eqGuardType P.depth t && !P.stoodInHeld t) = true then eqCells P fs.toList as bs else none
  | _ => none

def binA (op : BinOp) (t : TypeId) (x y : AV) : Out :=
  match x, y with
  | .pv (.int k) a, .pv (.int k') b =>
    if k = k' then
      match op with
      | .add | .sub | .mul | .and | .or | .xor | .andNot => done (.pv (.int k) (seInt op k a b))
      | .quo | .rem => some ([seNot (seInt .eql k b (.lit (.int k 0)))], .val (.pv (.int k) (seInt op k a b)))
      | .eql | .neq | .lss | .leq | .gtr | .geq => done (.pv .bool (seInt op k a b))
      | _ => none
    else none
  | .pv .str a, .pv .str b =>
    match op with
    | .add => some ([seInt .leq .i64 (seSlen (seStr .add a b)) (i64 most)], .val (.pv .str (seStr .add a b)))
    | op => if cmpOp op then done (.pv .bool (seStr op a b)) else none
  | .pv .bool a, .pv .bool b =>
    match P.underlying t, op with
    | some .bool, .eql | some .bool, .neq => done (.pv .bool (seBool op a b))
    | _, _ => none
  | .agg as, .agg bs =>
    match op with
    | .eql => (eqAgg P t as bs).map fun e => ([], .val (.pv .bool e))
    | .neq => (eqAgg P t as bs).map fun e => ([], .val (.pv .bool (seNot e)))
    | _ => none
  | _, _ => none

def unA (op : UnOp) (x : AV) : Out :=
  match op, x with
  | .not, .pv .bool a => done (.pv .bool (seNot a))
  | .neg, .pv (.int k) a => done (.pv (.int k) (seNeg k a))
  | _, _ => none

def convA (H : Heap) (src dst : TypeId) (x : AV) : Out :=
  match P.underlying src, P.underlying dst, x with
  | some _, some (.int k), .pv (.int _) e => done (.pv (.int k) (seConv k e))
  | some _, some .string, .pv .str s => done (.pv .str s)
  | some (.slice e), some .string, .pv (.list e') s => if e = e' ∧ isU8 P e = true then done (.pv .str (.o1 .toS s)) else none
  | some (.slice e), some .string, .own i n =>
    match H[i]? with
    | some (.lst c n' sz ag t wr) => if n = n' ∧ t = e ∧ isU8 P e = true then done (.pv .str (.o1 .toS c)) else none
    | _ => none
  | _, _, _ => none

def lenA (t : TypeId) (x : AV) : Out :=
  match P.underlying t, x with
  | some .string, .pv .str s => done (.pv (.int .i64) (seSlen s))
  | some (.slice _), .pv (.list _) s => done (.pv (.int .i64) (seLen s))
  | some (.slice _), .own _ n => done (.pv (.int .i64) n)
  | some (.slice _), .nils => done (.pv (.int .i64) (i64 0))
  | some (.slice _), .emp => done (.pv (.int .i64) (i64 0))
  | _, _ => none

def mmA (b : Builtin) : List AV → Out
  | [.pv (.int j) x, .pv (.int k) y] => if j = k then match b with
    | .max => done (.pv (.int j) (seMx j x y))
    | .min => done (.pv (.int j) (seMn j x y))
    | _ => none
    else none
  | _ => none

def builtinA (H : Heap) (b : Builtin) (ts : List TypeId) (args : List AV) : Out :=
  match b, ts, args with
  | .len, t :: _, x :: _ => lenA P t x
  | .append, t :: us, [s, x] => appendA P H t us.head? s x
  | .max, _, as => mmA .max as
  | .min, _, as => mmA .min as
  | _, _, _ => none

def enters (f : FuncId) : Bool :=
  match P.funcs[f]? with
  | some fn => fn.body.isSome && fn.name != "runtime.NumGoroutine"
  | none => false

def opA (e : Operand → AV) (o : Oper) (H : Heap) : Out :=
  match o.op with
  | .move x => done (e x)
  | .assign x => done (e x)
  | .pick c a b => match e c with | .pv .bool (.lit (.bool t)) => done (if t then e a else e b) | _ => none
  | .alloc t => allocA P t
  | .box t x => boxA t (e x)
  | .build t ps => (buildA P t (ps.toList.map fun p => (p.1, e p.2))).map fun a => ([], .val a)
  | .buildSlice t n ps => match buildSliceA P t n (ps.toList.map fun p => (p.1, e p.2)) with
    | some r => some r
    | none => buildSliceF P H t n (ps.toList.map fun p => (p.1, e p.2))
  | .load t a => (loadA P H t (e a)).map fun a => ([], .val a)
  | .store t a x => (storeA P H t (e a) (e x)).map fun H => ([], .skip H)
  | .nilCheck x => match e x with | .ptr i o => done (.ptr i o) | .el a b c d => done (.el a b c d) | .elo a b c d f => done (.elo a b c d f) | .fn f a b => done (.fn f a b) | _ => none
  | .binOp op t x y _ => binA P op t (e x) (e y)
  | .unOp op _ x => unA op (e x)
  | .convert s d x => convA P H s d (e x)
  | .makeFunc fn first captured => match fn with | .func f => done (.fn f (first.toList.map e) (captured.toList.map e)) | _ => none
  | .makeSlice t l c => makeSliceA P t (e l) (e c)
  | .slice t x lo hi mx => sliceA P H t (e x) (lo.map e) (hi.map e) (mx.map e)
  | .fieldAddr s x f => (fieldAddrA P s (e x) f).map fun a => ([], .val a)
  | .field t x f => (fieldA P t (e x) f).map fun a => ([], .val a)
  | .indexAddr t x i => indexAddrA P H t (e x) (e i)
  | .index t x i => indexA P t (e x) (e i)
  | .extract t i => match e t with | .tup l => (l[i]?).map fun a => ([], .val a) | _ => none
  | .call c =>
    match c.callee with
    | .builtin b => builtinA P H b c.argTypes.toList (c.args.toList.map e)
    | .value f => match e f with
      | .fn g xs ys => if enters P g then some ([], .enter g (xs ++ c.args.toList.map e ++ ys)) else none
      | _ => none
    | _ => none
  | _ => none
end
end Go.Dv

/- The symbolic evaluator: regions, code, calls. -/
set_option linter.unusedVariables false
set_option linter.unusedSimpArgs false
namespace Go.Dv

mutual
def AV.beq : AV → AV → Bool
  | .un, .un => true
  | .pv k a, .pv l b => decide (k = l) && SE.beq a b
  | .ptr i o, .ptr j q => i == j && o == q
  | .nilp, .nilp => true
  | .slf i o, .slf j q => i == j && o == q
  | .nils, .nils => true
  | .emp, .emp => true
  | .el a b c d, .el a' b' c' d' => SE.beq a a' && SE.beq b b' && c == c' && d == d'
  | .own i n, .own j m => i == j && SE.beq n m
  | .elo i n x o z, .elo j m y q u => i == j && SE.beq n m && SE.beq x y && o == q && z == u
  | .fn f a b, .fn g c d => f == g && AV.beqL a c && AV.beqL b d
  | .nilfn, .nilfn => true
  | .agg a, .agg b => AV.beqL a b
  | .tup a, .tup b => AV.beqL a b
  | _, _ => false
def AV.beqL : List AV → List AV → Bool
  | [], [] => true
  | a :: as, b :: bs => AV.beq a b && AV.beqL as bs
  | _, _ => false
end
def Blk.beq : Blk → Blk → Bool
  | .dead, .dead => true
  | .cells a t, .cells b u => AV.beqL a b && t == u
  | .lst e n s g t w, .lst e' n' s' g' t' w' => decide (e = e') && decide (n = n') && s == s' && g == g' && t == t' && w == w'
  | _, _ => false

/-- What is known of a region before it runs: which operations must be listed before one (bits); at how many listed loud ones it may first
and last run; the loud ones; the temporaries that an operation reads as they were before the region. -/
structure Stat where
  pre : List Nat
  lo : List Nat
  hi : List Nat
  louds : List Nat
  own : List (List Tmp)

def bitOf (m i : Nat) : Bool := m.testBit i

def stepPre (pre : List Nat) (o : Oper) : Nat :=
  o.after.toList.foldl (fun s e => if Region.binds .any e then s ||| (1 <<< e.on) ||| pre.getD e.on 0 else s) 0

def preOf (ops : Array Oper) : List Nat := ops.toList.foldl (fun acc o => acc ++ [stepPre acc o]) []

def isLoud (o : Oper) : Bool :=
  match o.op with
  | .store _ _ _ | .mapUpdate _ _ _ _ | .insert _ _ _ _ | .defer _ => true
  | .call c => match c.callee with
    | .builtin .len | .builtin .max | .builtin .min => false
    | _ => true
  | _ => false

def looks (ops : Array Oper) (o : Oper) : List Tmp :=
  (o.op.operands.toList.filterMap fun | .tmp t => some t | _ => none) ++
  (match o.guard with
   | some (g, _) => ((ops[g]?).bind (·.dst)).toList
   | none => [])

def writerGo (t : Tmp) : List Oper → Nat → Option Nat
  | [], _ => none
  | o :: r, i => if o.dst = some t then some i else writerGo t r (i + 1)
def writer (ops : Array Oper) (t : Tmp) : Option Nat := writerGo t ops.toList 0

def loOf (m : Nat) : List Nat → Nat → Nat → Nat
  | [], _, r => r
  | l :: ls, p, r => loOf m ls (p + 1) (if bitOf m l then p + 1 else r)
def hiOf (pre : List Nat) (i : Nat) : List Nat → Nat → Nat
  | [], p => p
  | l :: ls, p => if bitOf (pre.getD l 0) i then p else hiOf pre i ls (p + 1)

def statOf (ops : Array Oper) : Stat :=
  let pre := preOf ops
  let ns := List.range ops.size
  let louds := ns.filter fun i => (ops[i]?).any isLoud
  { pre := pre
    lo := ns.map fun i => loOf (pre.getD i 0) louds 0 0
    hi := ns.map fun i => hiOf pre i louds 0
    louds := louds
    own := ns.map fun i => match ops[i]? with
      | some o => (looks ops o).filter fun t => match writer ops t with
        | some j => !bitOf (pre.getD i 0) j
        | none => false
      | none => [] }

/-- What the proof of any order leans on. -/
def statOk (ops : Array Oper) (st : Stat) : Bool :=
  let ns := List.range ops.size
  (ns.all fun i => match ops[i]? with
    | none => false
    | some o =>
      (o.after.toList.all fun e => !Region.binds .any e || decide (e.on < i)) &&
      (stepPre st.pre o == st.pre.getD i 0) &&
      (match o.dst with | none => true | some d => writer ops d == some i) &&
      ((looks ops o).all fun t => match writer ops t with
        | none => true
        | some j => bitOf (st.pre.getD i 0) j || (st.own.getD i []).contains t) &&
      ((st.own.getD i []).all fun t => match writer ops t with
        | none => false
        | some j => j == i || bitOf (st.pre.getD j 0) i) &&
      (st.lo.getD i 0 == 0 || (match st.louds[st.lo.getD i 0 - 1]? with | some l => bitOf (st.pre.getD i 0) l | none => false)) &&
      (match st.louds[st.hi.getD i 0]? with | none => true | some l => bitOf (st.pre.getD l 0) i)) &&
  ((List.range st.louds.length).all fun p => match st.louds[p]? with
    | none => false
    | some l => decide (l < ops.size) && st.lo.getD l 0 == p)


/-! ### States -/
/-- ts: the temporaries; nv: how many names are bound; lv: how many loops and labels are around; asm: what is known of tests; stk: the temporaries of the callers. -/
structure St where
  ts : List AV
  H : Heap
  nv : Nat
  lv : Nat
  asm : List (SE × Bool)
  stk : List (List AV)
  deriving Inhabited

mutual
def AV.upTo (n : Nat) : AV → Bool
  | .un | .ptr _ _ | .slf _ _ | .nilp | .nils | .emp | .nilfn => true
  | .pv _ e => e.upTo n
  | .el a b _ _ => a.upTo n && b.upTo n
  | .own _ m => m.upTo n
  | .elo _ m x _ _ => m.upTo n && x.upTo n
  | .fn _ a b => AV.upToL n a && AV.upToL n b
  | .agg a => AV.upToL n a
  | .tup a => AV.upToL n a
def AV.upToL (n : Nat) : List AV → Bool
  | [] => true
  | a :: as => AV.upTo n a && AV.upToL n as
end
def Blk.upTo (n : Nat) : Blk → Bool
  | .dead => true
  | .cells vs _ => AV.upToL n vs
  | .lst e m _ _ _ _ => e.upTo n && m.upTo n
mutual
/-- The blocks that a value names lie below m. -/
def AV.refs (m : Nat) : AV → Bool
  | .ptr i _ | .slf i _ | .own i _ | .elo i _ _ _ _ => decide (i < m)
  | .un | .nilp | .nils | .emp | .nilfn | .pv _ _ | .el _ _ _ _ => true
  | .fn _ a b => AV.refsL m a && AV.refsL m b
  | .agg a => AV.refsL m a
  | .tup a => AV.refsL m a
def AV.refsL (m : Nat) : List AV → Bool
  | [] => true
  | a :: as => AV.refs m a && AV.refsL m as
end
def Blk.refs (m : Nat) : Blk → Bool
  | .cells vs _ => AV.refsL m vs
  | _ => true
def St.refs (s : St) : Bool := AV.refsL s.H.length s.ts && s.H.all (Blk.refs s.H.length)
def St.upTo (s : St) : Bool := AV.upToL s.nv s.ts && s.H.all (Blk.upTo s.nv) && s.stk.all (AV.upToL s.nv) && s.asm.all (fun p => p.1.upTo s.nv)

/-- What is known of a test takes its place. -/
def asmOf (asm : List (SE × Bool)) (c : SE) : Option Bool :=
  match asm with
  | [] => none
  | (d, b) :: r => if c = d then some b else asmOf r c
def normA (asm : List (SE × Bool)) : AV → AV
  | .pv .bool (.lit b) => .pv .bool (.lit b)
  | .pv .bool c => match asmOf asm c with
    | some b => .pv .bool (.lit (.bool b))
    | none => .pv .bool c
  | a => a
def needsK (asm : List (SE × Bool)) : List SE → Tree → Tree
  | [], t => t
  | .lit (.bool true) :: r, t => needsK asm r t
  | c :: r, t => if asmOf asm c = some true then needsK asm r t else .need c (needsK asm r t)
def know (asm : List (SE × Bool)) : List SE → List (SE × Bool)
  | [] => asm
  | c :: r => (c, true) :: know asm r

def put (ts : List AV) (dst : Option Tmp) (a : AV) : List AV :=
  match dst with
  | some d => ts.set d a
  | none => ts

/-- Is an operation wanted? -/
inductive Want where
  | yes
  | no
  | ask (c : SE)
  | bad
def wantedA (ops : Array Oper) (ts : List AV) (o : Oper) : Want :=
  match o.guard with
  | none => .yes
  | some (j, want) =>
    match (ops[j]?).bind (·.dst) with
    | none => .no
    | some d =>
      match ts[d]? with
      | none => .no
      | some (.pv .bool (.lit (.bool b))) => if b == want then .yes else .no
      | some (.pv .bool c) => .ask c
      | some (.tup _) => .no
      | _ => .bad

/-! ### Calls by name: how values are handed -/
/-- A cell that is handed: a pure value, or a row of its own (wr: it may be written). -/
inductive Cl where
  | pv (k : Kn)
  | own (t : TypeId) (wr : Bool)
  | nil (t : TypeId)
  deriving Inhabited, DecidableEq
inductive Par where
  | one (c : Cl)
  | many (cs : List Cl)
  | ptr (g : Option FuncId) (cs : List Cl) (t : TypeId)
  deriving Inhabited, DecidableEq
/-- A pointer, or a function with a pointer that it has captured. -/
def wrapA : Option FuncId → Nat → AV
  | none, i => .ptr i 0
  | some f, i => .fn f [] [.ptr i 0]
def unwrapA : Option FuncId → AV → Option Nat
  | none, .ptr i 0 => some i
  | some f, .fn g [] [.ptr i 0] => if f = g then some i else none
  | _, _ => none
theorem unwrapA_eq {g : Option FuncId} {a : AV} {i : Nat} (h : unwrapA g a = some i) : a = wrapA g i := by
  unfold unwrapA at h
  split at h
  · cases h; rfl
  · split at h
    · rename_i e; cases h; rw [e]; rfl
    · cases h
  · cases h
theorem unwrapA_wrap (g : Option FuncId) (i : Nat) : unwrapA g (wrapA g i) = some i := by
  cases g with
  | none => rfl
  | some f => show (if f = f then some i else none) = some i; rw [if_pos rfl]

/-- Parameters and results. -/
structure Sig where
  ps : List Par
  rs : List Par
  deriving Inhabited

section
variable (P : Program)

/-- A cell gets what an expression says. -/
def openCl (H : Heap) (e : SE) : Cl → AV × Heap
  | .pv k => (.pv k e, H)
  | .own t wr => (.own H.length (.o1 .len e), H ++ [.lst e (.o1 .len e) ((sizeA P t).getD 0) ((isAggA P t).getD false) t wr])
  | .nil t => (.nils, H)
def openCls (H : Heap) (e : SE) : Nat → List Cl → List AV × Heap
  | _, [] => ([], H)
  | i, c :: cs => let q := openCl P H (seFld e i) c; let r := openCls q.2 e (i + 1) cs; (q.1 :: r.1, r.2)
def openPar (H : Heap) (e : SE) : Par → AV × Heap
  | .one c => openCl P H e c
  | .many cs => let q := openCls P H e 0 cs; (.agg q.1, q.2)
  | .ptr g cs t => let q := openCls P H e 0 cs; (wrapA g q.2.length, q.2 ++ [.cells q.1 t])
def openPars (H : Heap) (e : SE) : Nat → List Par → List AV × Heap
  | _, [] => ([], H)
  | i, p :: ps => let q := openPar P H (seFld e i) p; let r := openPars q.2 e (i + 1) ps; (q.1 :: r.1, r.2)

/-- A cell is handed on: a pure value (a row is frozen), or a row of its own (and it is gone here). -/
def closeCl (H : Heap) (a : AV) : Cl → Option (SE × Heap)
  | .pv k => let q := froze H a; (toSE P k q.1).map fun e => (e, q.2)
  | .own t wr => match a with
    | .own i n => match H[i]? with
      | some (.lst e n' _ _ t' wr') => if n = n' ∧ t = t' ∧ (wr = false ∨ wr' = true) then some (e, H.set i .dead) else none
      | _ => none
    | .emp
    | .nils => match sizeA P t, isAggA P t with
      | some sz, some ag => if 0 < sz then some (seNil sz ag, H) else none
      | _, _ => none
    | _ => none
  | .nil t => match a with
    | .nils => (match sizeA P t, isAggA P t with
      | some sz, some ag => some (seNil sz ag, H)
      | _, _ => none)
    | _ => none
def closeCls (H : Heap) : List AV → List Cl → Option (List SE × Heap)
  | [], [] => some ([], H)
  | a :: as, c :: cs => match closeCl P H a c with
    | none => none
    | some (e, H') => match closeCls H' as cs with
      | none => none
      | some (es, H'') => some (e :: es, H'')
  | _, _ => none
/-- A value is handed on; a pointer with what it points to. -/
def closePar (H : Heap) (a : AV) (p : Par) : Option (SE × Heap) :=
  match p, a with
  | .one c, a => closeCl P H a c
  | .many cs, .agg as => (closeCls P H as cs).map fun q => (mkSE q.1, q.2)
  | .ptr g cs t, a =>
    match unwrapA g a with
    | none => none
    | some i =>
      match H[i]? with
      | some (.cells as t') => if t' = t then (closeCls P (H.set i .dead) as cs).map fun q => (mkSE q.1, q.2) else none
      | _ => none
  | _, _ => none
def closePars (H : Heap) : List AV → List Par → Option (List SE × Heap)
  | [], [] => some ([], H)
  | a :: as, p :: ps => match closePar P H a p with
    | none => none
    | some (e, H') => match closePars H' as ps with
      | none => none
      | some (es, H'') => some (e :: es, H'')
  | _, _ => none
/-- The pointers of a call, and what they pointed to. -/
def ptrsOf : List AV → List Par → List (Nat × List Cl × TypeId)
  | a :: as, .ptr g cs t :: ps => match unwrapA g a with
    | some i => (i, cs, t) :: ptrsOf as ps
    | none => ptrsOf as ps
  | _ :: as, _ :: ps => ptrsOf as ps
  | _, _ => []
/-- What they point to behind a call. -/
def backPtrs (r : SE) : Nat → List (Nat × List Cl × TypeId) → Heap → Heap
  | _, [], H => H
  | j, (i, cs, t) :: is, H => let q := openCls P H (seFld r j) 0 cs; backPtrs r (j + 1) is (q.2.set i (.cells q.1 t))
/-- Results as one value. -/
def oneOf : List AV → AV
  | [a] => a
  | l => .tup l
/-- What comes back: the results, then what the pointers point to. -/
def backA (s : Sig) (r : SE) (is : List (Nat × List Cl × TypeId)) (H : Heap) : AV × Heap :=
  let q := openPars P H r 0 s.rs
  (oneOf q.1, backPtrs P r s.rs.length is q.2)
end

/-! ### Regions -/
abbrev CallK := FuncId → List AV → St → (AV → St → Tree) → Tree

section
variable (P : Program) (call : CallK)

def resOf (o : Oper) (r : OpR) (s : St) (k : St → Tree) : Tree :=
  match r with
  | .val a => k { s with ts := put s.ts o.dst (normA s.asm a) }
  | .new mk B => k { s with ts := put s.ts o.dst (mk s.H.length), H := s.H ++ [B] }
  | .wr a H => k { s with ts := put s.ts o.dst a, H := H }
  | .skip H => k { s with ts := put s.ts o.dst undefA, H := H }
  | .enter f as => call f as s fun v s => k { s with ts := put s.ts o.dst v }

/-- What is asked of a guard is known behind the asking. -/
def setG (ops : Array Oper) (o : Oper) (c : SE) (ts : List AV) (b : Bool) : List AV :=
  match o.guard with
  | some (j, _) => match (ops[j]?).bind (·.dst) with
    | some d => match ts[d]? with
      | some (.pv .bool c') => if c' = c then ts.set d (.pv .bool (.lit (.bool b))) else ts
      | _ => ts
    | none => ts
  | none => ts
def guardOf (o : Oper) : Bool := match o.guard with | some (_, w) => w | none => true

/-- An operation that is wanted. -/
def doOp (o : Oper) (env : List AV) (s : St) (k : St → Tree) : Tree :=
  match opA P (evA env) o s.H with
  | none => .fail o.pos
  | some (ns, r) => needsK s.asm ns (resOf call o r { s with asm := know s.asm ns } k)

/-- One operation, in the order of the text. -/
def oneOp (ops : Array Oper) (o : Oper) (s : St) (k : St → Tree) : Tree :=
  match wantedA ops s.ts o with
  | .yes => doOp P call o s.ts s k
  | .no => k { s with ts := put s.ts o.dst undefA }
  | .bad => .fail "guard"
  | .ask c =>
    let yes (b : Bool) : Tree :=
      let s' : St := { s with asm := (c, b) :: s.asm, ts := setG ops o c s.ts b }
      if b == guardOf o then doOp P call o s'.ts s' k else k { s' with ts := put s'.ts o.dst undefA }
    .ite c (yes true) (yes false)

def seqOps (ops : Array Oper) : List Oper → St → (St → Tree) → Tree
  | [], s, k => k s
  | o :: os, s, k => oneOp P call ops o s fun s => seqOps ops os s k

def envOf (T0 ts : List AV) : List Tmp → List AV
  | [] => ts
  | t :: r => envOf T0 (match T0[t]? with | some x => ts.set t x | none => ts) r


def idOf (i : Nat) : List (Nat × Nat) → Option Nat
  | [] => none
  | (j, id) :: r => if j = i then some id else idOf i r
def hasAt (asm : List (SE × Bool)) (ts : List AV) (dst : Option Tmp) (a : AV) : Bool :=
  match dst with
  | none => true
  | some d => match ts[d]? with
    | some x => AV.beq (normA asm x) (normA asm a)
    | none => false

abbrev K2 := St → List (Nat × Nat) → Tree

def putQ (ops : Array Oper) (st : Stat) (T0 : List AV) (i : Nat) (s : St) (ids : List (Nat × Nat)) (k : K2) : Tree :=
  match ops[i]? with
  | none => .fail "no op"
  | some o =>
    let go (s : St) : Tree :=
      match opA P (evA (envOf T0 s.ts (st.own.getD i []))) o s.H with
      | some (ns, .val a) => let asm := know s.asm ns; needsK s.asm ns (k { s with asm := asm, ts := put s.ts o.dst (normA asm a) } ids)
      | some (ns, .new mk B) => needsK s.asm ns (k { s with asm := know s.asm ns, ts := put s.ts o.dst (mk s.H.length), H := s.H ++ [B] } ((i, s.H.length) :: ids))
      | _ => .fail o.pos
    match wantedA ops (envOf T0 s.ts (st.own.getD i [])) o with
    | .yes => go s
    | .no => k { s with ts := put s.ts o.dst undefA } ids
    | .bad => .fail "guard"
    | .ask c =>
      let yes (b : Bool) : Tree :=
        let s' : St := { s with asm := (c, b) :: s.asm, ts := setG ops o c s.ts b }
        if b == guardOf o then go s' else k { s' with ts := put s'.ts o.dst undefA } ids
      .ite c (yes true) (yes false)

def putsQ (ops : Array Oper) (st : Stat) (T0 : List AV) : List Nat → St → List (Nat × Nat) → K2 → Tree
  | [], s, ids, k => k s ids
  | i :: r, s, ids, k => putQ P ops st T0 i s ids fun s ids => putsQ ops st T0 r s ids k

def chkQ (ops : Array Oper) (st : Stat) (T0 : List AV) (i : Nat) (s : St) (ids : List (Nat × Nat)) : Bool :=
  match ops[i]? with
  | none => false
  | some o =>
    let env := envOf T0 s.ts (st.own.getD i [])
    match wantedA ops env o with
    | .no => hasAt s.asm s.ts o.dst undefA
    | .yes =>
      match opA P (evA env) o s.H with
      | some (ns, .val a) => ns.all (fun c => decide (c = .lit (.bool true)) || decide (asmOf s.asm c = some true)) && hasAt s.asm s.ts o.dst a
      | some (ns, .new mk B) =>
        ns.all (fun c => decide (c = .lit (.bool true)) || decide (asmOf s.asm c = some true)) &&
        (match idOf i ids with
        | none => false
        | some id => hasAt s.asm s.ts o.dst (mk id) && (match s.H[id]? with | some C => Blk.beq C B | none => false) && ids.all fun p => p.1 == i || !(p.2 == id))
      | _ => false
    | _ => false

def loudQ (ops : Array Oper) (st : Stat) (T0 : List AV) (i : Nat) (s : St) (k : St → Tree) : Tree :=
  match ops[i]? with
  | none => .fail "no op"
  | some o =>
    let go (s : St) : Tree :=
      match opA P (evA (envOf T0 s.ts (st.own.getD i []))) o s.H with
      | some (ns, .new _ _) => .fail "loud new"
      | some (ns, r) => needsK s.asm ns (resOf call o r { s with asm := know s.asm ns } k)
      | none => .fail o.pos
    match wantedA ops (envOf T0 s.ts (st.own.getD i [])) o with
    | .yes => go s
    | .no => k { s with ts := put s.ts o.dst undefA }
    | .bad => .fail "guard"
    | .ask c =>
      let yes (b : Bool) : Tree :=
        let s' : St := { s with asm := (c, b) :: s.asm, ts := setG ops o c s.ts b }
        if b == guardOf o then go s' else k { s' with ts := put s'.ts o.dst undefA }
      .ite c (yes true) (yes false)

def quietsAt (ops : Array Oper) (st : Stat) (k : Nat) : List Nat := (List.range ops.size).filter fun i => st.lo.getD i 0 == k && !st.louds.contains i
def checksAt (ops : Array Oper) (st : Stat) (T0 : List AV) (k : Nat) (s : St) (ids : List (Nat × Nat)) : Bool :=
  (List.range ops.size).all fun i => st.louds.contains i || decide (k < st.lo.getD i 0) || decide (st.hi.getD i 0 < k) || chkQ P ops st T0 i s ids
def headQ (ops : Array Oper) (st : Stat) (T0 : List AV) (k : Nat) (s : St) (ids : List (Nat × Nat)) (kk : K2) : Tree :=
  putsQ P ops st T0 (quietsAt ops st k) s ids fun s ids => if checksAt P ops st T0 k s ids then kk s ids else .fail ("order " ++ ((ops[0]?).map (·.pos)).getD "")
def stagesQ (ops : Array Oper) (st : Stat) (T0 : List AV) : List Nat → Nat → St → List (Nat × Nat) → (St → Tree) → Tree
  | [], k, s, ids, kk => headQ P ops st T0 k s ids fun s _ => kk s
  | i :: r, k, s, ids, kk => headQ P ops st T0 k s ids fun s ids => loudQ P call ops st T0 i s fun s => stagesQ ops st T0 r (k + 1) s ids kk
end

/-- The whole of a region that is drawn. -/
def regionQ (P : Program) (call : CallK) (ops : Array Oper) (st : Stat) (s : St) (k : St → Tree) : Tree :=
  if st.own.all (fun l => l.all fun t => AV.upTo s.nv (s.ts.getD t .un)) then stagesQ P call ops st s.ts st.louds 0 s [] k else .fail "own"

/-! ### Loops and joins -/
/-- What a loop's name stands for. -/
inductive Place where
  | tmp (d : Nat)
  | cell (i o : Nat)
  deriving Inhabited, DecidableEq
structure LoopAnn where
  slots : List (Place × Par)
  weak : List (Nat × Nat)
  live : List Nat
  deriving Inhabited

def placeAV (ts : List AV) (H : Heap) : Place → Option AV
  | .tmp d => ts[d]?
  | .cell i o => match H[i]? with
    | some (.cells vs _) => vs[o]?
    | _ => none
def setPlace (ts : List AV) (H : Heap) (a : AV) : Place → List AV × Heap
  | .tmp d => (ts.set d a, H)
  | .cell i o => match H[i]? with
    | some (.cells vs t) => (ts, H.set i (.cells (vs.set o a) t))
    | _ => (ts, H)

section
variable (P : Program)
/-- The slots' values; rows are handed on. -/
def closeSlots (ts : List AV) (H : Heap) : List (Place × Par) → Option (List SE × Heap)
  | [] => some ([], H)
  | (p, c) :: r => match placeAV ts H p with
    | none => none
    | some a => match closePar P H a c with
      | none => none
      | some (e, H') => match closeSlots ts H' r with
        | none => none
        | some (es, H'') => some (e :: es, H'')

/-- A state without the slots. -/
def killR : AV → Heap → Heap
  | .own i _, H => H.set i .dead
  | _, H => H
def killL : List AV → Heap → Heap
  | [], H => H
  | a :: as, H => killL as (killR a H)
def killO (a : Option AV) (p : Par) (H : Heap) : Heap :=
  match a, p with
  | some (.agg l), _ => killL l H
  | some (.ptr i _), .ptr _ _ _ => match H[i]? with
    | some (.cells vs _) => killL vs (H.set i .dead)
    | _ => H
  | some a, _ => killR a H
  | none, _ => H
def maskS (ts : List AV) (H : Heap) : List (Place × Par) → List AV × Heap
  | [] => (ts, H)
  | (p, c) :: r => let q := setPlace ts (killO (placeAV ts H p) c H) .un p; maskS q.1 q.2 r
def slfOk (i o : Nat) : AV → Bool
  | .nilp => true
  | .slf j q => j == i && q == o
  | _ => false
def weakS (H : Heap) : List (Nat × Nat) → Heap
  | [] => H
  | (i, o) :: r => match H[i]? with
    | some (.cells vs t) => if slfOk i o (vs.getD o .un) then weakS (H.set i (.cells (vs.set o (.slf i o)) t)) r else weakS H r
    | _ => weakS H r
def dropTs (live : List Nat) (ts : List AV) : List AV := (List.range ts.length).map fun d => if live.contains d then ts.getD d .un else .un
/-- What stays as it is. -/
def baseOf (a : LoopAnn) (s : St) : St :=
  let q := maskS s.ts (weakS s.H a.weak) a.slots
  { s with ts := dropTs a.live q.1, H := q.2 }

/-- Is the first no less than the second says? -/
def leV (i o : Nat) : AV → AV → Bool
  | .un, _ => true
  | .slf j q, b => AV.beq (.slf j q) b || (i == j && o == q && slfOk i o b)
  | a, b => AV.beq a b
def leT : List AV → List AV → Bool
  | [], [] => true
  | a :: as, b :: bs => (match a with | .un => true | a => AV.beq a b) && leT as bs
  | _, _ => false
def leC (i : Nat) : Nat → List AV → List AV → Bool
  | _, [], [] => true
  | o, a :: as, b :: bs => leV i o a b && leC i (o + 1) as bs
  | _, _, _ => false
def leB (i : Nat) : Blk → Blk → Bool
  | .dead, _ => true
  | .cells as t, .cells bs u => t == u && leC i 0 as bs
  | .lst e n s g t w, .lst e' n' s' g' t' w' => decide (e = e') && decide (n = n') && s == s' && g == g' && t == t' && (w' || !w)
  | _, _ => false
def leH : Nat → Heap → Heap → Bool
  | _, [], _ => true
  | i, b :: bs, c :: cs => leB i b c && leH (i + 1) bs cs
  | _, _, _ => false
def leL : List (List AV) → List (List AV) → Bool
  | [], [] => true
  | a :: as, b :: bs => AV.beqL a b && leL as bs
  | _, _ => false

/-- A state comes to what a loop or a label asks. -/
def closeTo (a : LoopAnn) (base s : St) : Option SE :=
  match closeSlots P s.ts s.H a.slots with
  | none => none
  | some (es, H) => if leT base.ts s.ts && leH 0 base.H H && leL base.stk s.stk then some (mkSE es) else none

/-- The slots get their names. -/
def openSlots (r : SE) : Nat → List (Place × Par) → List AV → Heap → List AV × Heap
  | _, [], ts, H => (ts, H)
  | j, (p, c) :: xs, ts, H => let q := openPar P H (seFld r j) c; let u := setPlace ts q.2 q.1 p; openSlots r (j + 1) xs u.1 u.2
def headOf (a : LoopAnn) (base : St) : St :=
  let q := openSlots P (.var base.nv) 0 a.slots base.ts base.H
  { base with ts := q.1, H := q.2, nv := base.nv + 1 }

/-! What a program gives of a mismatch, to be read by a program alone. -/
def knPV : Kn → List PV
  | .int k => [.int .i64 0, .int k 0]
  | .bool => [.int .i64 1]
  | .str => [.int .i64 2]
  | .list e => [.int .i64 3, .int .i64 e]
def avPV (H : Heap) : AV → List PV
  | .pv k _ => .int .i64 0 :: knPV k
  | .own i _ => match H[i]? with
    | some (.lst _ _ _ _ t wr) => [.int .i64 1, .int .i64 t, .bool wr]
    | _ => [.int .i64 8]
  | .nils => [.int .i64 2]
  | .un => [.int .i64 3]
  | .agg l => .int .i64 4 :: l.map (fun a => match a with | .pv k _ => .agg (.int .i64 0 :: knPV k) | .own i _ => (match H[i]? with | some (.lst _ _ _ _ t wr) => .agg [.int .i64 1, .int .i64 t, .bool wr] | _ => .agg [.int .i64 8]) | .nils => .agg [.int .i64 2] | .emp => .agg [.int .i64 11] | _ => .agg [.int .i64 9])
  | .ptr _ _ => [.int .i64 5]
  | .tup _ => [.int .i64 6]
  | .nilp => [.int .i64 7]
  | .slf i o => [.int .i64 10, .int .i64 i, .int .i64 o]
  | .emp => [.int .i64 11]
  | _ => [.int .i64 9]
def whyT (h s : Heap) : Nat → List AV → List AV → List PV
  | d, a :: as, b :: bs => (if (match a with | .un => true | a => AV.beq a b) then [] else [.agg [.int .i64 0, .int .i64 d, .agg (avPV h a), .agg (avPV s b)]]) ++ whyT h s (d + 1) as bs
  | _, _, _ => []
def whyC (h s : Heap) (i : Nat) : Nat → List AV → List AV → List PV
  | o, a :: as, b :: bs => (if leV i o a b then [] else [.agg [.int .i64 1, .int .i64 i, .int .i64 o, .agg (avPV h a), .agg (avPV s b)]]) ++ whyC h s i (o + 1) as bs
  | _, _, _ => []
/-- Who holds a row. -/
def holders (h s : Heap) (i : Nat) : Nat → List AV → List PV
  | _, [] => []
  | d, a :: as => (match a with | .own j n => if j == i then [.agg [.int .i64 6, .int .i64 d, .agg (avPV h (.own i n)), .agg (avPV s (.own i n))]] else [] | _ => []) ++ holders h s i (d + 1) as
def whyH (ts : List AV) (h s : Heap) : Nat → Heap → Heap → List PV
  | i, b :: bs, c :: cs => (match b, c with
    | .cells as _, .cells us _ => if as.length = us.length then whyC h s i 0 as us else [.agg [.int .i64 2, .int .i64 i]]
    | b, c => if leB i b c then [] else .agg [.int .i64 2, .int .i64 i] :: holders h s i 0 ts) ++ whyH ts h s (i + 1) bs cs
  | i, b :: bs, [] => [.agg [.int .i64 2, .int .i64 i]]
  | _, _, _ => []
def whySlots (ts : List AV) (H : Heap) : Nat → List (Place × Par) → List PV
  | _, [] => []
  | j, (p, c) :: r => match placeAV ts H p with
    | none => [.agg [.int .i64 3, .int .i64 j]]
    | some a => match closePar P H a c with
      | none => [.agg [.int .i64 4, .int .i64 j, .agg (avPV H a)]]
      | some (e, H') => whySlots ts H' (j + 1) r
def whyTo (a : LoopAnn) (base s : St) : List PV :=
  match closeSlots P s.ts s.H a.slots with
  | none => whySlots P s.ts s.H 0 a.slots
  | some (es, H) => whyT base.H H 0 base.ts s.ts ++ whyH base.ts base.H H 0 base.H H ++ (if leL base.stk s.stk then [] else [.agg [.int .i64 5]])
end
end Go.Dv

/- The symbolic evaluator: code, calls, functions. -/
set_option linter.unusedVariables false
set_option linter.unusedSimpArgs false
namespace Go.Dv

section
variable (P : Program)

def posOf (fid p : Nat) : Nat := fid * 1180591620717411303424 + p
/-- The blocks whose cells get names are at hand. -/
def heldBy (ts : List AV) (a : LoopAnn) : Bool := a.slots.all fun q => match q.1 with
  | .tmp _ => true
  | .cell i _ => ts.any fun x => match x with
    | .ptr j _ => j == i
    | .fn _ _ [.ptr j _] => j == i
    | _ => false
/-- A jump to a loop or a label. -/
def jumpT (a : LoopAnn) (pos lv : Nat) (base s : St) : Tree :=
  match closeTo P a base s with
  | some e => .cont lv e
  | none => .tell pos (whyTo P a base s)

def evC (fid : Nat) (call : CallK) (ann : Nat → Option LoopAnn) (pl : Nat → Option Stat) : Code → Nat → St → (St → Tree) → (Nat → St → Tree) → (St → Tree) → Tree
  | .skip, _, s, kn, _, _ => kn s
  | .label _, _, s, kn, _, _ => kn s
  | .region id ops d, _, s, kn, _, _ =>
    if d then (match pl id with | some st => regionQ P call ops st s kn | none => .fail "no plan") else seqOps P call ops ops.toList s kn
  | .seq x y, p, s, kn, ke, kr =>
    match ann p with
    | none => evC fid call ann pl x (2 * p) s (fun s => evC fid call ann pl y (2 * p + 1) s kn ke kr) ke kr
    | some a =>
      let base := baseOf a s
      if base.upTo && base.refs && heldBy s.ts a then
        .lab (evC fid call ann pl y (2 * p + 1) (headOf P a base) kn ke kr) (evC fid call ann pl x (2 * p) { s with lv := s.lv + 1 } (jumpT P a (posOf fid p) s.lv base) ke kr)
      else .fail "upTo"
  | .cond c x y, p, s, kn, ke, kr =>
    match normA s.asm (evA s.ts c) with
    | .pv .bool (.lit (.bool true)) => evC fid call ann pl x (2 * p) s kn ke kr
    | .pv .bool (.lit (.bool false)) => evC fid call ann pl y (2 * p + 1) s kn ke kr
    | .pv .bool c => .ite c (evC fid call ann pl x (2 * p) { s with asm := (c, true) :: s.asm } kn ke kr) (evC fid call ann pl y (2 * p + 1) { s with asm := (c, false) :: s.asm } kn ke kr)
    | _ => .fail "cond"
  | .block id x, p, s, kn, ke, kr => evC fid call ann pl x (2 * p) s kn (fun id' s => if id' = id then kn s else ke id' s) kr
  | .loop x, p, s, kn, ke, kr =>
    let a := (ann p).getD ⟨[], [], []⟩
    let base := baseOf a s
    match closeTo P a base s with
    | none => .tell (posOf fid p) (whyTo P a base s)
    | some e =>
      if base.upTo && base.refs && heldBy s.ts a then .loop e (evC fid call ann pl x (2 * p) { headOf P a base with lv := s.lv + 1 } (jumpT P a (posOf fid p) s.lv base) ke kr)
      else .fail "upTo"
  | .exit id, _, s, _, ke, _ => ke id s
  | .scope x, p, s, kn, ke, kr => evC fid call ann pl x p s kn ke kr
  | .ret, _, s, _, _, kr => kr s
  | _, _, _, _, _, _ => .fail "code"

def resOne (H : Heap) (ts : List AV) : ResultVar → Option AV
  | .tmp t => ts[t]?
  | .cell a t => (ts[a]?).bind (loadA P H t)
def resAll (H : Heap) (ts : List AV) : List ResultVar → Option (List AV)
  | [] => some []
  | r :: rs => (resOne P H ts r).bind fun a => (resAll H ts rs).map (a :: ·)
/-- The results, one by one. -/
def resA (fn : Func) (ts : List AV) (H : Heap) : Option (List AV) := resAll P H ts fn.results.toList

inductive Leaf where
  | copyCheck
  | text
  deriving DecidableEq, Inhabited

structure Tab where
  bld : TypeId
  u8 : TypeId
  leaf : FuncId → Option Leaf
  sig : FuncId → Option Sig
  inl : FuncId → Bool
  ann : FuncId → Nat → Option LoopAnn
  plans : FuncId → Nat → Option Stat

variable (T : Tab)

/-- Builders: a struct of an address and a row of bytes, alone in its block. -/
def leafK (bl u8 : TypeId) (l : Leaf) (as : List AV) (s : St) (k : AV → St → Tree) : Tree :=
  match as with
  | [.ptr i 0] =>
    match s.H[i]? with
    | some (.cells [a, r] bt) =>
      if bt = bl then
      match l with
      | .copyCheck => if slfOk i 0 a then k undefA { s with H := s.H.set i (.cells [.slf i 0, r] bt) } else .fail "copyCheck"
      | .text =>
        (match r with
        | .nils => k (.pv .str (.lit (.str []))) s
        | .own j n =>
          (match s.H[j]? with
          | some (.lst e n' sz ag t wr) => if n = n' ∧ isU8 P t = true ∧ t = u8 then .need (seInt .leq .i64 n (i64 most)) (.need (seInt .lss .i64 (i64 0) n) (.need (.o1 .okB e) (k (.pv .str (.o1 .toS e)) { s with H := s.H.set j .dead }))) else .fail "text"
          | _ => .fail "text")
        | _ => .fail "text")
      else .fail "builder"
    | _ => .fail "builder"
  | _ => .fail "builder"

def callN : Nat → CallK
  | 0, _, _, _, _ => .fail "deep"
  | n + 1, f, as, s, k =>
    match T.leaf f with
    | some l => leafK P T.bld T.u8 l as s k
    | none =>
    if T.inl f then
      match P.funcs[f]? with
      | none => .fail "no func"
      | some fn =>
        match fn.body with
        | none => .fail "no body"
        | some c =>
          let fin (s' : St) : Tree :=
            match s'.stk, resA P fn s'.ts s'.H with
            | t :: r, some l => k (oneOf l) { s' with ts := t, stk := r }
            | _, _ => .fail ("results of " ++ fn.name)
          evC P f (callN n) (T.ann f) (T.plans f) c 1 { s with ts := as ++ List.replicate (fn.ntmps - as.length) undefA, stk := s.ts :: s.stk } fin (fun _ _ => .fail "exit") fin
    else
      match T.sig f with
      | none => .fail ("no sig " ++ ((P.funcs[f]?).map (·.name)).getD "")
      | some sg =>
        match closePars P s.H as sg.ps with
        | none => .fail ("args of " ++ ((P.funcs[f]?).map (·.name)).getD "")
        | some (es, H) =>
          if ({ s with H := H } : St).upTo then
            let b := backA P sg (.var s.nv) (ptrsOf as sg.ps) H
            .call f (mkSE es) (k b.1 { s with nv := s.nv + 1, H := b.2 })
          else .fail "upTo"

/-- Of the parameters those that are pointers. -/
def ptrAs {α : Type} : List α → List Par → List α
  | a :: as, .ptr _ _ _ :: ps => a :: ptrAs as ps
  | _ :: as, _ :: ps => ptrAs as ps
  | _, _ => []
def ptrPs : List Par → List Par
  | [] => []
  | .ptr g cs t :: ps => .ptr g cs t :: ptrPs ps
  | _ :: ps => ptrPs ps
def retT (sg : Sig) (fn : Func) (ps : List AV) (s : St) : Tree :=
  match resA P fn s.ts s.H with
  | none => .fail "results"
  | some l =>
    match closePars P s.H l sg.rs with
    | none => .fail "result kinds"
    | some (es, H) => match closePars P H (ptrAs ps sg.ps) (ptrPs sg.ps) with
      | none => .fail "pointees"
      | some (fs, _) => .ret (mkSE (es ++ fs))

def treeOf (n : Nat) (f : FuncId) : Option Tree :=
  match P.funcs[f]?, T.sig f with
  | some fn, some sg =>
    match fn.body with
    | none => none
    | some c =>
      let q := openPars P [] (.var 0) 0 sg.ps
      let s : St := { ts := q.1 ++ List.replicate (fn.ntmps - q.1.length) undefA, H := q.2, nv := 1, lv := 0, asm := [], stk := [] }
      some (evC P f (callN P T n) (T.ann f) (T.plans f) c 1 s (retT P sg fn q.1) (fun _ _ => .fail "exit") (retT P sg fn q.1))
  | _, _ => none
end
end Go.Dv

/- What the operations' laws lean on. -/
set_option linter.unusedVariables false
set_option linter.unusedSimpArgs false
namespace Go.Dv

section
variable {P : Program} {env : List PV} {p : Pins} {ρ : Rho}

mutual
theorem ofV_val : ∀ (v : Value) (a : AV), ofV v = some a → val P env p ρ a v
  | .bool b, a, h => by simp [ofV] at h; subst h; simp [val, SE.dn, RV, wt]
  | .int k n, a, h => by simp [ofV] at h; subst h; simp [val, SE.dn, RV, wt]
  | .float k n, a, h => by simp [ofV] at h
  | .complex k n m, a, h => by simp [ofV] at h
  | .string s, a, h => by simp [ofV] at h; subst h; simp [val, SE.dn, RV, wt]
  | .pointer none, a, h => by simp [ofV] at h; subst h; simp [val]
  | .pointer (some _), a, h => by simp [ofV] at h
  | .slice none 0 0, a, h => by simp [ofV] at h; subst h; simp [val]
  | .slice none (n + 1) c, a, h => by simp [ofV] at h
  | .slice none 0 (c + 1), a, h => by simp [ofV] at h
  | .slice (some _) n c, a, h => by simp [ofV] at h
  | .map r, a, h => by simp [ofV] at h
  | .chan r, a, h => by simp [ofV] at h
  | .func f x y, a, h => by simp [ofV] at h
  | .nilFunc, a, h => by simp [ofV] at h; subst h; simp [val]
  | .iface t v, a, h => by simp [ofV] at h
  | .nilIface, a, h => by simp [ofV] at h
  | .agg c, a, h => by
    simp only [ofV, Option.map_eq_some_iff] at h
    obtain ⟨x, hx, rfl⟩ := h
    simp only [val]
    exact ⟨c, rfl, ofVA_val c x hx⟩
  | .tuple c, a, h => by
    simp only [ofV, Option.map_eq_some_iff] at h
    obtain ⟨x, hx, rfl⟩ := h
    simp only [val]
    exact ⟨c, rfl, ofVA_val c x hx⟩
theorem ofVA_val : ∀ (v : Array Value) (a : List AV), ofVA v = some a → vals P env p ρ a v.toList
  | ⟨l⟩, a, h => by simp only [ofVA] at h; exact ofVL_val l a h
theorem ofVL_val : ∀ (v : List Value) (a : List AV), ofVL v = some a → vals P env p ρ a v
  | [], a, h => by simp [ofVL] at h; subst h; exact vals_nil
  | v :: vs, a, h => by
    simp only [ofVL, Option.bind_eq_some_iff, Option.map_eq_some_iff] at h
    obtain ⟨x, hx, y, hy, rfl⟩ := h
    exact vals_cons (ofV_val v x hx) (ofVL_val vs y hy)
end

theorem evA_val {ts : List AV} {a : Act} (h : vals P env p ρ ts a.tmps.toList) (x : Operand) : val P env p ρ (evA ts x) (a.eval x) := by
  cases x with
  | tmp t =>
    simp only [evA, Act.eval]
    cases ht : ts[t]? with
    | none => simp [List.getD, ht, val]
    | some b =>
      obtain ⟨v, hv, hr⟩ := vals_get h ht
      have hv' : a.tmps[t]? = some v := by simpa using hv
      simp [List.getD, ht, hv', hr]
  | const v =>
    simp only [evA, Act.eval]
    cases hv : ofV v with
    | none => simp [val]
    | some b => exact ofV_val v b hv
  | global g => simp [evA, val]
  | func f => simp [evA, Act.eval, val, vals]

/-! ### Values of one cell -/
theorem RV_one : ∀ (x : PV) (v : Value), RV p x v → v.oneCell' = true ∧ v.cells = #[v]
  | .int k n, v, h => by simp only [RV] at h; subst h; exact ⟨rfl, rfl⟩
  | .bool b, v, h => by simp only [RV] at h; subst h; exact ⟨rfl, rfl⟩
  | .str l, v, h => by simp only [RV] at h; subst h; exact ⟨rfl, rfl⟩
  | .list s g xs, v, h => by simp only [RV] at h; obtain ⟨a, c, rfl, _⟩ := h; exact ⟨rfl, rfl⟩
  | .agg cs, v, h => by simp [RV] at h
theorem oneA_val {a : AV} {v : Value} (h : oneA a = true) (hv : val P env p ρ a v) : v.oneCell' = true ∧ v.cells = #[v] := by
  cases a with
  | un => simp [oneA] at h
  | agg l => simp [oneA] at h
  | tup l => simp [oneA] at h
  | pv k e => simp only [val] at hv; exact RV_one _ _ hv.1
  | ptr i o => simp only [val] at hv; obtain ⟨b, m, _, rfl⟩ := hv; exact ⟨rfl, rfl⟩
  | nilp => simp only [val] at hv; subst hv; exact ⟨rfl, rfl⟩
  | slf i o => simp only [val] at hv; rcases hv with rfl | ⟨b, m, _, rfl⟩ <;> exact ⟨rfl, rfl⟩
  | nils => simp only [val] at hv; subst hv; exact ⟨rfl, rfl⟩
  | emp => simp only [val] at hv; obtain ⟨a, rfl⟩ := hv; exact ⟨rfl, rfl⟩
  | el e ix o t => simp only [val] at hv; obtain ⟨b, o', sz, ag, xs, _, _, _, _, _, rfl⟩ := hv; exact ⟨rfl, rfl⟩
  | own i n => simp only [val] at hv; obtain ⟨a, c, m, ad, _, _, rfl, _⟩ := hv; exact ⟨rfl, rfl⟩
  | elo i n ix o sz => simp only [val] at hv; obtain ⟨b, c, _, _, _, rfl⟩ := hv; exact ⟨rfl, rfl⟩
  | fn f x y => simp only [val] at hv; obtain ⟨us, ws, rfl, _⟩ := hv; exact ⟨rfl, rfl⟩
  | nilfn => simp only [val] at hv; subst hv; exact ⟨rfl, rfl⟩
theorem vals_one {as : List AV} {vs : List Value} (h : as.all oneA = true) (hv : vals P env p ρ as vs) : ∀ v ∈ vs, v.oneCell' = true := by
  induction as generalizing vs with
  | nil => rw [vals_nil_inv hv]; simp
  | cons a as ih =>
    simp only [vals] at hv
    obtain ⟨v, r, rfl, h1, h2⟩ := hv
    simp only [List.all_cons, Bool.and_eq_true] at h
    intro u hu
    rcases List.mem_cons.1 hu with rfl | hu
    · exact (oneA_val h.1 h1).1
    · exact ih h.2 h2 u hu
theorem cellsA_val {a : AV} {v : Value} {l : List AV} (h : cellsA a = some l) (hv : val P env p ρ a v) : vals P env p ρ l v.cells.toList ∧ l.all oneA = true := by
  have plain : oneA a = true → l = [a] → vals P env p ρ l v.cells.toList ∧ l.all oneA = true := by
    intro h1 h2
    obtain ⟨_, hc⟩ := oneA_val h1 hv
    subst h2
    rw [hc]
    exact ⟨vals_cons hv vals_nil, by simp [h1]⟩
  cases a with
  | un => simp [cellsA] at h
  | tup l => simp [cellsA] at h
  | agg us =>
    simp only [cellsA] at h
    split at h
    · rename_i hall
      simp only [Option.some.injEq] at h
      subst h
      simp only [val] at hv
      obtain ⟨xs, rfl, hx⟩ := hv
      exact ⟨by simpa [Value.cells] using hx, hall⟩
    · simp at h
  | _ => simp only [cellsA, Option.some.injEq] at h; exact plain rfl h.symm

theorem getCells_some {vs l : List AV} {o n : Nat} (h : getCells vs o n = some l) : l = (vs.drop o).take n ∧ l.length = n ∧ (n = 0 ∨ o + n ≤ vs.length) := by
  unfold getCells at h
  simp only at h
  split at h
  · rename_i hl
    simp only [Option.some.injEq] at h
    subst h
    refine ⟨rfl, hl, ?_⟩
    simp only [List.length_take, List.length_drop] at hl
    omega
  · simp at h
theorem getCells_get {vs l : List AV} {o n : Nat} (h : getCells vs o n = some l) (k : Nat) (hk : k < n) : l[k]? = vs[o + k]? := by
  obtain ⟨rfl, hl, _⟩ := getCells_some h
  rw [List.getElem?_take, if_pos hk, List.getElem?_drop]
theorem vals_take {as : List AV} {vs : List Value} (h : vals P env p ρ as vs) (n : Nat) : vals P env p ρ (as.take n) (vs.take n) := by
  induction as generalizing vs n with
  | nil => rw [vals_nil_inv h]; simp [vals]
  | cons x xs ih =>
    simp only [vals] at h
    obtain ⟨v, r, rfl, h1, h2⟩ := h
    cases n with
    | zero => simp [vals]
    | succ n => simp only [List.take_succ_cons]; exact vals_cons h1 (ih h2 n)
theorem vals_drop {as : List AV} {vs : List Value} (h : vals P env p ρ as vs) (n : Nat) : vals P env p ρ (as.drop n) (vs.drop n) := by
  induction as generalizing vs n with
  | nil => rw [vals_nil_inv h]; simp [vals]
  | cons x xs ih =>
    simp only [vals] at h
    obtain ⟨v, r, rfl, h1, h2⟩ := h
    cases n with
    | zero => simpa using vals_cons h1 h2
    | succ n => simp only [List.drop_succ_cons]; exact ih h2 n

theorem isAggA_run {t : TypeId} {r : Bool} {w : World} (h : isAggA P t = some r) : (isAgg t).run P w = .ok r w := by
  unfold isAggA at h
  cases hu : P.underlying t with
  | none => simp [hu] at h
  | some d =>
    unfold isAgg
    rw [Sem.run_bind, run_underlying hu w]
    cases d <;> simp [hu] at h <;> subst h <;> rfl
theorem sizeA_run {t : TypeId} {n : Nat} {w : World} (h : sizeA P t = some n) : (sizeOf t).run P w = .ok n w := by
  unfold sizeA at h
  cases hi : P.info? t with
  | none => simp [hi] at h
  | some i => simp [hi] at h; simp [sizeOf, typeInfo, hi, h]

/-! ### Elements -/
theorem RCs_get {q : Nat → Option Value} : ∀ (xs : List PV) (o k : Nat) (x : PV), RCs p q o xs → xs[k]? = some x → ∃ v, q (o + k) = some v ∧ RV p x v
  | [], o, k, x, h, hk => by simp at hk
  | y :: ys, o, 0, x, h, hk => by
    simp only [RCs] at h
    simp only [List.getElem?_cons_zero, Option.some.injEq] at hk
    subst hk
    exact h.1
  | y :: ys, o, k + 1, x, h, hk => by
    simp only [RCs] at h
    simp only [List.getElem?_cons_succ] at hk
    obtain ⟨v, h1, h2⟩ := RCs_get ys (o + 1) k x h.2 hk
    exact ⟨v, by rw [← h1]; congr 1; omega, h2⟩
theorem REs_get {q : Nat → Option Value} {sz : Nat} {ag : Bool} : ∀ (xs : List PV) (o k : Nat) (x : PV), REs p q sz ag o xs → xs[k]? = some x → RE p q sz ag (o + k * sz) x
  | [], o, k, x, h, hk => by simp at hk
  | y :: ys, o, 0, x, h, hk => by
    simp only [REs] at h
    simp only [List.getElem?_cons_zero, Option.some.injEq] at hk
    subst hk
    simpa using h.1
  | y :: ys, o, k + 1, x, h, hk => by
    simp only [REs] at h
    simp only [List.getElem?_cons_succ] at hk
    have := REs_get ys (o + sz) k x h.2 hk
    have e : o + sz + k * sz = o + (k + 1) * sz := by rw [Nat.add_mul]; omega
    rwa [e] at this
/-- An element of one cell. -/
theorem RE_one {q : Nat → Option Value} {sz o : Nat} : ∀ {x : PV}, RE p q sz false o x → sz = 1 ∧ ∃ v, q o = some v ∧ RV p x v
  | .agg cs, h => by simp [RE] at h
  | .int k n, h => by simp only [RE] at h; obtain ⟨_, h1, v, h2, h3⟩ := h; exact ⟨h1, v, h2, by simpa [RV] using h3⟩
  | .bool b, h => by simp only [RE] at h; obtain ⟨_, h1, v, h2, h3⟩ := h; exact ⟨h1, v, h2, by simpa [RV] using h3⟩
  | .str l, h => by simp only [RE] at h; obtain ⟨_, h1, v, h2, h3⟩ := h; exact ⟨h1, v, h2, by simpa [RV] using h3⟩
  | .list s g xs, h => by simp only [RE] at h; obtain ⟨_, h1, v, h2, h3⟩ := h; exact ⟨h1, v, h2, by simpa [RV] using h3⟩
theorem RE_agg {q : Nat → Option Value} {sz o : Nat} : ∀ {x : PV}, RE p q sz true o x → ∃ cs, x = .agg cs ∧ cs.length = sz ∧ RCs p q o cs
  | .agg cs, h => by simp only [RE] at h; exact ⟨cs, rfl, h.2.1, h.2.2⟩
  | .int k n, h => by simp [RE] at h
  | .bool b, h => by simp [RE] at h
  | .str l, h => by simp [RE] at h
  | .list s g xs, h => by simp [RE] at h
theorem RE_mk {q : Nat → Option Value} {o : Nat} : ∀ {x : PV} {v : Value}, q o = some v → RV p x v → RE p q 1 false o x
  | .agg cs, v, h, hv => by simp [RV] at hv
  | .int k n, v, h, hv => by simp only [RE]; exact ⟨trivial, trivial, v, h, by simpa [RV] using hv⟩
  | .bool b, v, h, hv => by simp only [RE]; exact ⟨trivial, trivial, v, h, by simpa [RV] using hv⟩
  | .str l, v, h, hv => by simp only [RE]; exact ⟨trivial, trivial, v, h, by simpa [RV] using hv⟩
  | .list s g xs, v, h, hv => by simp only [RE]; exact ⟨trivial, trivial, v, h, by simpa [RV] using hv⟩

theorem wtCs_get : ∀ (ks : List Kn) (cs : List PV), wtCs P ks cs = true → cs.length = ks.length ∧ ∀ (i : Nat) (k : Kn), ks[i]? = some k → ∃ c, cs[i]? = some c ∧ wt P k c = true
  | [], [], _ => ⟨rfl, by simp⟩
  | [], _ :: _, h => by simp [wtCs] at h
  | _ :: _, [], h => by simp [wtCs] at h
  | k :: ks, c :: cs, h => by
    simp only [wtCs, Bool.and_eq_true] at h
    obtain ⟨h1, h2⟩ := wtCs_get ks cs h.2
    refine ⟨by simp [h1], fun i k' hi => ?_⟩
    cases i with
    | zero => simp at hi; subst hi; exact ⟨c, rfl, h.1⟩
    | succ i => simpa using h2 i k' (by simpa using hi)
theorem wtEs_get {e : TypeId} {ks : Option (List Kn)} : ∀ (xs : List PV) (i : Nat) (x : PV), wtEs P e ks xs = true → xs[i]? = some x → wtE P e ks x = true
  | [], i, x, h, hi => by simp at hi
  | y :: ys, 0, x, h, hi => by simp only [wtEs, Bool.and_eq_true] at h; simp at hi; subst hi; exact h.1
  | y :: ys, i + 1, x, h, hi => by
    simp only [wtEs, Bool.and_eq_true] at h
    exact wtEs_get ys i x h.2 (by simpa using hi)
theorem wtE_one {e : TypeId} {k : Kn} : ∀ {x : PV}, wtE P e (some [k]) x = true → (∀ cs, x ≠ .agg cs) → wt P k x = true
  | .agg cs, h, hn => absurd rfl (hn cs)
  | .int j n, h, _ => by
    simp only [wtE] at h
    split at h
    · rename_i k' hk; simp at hk; subst hk; simpa [wt] using h
    · simp at h
  | .bool b, h, _ => by
    simp only [wtE] at h
    split at h
    · rename_i hk; simp at hk; subst hk; rfl
    · simp at h
  | .str l, h, _ => by
    simp only [wtE] at h
    split at h
    · rename_i hk; simp at hk; subst hk; rfl
    · simp at h
  | .list s g xs, h, _ => by
    simp only [wtE] at h
    split at h
    · rename_i e' hk; simp at hk; subst hk; simpa [wt] using h
    · simp at h
theorem wt_list {t : TypeId} : ∀ {x : PV}, wt P (.list t) x = true → ∃ sz ag xs, x = .list sz ag xs ∧ sizeA P t = some sz ∧ isAggA P t = some ag ∧ wtEs P t (cellK P t) xs = true
  | .list sz ag xs, h => by
    simp only [wt, Bool.and_eq_true, beq_iff_eq] at h
    exact ⟨sz, ag, xs, rfl, h.1.1, h.1.2, h.2⟩
  | .int _ _, h => by simp [wt] at h
  | .bool _, h => by simp [wt] at h
  | .str _, h => by simp [wt] at h
  | .agg _, h => by simp [wt] at h
theorem wt_int {k : IntKind} : ∀ {x : PV}, wt P (.int k) x = true → ∃ n, x = .int k n
  | .int j n, h => by simp only [wt, decide_eq_true_eq] at h; exact ⟨n, by rw [h]⟩
  | .list _ _ _, h => by simp [wt] at h
  | .bool _, h => by simp [wt] at h
  | .str _, h => by simp [wt] at h
  | .agg _, h => by simp [wt] at h
theorem wt_bool : ∀ {x : PV}, wt P .bool x = true → ∃ b, x = .bool b
  | .bool b, _ => ⟨b, rfl⟩
  | .int _ _, h => by simp [wt] at h
  | .list _ _ _, h => by simp [wt] at h
  | .str _, h => by simp [wt] at h
  | .agg _, h => by simp [wt] at h
theorem wt_str : ∀ {x : PV}, wt P .str x = true → ∃ l, x = .str l
  | .str l, _ => ⟨l, rfl⟩
  | .int _ _, h => by simp [wt] at h
  | .list _ _ _, h => by simp [wt] at h
  | .bool _, h => by simp [wt] at h
  | .agg _, h => by simp [wt] at h

theorem val_pint {k : IntKind} {e : SE} {v : Value} (h : val P env p ρ (.pv (.int k) e) v) : ∃ n, e.dn env = .int k n ∧ v = .int k n := by
  simp only [val] at h
  obtain ⟨n, hn⟩ := wt_int h.2
  rw [hn] at h
  exact ⟨n, hn, by simpa [RV] using h.1⟩
theorem val_pbool {e : SE} {v : Value} (h : val P env p ρ (.pv .bool e) v) : ∃ b, e.dn env = .bool b ∧ v = .bool b := by
  simp only [val] at h
  obtain ⟨n, hn⟩ := wt_bool h.2
  rw [hn] at h
  exact ⟨n, hn, by simpa [RV] using h.1⟩
theorem val_pstr {e : SE} {v : Value} (h : val P env p ρ (.pv .str e) v) : ∃ l, e.dn env = .str l ∧ v = .string ⟨l.toArray⟩ := by
  simp only [val] at h
  obtain ⟨n, hn⟩ := wt_str h.2
  rw [hn] at h
  exact ⟨n, hn, by simpa [RV] using h.1⟩
theorem val_plist {t : TypeId} {e : SE} {v : Value} (h : val P env p ρ (.pv (.list t) e) v) :
    ∃ sz ag xs, e.dn env = .list sz ag xs ∧ sizeA P t = some sz ∧ isAggA P t = some ag ∧ wtEs P t (cellK P t) xs = true ∧ IsSlice v xs.length sz fun b o => REs p (p b) sz ag o xs := by
  simp only [val] at h
  obtain ⟨sz, ag, xs, hx, h1, h2, h3⟩ := wt_list h.2
  rw [hx] at h
  exact ⟨sz, ag, xs, hx, h1, h2, h3, by simpa [RV] using h.1⟩
theorem val_int_mk {k : IntKind} {e : SE} {n : Int} (h : e.dn env = .int k n) : val P env p ρ (.pv (.int k) e) (.int k n) := by simp [val, h, RV, wt]
theorem val_bool_mk {e : SE} {b : Bool} (h : e.dn env = .bool b) : val P env p ρ (.pv .bool e) (.bool b) := by simp [val, h, RV, wt]
theorem val_str_mk {e : SE} {l : List UInt8} (h : e.dn env = .str l) : val P env p ρ (.pv .str e) (.string ⟨l.toArray⟩) := by simp [val, h, RV, wt]
end
end Go.Dv

/- The operations that read alone. -/
set_option linter.unusedVariables false
set_option linter.unusedSimpArgs false
namespace Go.Dv

/-- What an operation needs holds. -/
def Needs (env : List PV) (l : List SE) : Prop := ∀ e ∈ l, e.dn env = .bool true

theorem Needs.two {env : List PV} {a b : SE} (h : Needs env [a, b]) : a.dn env = .bool true ∧ b.dn env = .bool true := ⟨h a (by simp), h b (by simp)⟩
theorem Needs.three {env : List PV} {a b c : SE} (h : Needs env [a, b, c]) : a.dn env = .bool true ∧ b.dn env = .bool true ∧ c.dn env = .bool true := ⟨h a (by simp), h b (by simp), h c (by simp)⟩
theorem Needs.one {env : List PV} {a : SE} (h : Needs env [a]) : a.dn env = .bool true := h a (by simp)

section
variable {P : Program} {env : List PV} {p : Pins} {ρ : Rho} {H : Heap} {w : World}

theorem seFld_dn (a : SE) (i : Nat) : (seFld a i).dn env = (a.dn env).cs.getD i (.bool false) := rfl
theorem partsOf_get (e : SE) : ∀ (ks : List Kn) (i j : Nat), (partsOf e i ks)[j]? = (ks[j]?).map fun k => .pv k (seFld e (i + j))
  | [], i, j => by simp [partsOf]
  | k :: ks, i, 0 => by simp [partsOf]
  | k :: ks, i, j + 1 => by
    simp only [partsOf, List.getElem?_cons_succ]
    rw [partsOf_get e ks (i + 1) j, show i + 1 + j = i + (j + 1) by omega]
theorem partsOf_length (e : SE) : ∀ (ks : List Kn) (i : Nat), (partsOf e i ks).length = ks.length
  | [], i => rfl
  | k :: ks, i => by simp [partsOf, partsOf_length e ks]

/-- Cells that are told by a row of places. -/
def CellsAt (w : World) (b : Nat) (q : Nat → Option Value) : Prop := ∀ o v, q o = some v → w.cell? ⟨b, o, none⟩ = some v

theorem agg_vals {x : SE} {cs : List PV} {ks : List Kn} {q : Nat → Option Value} {o0 o n : Nat} (hx : x.dn env = .agg cs) (hw : wtCs P ks cs = true) (hr : RCs p q o0 cs) (hn : o + n ≤ ks.length) :
    ∃ us : List Value, us.length = n ∧ vals P env p ρ (((partsOf x 0 ks).drop o).take n) us ∧ ∀ (j : Nat) (v : Value), us[j]? = some v → q (o0 + o + j) = some v := by
  obtain ⟨hl, hget⟩ := wtCs_get ks cs hw
  refine ⟨(List.range n).map fun j => (q (o0 + o + j)).getD undef, by simp, ?_, ?_⟩
  · refine vals_of_get (by simp [partsOf_length]; omega) fun j a ha => ?_
    have hj : j < n := by
      have := (List.getElem?_eq_some_iff.1 ha).1
      simp at this
      omega
    rw [List.getElem?_take, if_pos hj, List.getElem?_drop, partsOf_get] at ha
    simp only [Option.map_eq_some_iff] at ha
    obtain ⟨k, hk, rfl⟩ := ha
    obtain ⟨c, hc, hwc⟩ := hget (o + j) k hk
    obtain ⟨v, hv, hrv⟩ := RCs_get cs o0 (o + j) c hr hc
    rw [show o0 + (o + j) = o0 + o + j by omega] at hv
    refine ⟨v, by simp [hj, hv], ?_⟩
    simp only [val, seFld_dn, hx, PV.cs, Nat.zero_add, List.getD_eq_getElem?_getD, hc, Option.getD_some]
    exact ⟨hrv, hwc⟩
  · intro j v hv
    have hj : j < n := by
      have := (List.getElem?_eq_some_iff.1 hv).1
      simpa using this
    obtain ⟨k, hk⟩ : ∃ k, ks[o + j]? = some k := ⟨ks[o + j]'(by omega), List.getElem?_eq_getElem (by omega)⟩
    obtain ⟨c, hc, hwc⟩ := hget (o + j) k hk
    obtain ⟨u, hu, _⟩ := RCs_get cs o0 (o + j) c hr hc
    rw [show o0 + (o + j) = o0 + o + j by omega] at hu
    simp [hj, hu] at hv
    rw [hu, hv]

theorem elemAt_ok {q : Nat → Option Value} {b o0 o sz : Nat} {ag : Bool} {te t : TypeId} {x : SE} {el : PV} {a : AV} (hq : CellsAt w b q) (hx : x.dn env = el) (hr : RE p q sz ag o0 el) (hw : wtE P te (cellK P te) el = true)
    (hag : isAggA P te = some ag) (he : elemAt P te t x o = some a) : ∃ u, (Instr.loadAt t (.pointer (some ⟨b, o0 + o, none⟩))).run P w = .ok u w ∧ val P env p ρ a u := by
  unfold elemAt at he
  rw [hag] at he
  split at he
  · rename_i k e1 e2 e3
    simp only [Option.some.injEq] at e1
    subst e1
    split at he
    · rename_i ho
      subst ho
      simp only [Option.some.injEq] at he
      subst he
      obtain ⟨_, v, hv, hrv⟩ := RE_one hr
      rw [e2] at hw
      have hwt := wtE_one hw (fun cs hc => by subst hc; simp [RV] at hrv)
      refine ⟨v, by simp [Instr.loadAt, Instr.sureAddr, loadVar, isAggA_run e3, hq _ _ hv], ?_⟩
      simp only [val, hx]
      exact ⟨hrv, hwt⟩
    · simp at he
  · rename_i ks e1 e2 e3
    simp only [Option.some.injEq] at e1
    subst e1
    split at he
    · rename_i k hk
      simp only [Option.some.injEq] at he
      subst he
      obtain ⟨cs, rfl, _, hcs⟩ := RE_agg hr
      rw [e2] at hw
      simp only [wtE] at hw
      obtain ⟨_, hget⟩ := wtCs_get ks cs hw
      obtain ⟨c, hc, hwc⟩ := hget o k hk
      obtain ⟨v, hv, hrv⟩ := RCs_get cs o0 o c hcs hc
      refine ⟨v, by simp [Instr.loadAt, Instr.sureAddr, loadVar, isAggA_run e3, hq _ _ hv], ?_⟩
      simp only [val, seFld_dn, hx, PV.cs, List.getD_eq_getElem?_getD, hc, Option.getD_some]
      exact ⟨hrv, hwc⟩
    · simp at he
  · rename_i ks e1 e2 e3
    simp only [Option.some.injEq] at e1
    subst e1
    split at he
    · rename_i n hn
      split at he
      · rename_i hle
        simp only [Option.some.injEq] at he
        subst he
        obtain ⟨cs, rfl, _, hcs⟩ := RE_agg hr
        rw [e2] at hw
        simp only [wtE] at hw
        obtain ⟨us, h1, h2, h3⟩ := agg_vals (ρ := ρ) (n := n) hx hw hcs hle
        have hc := run_loadCells_list (P := P) w ⟨b, o0 + o, none⟩ us (fun j v hv => by rw [Addr.add_lit]; exact hq _ _ (h3 j v hv))
        rw [h1] at hc
        exact ⟨.agg us.toArray, by simp [Instr.loadAt, Instr.sureAddr, loadVar, isAggA_run e3, sizeA_run hn, hc], by simp only [val]; exact ⟨us.toArray, rfl, by simpa using h2⟩⟩
      · simp at he
    · simp at he
  · simp at he

theorem Rel.pinned (h : Rel P env p ρ H w) (b : Nat) : CellsAt w b (p b) := fun o v hv => h.pin b o v hv
theorem row_cells {b : Nat} {cs : Array Value} {t : TypeId} (hb : w.heap[b]? = some (.cells cs t (0, 0))) : CellsAt w b (fun o => cs[o]?) := fun o v hv => by rw [cell_of_row w b o cs t (0, 0) hb]; exact hv

theorem Rel.cells (h : Rel P env p ρ H w) {i b m : Nat} {vs : List AV} {t : TypeId} (hi : ρ i = some (some b, m)) (hg : H[i]? = some (.cells vs t)) :
    ∃ cs, w.heap[b]? = some (.cells cs t (0, 0)) ∧ cs.size = vs.length ∧ (∀ o, p b o = none) ∧ ∀ (k : Nat) (a : AV), vs[k]? = some a → ∃ v : Value, cs[k]? = some v ∧ val P env p ρ a v := by
  have := h.blk i _ _ hi hg
  simp only [blkRel] at this
  obtain ⟨b', m', cs, h1, h2, h2', h3, h4⟩ := this
  rw [hi] at h1
  simp only [Option.some.injEq, Prod.mk.injEq] at h1
  obtain ⟨rfl, _⟩ := h1
  exact ⟨cs, h2, h2', h3, h4⟩

theorem getCells_run {b : Nat} {cs : Array Value} {t : TypeId} (hb : w.heap[b]? = some (.cells cs t (0, 0))) {vs l : List AV} {o n : Nat} (hc : ∀ (k : Nat) (a : AV), vs[k]? = some a → ∃ v : Value, cs[k]? = some v ∧ val P env p ρ a v)
    (hl : getCells vs o n = some l) : ∃ us : List Value, us.length = n ∧ vals P env p ρ l us ∧ ∀ (j : Nat) (v : Value), us[j]? = some v → w.cell? ((⟨b, o, none⟩ : Addr).add j) = some v := by
  obtain ⟨hl1, hl2, hl3⟩ := getCells_some hl
  have hlen : ∀ k, k < n → ∃ v, cs[o + k]? = some v := fun k hk => by
    obtain ⟨v, hv, _⟩ := hc (o + k) (vs[o + k]'(by omega)) (List.getElem?_eq_getElem (by omega))
    exact ⟨v, hv⟩
  refine ⟨(List.range n).map fun k => cs[o + k]?.getD undef, by simp, ?_, ?_⟩
  · refine vals_of_get (by simp [hl2]) fun k a hk => ?_
    have hkn : k < n := by
      rw [← hl2]
      exact (List.getElem?_eq_some_iff.1 hk).1
    rw [getCells_get hl k hkn] at hk
    obtain ⟨v, hv, hr⟩ := hc _ _ hk
    exact ⟨v, by simp [hkn, hv], hr⟩
  · intro j v hv
    have hj : j < n := by
      have := (List.getElem?_eq_some_iff.1 hv).1
      simpa using this
    rw [Addr.add_lit, cell_of_row w b (o + j) cs t (0, 0) hb]
    obtain ⟨u, hu⟩ := hlen j hj
    simp [hj, hu] at hv
    rw [hu, hv]

theorem load_ok (h : Rel P env p ρ H w) {t : TypeId} {q a : AV} {v : Value} (hp : val P env p ρ q v) (ha : loadA P H t q = some a) :
    ∃ u, (Instr.loadAt t v).run P w = .ok u w ∧ val P env p ρ a u := by
  unfold loadA at ha
  split at ha
  · rename_i i o
    simp only [val] at hp
    obtain ⟨b, m, hi, rfl⟩ := hp
    split at ha
    · rename_i vs tb hg
      obtain ⟨cs, hb, _, _, hc⟩ := h.cells hi hg
      split at ha
      · rename_i hagg
        simp only [Option.bind_eq_some_iff, Option.map_eq_some_iff] at ha
        obtain ⟨n, hn, l, hl, rfl⟩ := ha
        obtain ⟨us, h1, h2, h3⟩ := getCells_run hb hc hl
        refine ⟨.agg us.toArray, ?_, by simp only [val]; exact ⟨us.toArray, rfl, by simpa using h2⟩⟩
        have hc := run_loadCells_list (P := P) w ⟨b, o, none⟩ us h3
        rw [h1] at hc
        simp [Instr.loadAt, Instr.sureAddr, loadVar, isAggA_run hagg, sizeA_run hn, hc]
      · rename_i hagg
        obtain ⟨u, hu, hr⟩ := hc o a ha
        have hcell : w.cell? ⟨b, o, none⟩ = some u := by rw [cell_of_row w b o cs tb (0, 0) hb]; exact hu
        exact ⟨u, by simp [Instr.loadAt, Instr.sureAddr, loadVar, isAggA_run hagg, hcell], hr⟩
      · simp at ha
    · simp at ha
  · rename_i e ix o te
    simp only [val] at hp
    obtain ⟨b, o', sz, ag, xs, h1, h2, h3, h4, h5, rfl⟩ := hp
    have hx : xs[(ix.dn env).i.toNat]? = some xs[(ix.dn env).i.toNat] := List.getElem?_eq_getElem h5
    obtain ⟨sz', ag', xs', hxs, _, hag, hws⟩ := wt_list h2
    simp only [PV.list.injEq] at hxs
    obtain ⟨rfl, rfl, rfl⟩ := hxs
    exact elemAt_ok (h.pinned b) (by simp only [SE.dn, O2.dn, h1, PV.l, List.getD_eq_getElem?_getD, hx, Option.getD_some]) (REs_get xs o' _ _ h3 hx) (wtEs_get xs _ _ hws hx) hag ha
  · rename_i i n ix o sz
    simp only [val] at hp
    obtain ⟨b, c, hi, h1, h2, rfl⟩ := hp
    split at ha
    · rename_i e n' sz' ag te wr hg
      split at ha
      · rename_i hnn
        obtain ⟨rfl, rfl⟩ := hnn
        have := h.blk i _ _ hi hg
        simp only [blkRel] at this
        obtain ⟨a', c', xs, e1, e2, e3, e4, hrow⟩ := this
        rw [hi] at e1
        simp only [Option.some.injEq, Prod.mk.injEq] at e1
        obtain ⟨rfl, rfl⟩ := e1
        obtain ⟨_, _, _, hb⟩ := hrow
        obtain ⟨cs, hb, _, hres, _⟩ := hb b rfl
        rw [e4] at h2
        have h2' : (ix.dn env).i < (xs.length : Int) := h2
        have h5 : (ix.dn env).i.toNat < xs.length := by omega
        have hx : xs[(ix.dn env).i.toNat]? = some xs[(ix.dn env).i.toNat] := List.getElem?_eq_getElem h5
        obtain ⟨sz', ag', xs', hxs, _, hag, hws⟩ := wt_list e3
        simp only [PV.list.injEq] at hxs
        obtain ⟨rfl, rfl, rfl⟩ := hxs
        have := elemAt_ok (ρ := ρ) (env := env) (x := .o2 .idx e ix) (row_cells hb) (by simp only [SE.dn, O2.dn, e2, PV.l, List.getD_eq_getElem?_getD, hx, Option.getD_some]) (REs_get xs 0 _ _ hres hx) (wtEs_get xs _ _ hws hx) hag ha
        simpa using this
      · simp at ha
    · simp at ha
  · simp at ha

theorem fieldAddr_ok {s : TypeId} {q a : AV} {f : Nat} {v : Value} (hp : val P env p ρ q v) (ha : fieldAddrA P s q f = some a) :
    ∃ u, (Instr.fieldAt s v f).run P w = .ok u w ∧ val P env p ρ a u := by
  unfold fieldAddrA at ha
  split at ha
  · rename_i fields hu
    split at ha
    · rename_i fd hf
      split at ha
      · rename_i n hn
        have run : ∀ (b o : Nat), (Instr.fieldAt s (.pointer (some ⟨b, o, none⟩)) f).run P w = .ok (.pointer (some ⟨b, o + fd.offset, none⟩)) w := fun b o => by
          simp [Instr.fieldAt, run_underlying hu, hf, Instr.sureAddr, fieldPlace, sizeA_run hn, Addr.add_lit]
        split at ha
        · simp only [Option.some.injEq] at ha
          subst ha
          simp only [val] at hp
          obtain ⟨b, m, hi, rfl⟩ := hp
          exact ⟨_, run _ _, by simp only [val]; exact ⟨b, m, hi, rfl⟩⟩
        · simp only [Option.some.injEq] at ha
          subst ha
          simp only [val] at hp
          obtain ⟨b, o', sz, ag, xs, h1, h2, h3, h4, h5, rfl⟩ := hp
          refine ⟨_, run _ _, ?_⟩
          simp only [val]
          exact ⟨b, o', sz, ag, xs, h1, h2, h3, h4, h5, by rw [Nat.add_assoc]⟩
        · simp only [Option.some.injEq] at ha
          subst ha
          simp only [val] at hp
          obtain ⟨b, c, hi, h1, h2, rfl⟩ := hp
          refine ⟨_, run _ _, ?_⟩
          simp only [val]
          exact ⟨b, c, hi, h1, h2, by rw [Nat.add_assoc]⟩
        · simp at ha
      · simp at ha
    · simp at ha
  · simp at ha

theorem part_ok {t : TypeId} {cs : List AV} {us : Array Value} {off : Nat} {a : AV} (hv : vals P env p ρ cs us.toList) (ha : partA P t cs off = some a) :
    ∃ u, (part t us off).run P w = .ok u w ∧ val P env p ρ a u := by
  unfold partA at ha
  split at ha
  · rename_i hagg
    simp only [Option.bind_eq_some_iff, Option.map_eq_some_iff] at ha
    obtain ⟨n, hn, l, hl, rfl⟩ := ha
    obtain ⟨rfl, h1, h2⟩ := getCells_some hl
    refine ⟨.agg (us.extract off (off + n)), by simp [part, isAggA_run hagg, sizeA_run hn], ?_⟩
    simp only [val]
    refine ⟨_, rfl, ?_⟩
    have := vals_take (vals_drop hv off) n
    have e : (us.extract off (off + n)).toList = (us.toList.drop off).take n := by
      simp
    rw [e]
    exact this
  · rename_i hagg
    obtain ⟨u, hu, hr⟩ := vals_get hv ha
    have hu' : us[off]? = some u := by simpa using hu
    exact ⟨u, by simp [part, isAggA_run hagg, hu'], hr⟩
  · simp at ha

theorem field_ok {t : TypeId} {x a : AV} {f : Nat} {v : Value} (hp : val P env p ρ x v) (ha : fieldA P t x f = some a) :
    ∃ u, (Instr.field t v f).run P w = .ok u w ∧ val P env p ρ a u := by
  unfold fieldA at ha
  split at ha
  · rename_i fields cs hu
    simp only [val] at hp
    obtain ⟨us, rfl, hus⟩ := hp
    split at ha
    · rename_i fd hf
      obtain ⟨u, h1, h2⟩ := part_ok (w := w) hus ha
      exact ⟨u, by simp [Instr.field, run_underlying hu, hf, asAgg, h1], h2⟩
    · simp at ha
  · simp at ha

theorem need_leq {a b : SE} {k : IntKind} (h : (seInt .leq k a b).dn env = .bool true) : (a.dn env).i ≤ (b.dn env).i := by
  rw [seInt_dn] at h
  simpa [intOp] using h
theorem need_lss {a b : SE} {k : IntKind} (h : (seInt .lss k a b).dn env = .bool true) : (a.dn env).i < (b.dn env).i := by
  rw [seInt_dn] at h
  simpa [intOp] using h

theorem index_ok {t : TypeId} {x ix a : AV} {v k : Value} {ns : List SE} (hp : val P env p ρ x v) (hk : val P env p ρ ix k) (ha : indexA P t x ix = some (ns, .val a)) (hn : Needs env ns) :
    ∃ u, (Instr.index t v k).run P w = .ok u w ∧ val P env p ρ a u := by
  unfold indexA at ha
  split at ha
  · rename_i s k' i hu
    simp only [Option.some.injEq, Prod.mk.injEq, OpR.val.injEq] at ha
    obtain ⟨rfl, rfl⟩ := ha
    obtain ⟨l, hl, rfl⟩ := val_pstr hp
    obtain ⟨n, hn', rfl⟩ := val_pint hk
    have h1 := need_leq hn.two.1
    have h2 := need_lss hn.two.2
    rw [seSlen_dn, hl, hn'] at h2
    rw [hn'] at h1
    simp only [PV.i, PV.s, i64, SE.dn] at h1 h2
    have hlt : n.toNat < l.length := by omega
    refine ⟨.int .u8 l[n.toNat].toNat, ?_, ?_⟩
    · have hs : (⟨l.toArray⟩ : ByteArray)[n.toNat]? = some l[n.toNat] := by
        rw [getElem?_pos _ _ (by show n.toNat < l.toArray.size; simpa using hlt)]
        congr 1
      simp [Instr.index, asIntOf, run_underlying hu, h1, hs]
    · exact val_int_mk (by simp [SE.dn, O2.dn, hl, hn', PV.s, PV.i, List.getD_eq_getElem?_getD, hlt])
  · simp at ha

theorem indexAddr_ok (h : Rel P env p ρ H w) {t : TypeId} {x ix a : AV} {v k : Value} {ns : List SE} (hp : val P env p ρ x v) (hk : val P env p ρ ix k) (ha : indexAddrA P H t x ix = some (ns, .val a)) (hn : Needs env ns) :
    ∃ u, (Instr.indexAt t v k).run P w = .ok u w ∧ val P env p ρ a u := by
  unfold indexAddrA at ha
  split at ha
  · rename_i e e' s k' i hu
    split at ha
    · rename_i hee
      subst hee
      simp only [Option.some.injEq, Prod.mk.injEq, OpR.val.injEq] at ha
      obtain ⟨rfl, rfl⟩ := ha
      have hp' := hp
      simp only [val] at hp'
      obtain ⟨sz, ag, xs, hl, hsz, hag, hws, hs⟩ := val_plist hp
      obtain ⟨n, hn', rfl⟩ := val_pint hk
      have h1 := need_leq hn.two.1
      have h2 := need_lss hn.two.2
      rw [seLen_dn, hl, hn'] at h2
      rw [hn'] at h1
      simp only [PV.i, PV.l, i64, SE.dn] at h1 h2
      obtain ⟨ad, c, rfl, h3, h4, h5, h6⟩ := hs
      obtain ⟨b, o, rfl, hres⟩ := h6 (by omega)
      have hlt : n < (xs.length : Int) := h2
      refine ⟨.pointer (some ⟨b, o + n.toNat * sz, none⟩), ?_, ?_⟩
      · simp [Instr.indexAt, asIntOf, run_underlying hu, h1, hlt, sizeA_run hsz, Addr.add_lit]
      · simp only [val]
        refine ⟨b, o, sz, ag, xs, hl, by rw [← hl]; exact hp'.2, hres, by rw [hn']; exact h1, by rw [hn']; simp only [PV.i]; omega, by rw [hn']; simp [PV.i]⟩
    · simp at ha
  · rename_i e b n k' i hu
    simp only [Option.map_eq_some_iff, Prod.mk.injEq, OpR.val.injEq] at ha
    obtain ⟨sz, hsz, rfl, rfl⟩ := ha
    simp only [val] at hp
    obtain ⟨ad, c, m, ad', hi, hm, rfl, hnc, hc0, had⟩ := hp
    obtain ⟨j, hj, rfl⟩ := val_pint hk
    have h1 := need_leq hn.two.1
    have h2 := need_lss hn.two.2
    rw [hj] at h1 h2
    have h1 : 0 ≤ j := h1
    rw [hm] at h2
    have h2 : j < (m : Int) := h2
    -- the row has a block
    have had := had (by omega)
    subst had
    cases ad with
    | none =>
      have := hc0 rfl
      omega
    | some bb =>
      refine ⟨.pointer (some ⟨bb, j.toNat * sz, none⟩), ?_, ?_⟩
      · simp [Instr.indexAt, asIntOf, run_underlying hu, h1, h2, sizeA_run hsz, Addr.add_lit]
      · simp only [val]
        exact ⟨bb, c, hi, by rw [hj]; exact h1, by rw [hj, hm]; exact h2, by rw [hj]; simp [PV.i]⟩
  · simp at ha
end
end Go.Dv

/- Operators, conversions, lengths, slices. -/
set_option linter.unusedVariables false
set_option linter.unusedSimpArgs false
namespace Go.Dv

section
variable {P : Program} {env : List PV} {p : Pins} {ρ : Rho} {H : Heap} {w : World}

theorem beqL_dec (a b : List UInt8) : (a == b) = decide (a = b) := by rw [Bool.eq_iff_iff]; simp

theorem int_bin {op : BinOp} {k : IntKind} {t : TypeId} {a b : Int} {ox oy : Operand} {r : PV} (h : intOp op k a b = r)
    (hop : op = .add ∨ op = .sub ∨ op = .mul ∨ op = .and ∨ op = .or ∨ op = .xor ∨ op = .andNot ∨ op = .eql ∨ op = .neq ∨ op = .lss ∨ op = .leq ∨ op = .gtr ∨ op = .geq ∨ ((op = .quo ∨ op = .rem) ∧ b ≠ 0)) :
    (do eqGuard op t ox oy (.int k a) (.int k b); binOp op t (.int k a) (.int k b)).run P w = .ok (match r with | .int j n => .int j n | .bool c => .bool c | _ => undef) w := by
  subst h
  rcases hop with rfl | rfl | rfl | rfl | rfl | rfl | rfl | rfl | rfl | rfl | rfl | rfl | rfl | ⟨rfl | rfl, hb⟩ <;>
    simp [eqGuard_at_int, intOp, bitsI, binOp, Op.intArith, Op.intDiv, Op.intBits, Op.intCmp] <;>
    first | rfl | (intro h; exact absurd h hb) | (by_cases h : a = b <;> simp [h]) | skip

theorem str_bin {op : BinOp} {t : TypeId} {a b : List UInt8} {ox oy : Operand} (hop : cmpOp op = true) :
    (do eqGuard op t ox oy (.string ⟨a.toArray⟩) (.string ⟨b.toArray⟩); binOp op t (.string ⟨a.toArray⟩) (.string ⟨b.toArray⟩)).run P w = .ok (.bool (strOp op a b).b) w := by
  cases op <;> simp [cmpOp] at hop <;> simp [eqGuard_at_string, binOp, Op.stringOp, strOp, PV.b, beqL_dec]

theorem str_add {t : TypeId} {a b : List UInt8} {ox oy : Operand} (h : ((a ++ b).length : Int) ≤ most) :
    (do eqGuard .add t ox oy (.string ⟨a.toArray⟩) (.string ⟨b.toArray⟩); binOp .add t (.string ⟨a.toArray⟩) (.string ⟨b.toArray⟩)).run P w = .ok (.string ⟨(a ++ b).toArray⟩) w := by
  simp only [most, List.length_append] at h
  have hs : ¬ ((((⟨a.toArray⟩ : ByteArray).size + (⟨b.toArray⟩ : ByteArray).size : Nat) : Int) > IntKind.i64.max) := by
    rw [IntKind.max_i64]
    show ¬ (((a.toArray.size + b.toArray.size : Nat) : Int) > 9223372036854775807)
    simp only [List.size_toArray]
    omega
  have he : (⟨a.toArray⟩ ++ ⟨b.toArray⟩ : ByteArray) = ⟨(a ++ b).toArray⟩ := by
    apply ByteArray.ext
    rw [ByteArray.data_append]
    simp
  simp only [eqGuard_at_string, binOp_string_add, Op.stringOp, Sem.run_bind, Sem.run_pure, Result.andThen_ok]
  rw [if_neg hs, he]
  rfl

theorem flatField_agg {f : Field} (h : flatField P f = true) : isAggA P f.type = some false ∧ f.name ≠ "_" := by
  simp only [flatField, Bool.and_eq_true] at h
  refine ⟨?_, by simpa using h.1⟩
  have hty := h.2
  unfold isAggA
  cases hd : P.underlying f.type with
  | none => simp [hd] at hty
  | some d => cases d <;> simp [hd] at hty ⊢

theorem eqOne_ok {t : TypeId} {x y : AV} {u v : Value} {r : SE} {d : Nat} (hx : val P env p ρ x u) (hy : val P env p ρ y v) (h : eqOne P t x y = some r) :
    ∃ b, r.dn env = .bool b ∧ (Op.equalIn (d + 1) t u v).run P w = .ok b w := by
  unfold eqOne at h
  split at h
  · split at h
    · rename_i hu
      simp only [Option.some.injEq] at h
      subst h
      obtain ⟨a, ha, rfl⟩ := val_pbool hx
      obtain ⟨b, hb, rfl⟩ := val_pbool hy
      exact ⟨decide (a = b), by simp [SE.dn, O2.dn, ha, hb], by rw [run_equalIn_bool w d t a b hu]; congr 1⟩
    · simp at h
  · split at h
    · rename_i q hu
      split at h
      · rename_i hjk
        subst hjk
        simp only [Option.some.injEq] at h
        subst h
        obtain ⟨a, ha, rfl⟩ := val_pint hx
        obtain ⟨b, hb, rfl⟩ := val_pint hy
        exact ⟨decide (a = b), by simp [SE.dn, O2.dn, ha, hb], by rw [run_equalIn_int w d t _ q a b hu]; congr 1⟩
      · simp at h
    · simp at h
  · split at h
    · rename_i hu
      simp only [Option.some.injEq] at h
      subst h
      obtain ⟨a, ha, rfl⟩ := val_pstr hx
      obtain ⟨b, hb, rfl⟩ := val_pstr hy
      exact ⟨decide (a = b), by simp [SE.dn, O2.dn, ha, hb], by rw [run_equalIn_string w d t _ _ hu]; congr 1; rw [Bool.eq_iff_iff]; simp⟩
    · simp at h
  · simp at h

theorem eqCells_ok : ∀ (fs : List Field) (i : Nat) (xs ys : List AV) (us vs : Array Value) (r : SE) (d : Nat),
    flatFields P fs i = true → vals P env p ρ xs (us.toList.drop i) → vals P env p ρ ys (vs.toList.drop i) → eqCells P fs xs ys = some r →
    ∃ b, r.dn env = .bool b ∧ (Op.eqFields (d + 1) us vs fs).run P w = .ok b w
  | [], i, xs, ys, us, vs, r, d, hf, hx, hy, he => by
    cases xs <;> cases ys <;> simp [eqCells] at he
    subst he
    exact ⟨true, rfl, by simp [Op.eqFields]⟩
  | f :: fs, i, xs, ys, us, vs, r, d, hf, hx, hy, he => by
    cases xs with
    | nil => simp [eqCells] at he
    | cons x xs =>
      cases ys with
      | nil => simp [eqCells] at he
      | cons y ys =>
        simp only [flatFields, Bool.and_eq_true, beq_iff_eq] at hf
        obtain ⟨⟨hff, hoff⟩, hrest⟩ := hf
        obtain ⟨hag, hname⟩ := flatField_agg hff
        simp only [vals] at hx hy
        obtain ⟨u, ur, hu, hux, hur⟩ := hx
        obtain ⟨v, vr, hv, hvy, hvr⟩ := hy
        have hui : us[i]? = some u := by
          have := congrArg (fun l => l[0]?) hu
          simpa using this
        have hvi : vs[i]? = some v := by
          have := congrArg (fun l => l[0]?) hv
          simpa using this
        have hu1 : us.toList.drop (i + 1) = ur := by
          have := congrArg List.tail hu
          simpa using this
        have hv1 : vs.toList.drop (i + 1) = vr := by
          have := congrArg List.tail hv
          simpa using this
        have p1 : (part f.type us f.offset).run P w = .ok u w := by simp [part, isAggA_run hag, hoff, hui]
        have p2 : (part f.type vs f.offset).run P w = .ok v w := by simp [part, isAggA_run hag, hoff, hvi]
        simp only [eqCells] at he
        cases hq : eqOne P f.type x y with
        | none => simp [hq] at he
        | some q =>
          obtain ⟨b1, hb1, one⟩ := eqOne_ok (w := w) (d := d) hux hvy hq
          cases hc : eqCells P fs xs ys with
          | none => simp [hq, hc] at he
          | some r2 =>
            obtain ⟨b2, hb2, ih⟩ := eqCells_ok fs (i + 1) xs ys us vs r2 d hrest (by rw [hu1]; exact hur) (by rw [hv1]; exact hvr) hc
            rw [hq, hc] at he
            refine ⟨b1 && b2, ?_, ?_⟩
            · split at he
              · rename_i e e' h1 h2
                simp only [Option.some.injEq] at h1 h2 he
                subst h1 h2 he
                simp only [SE.dn] at hb2
                simp only [PV.bool.injEq] at hb2
                subst hb2
                simpa using hb1
              · rename_i e r' h1 h3 h2
                simp only [Option.some.injEq] at h3 h2 he
                subst h2 h3 he
                simp [SE.dn, O2.dn, hb1, hb2, PV.b]
              · simp at he
            · cases b1 <;> simp [Op.eqFields, hname, p1, p2, one, ih]

theorem maxDepth_succ : ∃ d, Op.maxDepth = d + 1 + 1 := ⟨9998, rfl⟩

theorem eqAgg_ok {op : BinOp} {t : TypeId} {xs ys : List AV} {us vs : Array Value} {r : SE} {ox oy : Operand} (hop : op = .eql ∨ op = .neq) (hx : vals P env p ρ xs us.toList) (hy : vals P env p ρ ys vs.toList)
    (he : eqAgg P t xs ys = some r) : ∃ b, r.dn env = .bool b ∧ (do eqGuard op t ox oy (.agg us) (.agg vs); binOp op t (.agg us) (.agg vs)).run P w = .ok (.bool (if op = .eql then b else !b)) w := by
  obtain ⟨d, hd⟩ := maxDepth_succ
  unfold eqAgg at he
  split at he
  · rename_i fs hu
    split at he
    · rename_i hfl
      simp only [Bool.and_eq_true, Bool.not_eq_true'] at hfl
      obtain ⟨⟨h1, h2⟩, h3⟩ := hfl
      have hfo : P.fieldsOf t = fs := by simp [Program.fieldsOf, hu]
      obtain ⟨b, hb, hc⟩ := eqCells_ok (w := w) fs.toList 0 xs ys us vs r d h1 (by simpa using hx) (by simpa using hy) he
      refine ⟨b, hb, ?_⟩
      have h4 := run_equalIn_struct (P := P) w (d + 1) t us vs (by rw [hfo]; exact hu) h3
      rw [hfo] at h4
      have h5 : (Op.equal t (.agg us) (.agg vs)).run P w = .ok b w := by simp only [Op.equal, hd]; rw [h4, hc]
      rw [Sem.run_bind, run_eqGuard_agg w op t ox oy us vs h2, Result.andThen_ok]
      rcases hop with rfl | rfl <;> simp [binOp, h5]
    · simp at he
  · simp at he

theorem nz {k : IntKind} {b : SE} {m : Int} (hmb : b.dn env = .int k m) (hn : Needs env [seNot (seInt .eql k b (.lit (.int k 0)))]) : m ≠ 0 := by
  have h0 : PV.bool (!(decide (m = 0))) = .bool true := by rw [← hn.one, seNot_dn, seInt_dn, hmb]; rfl
  simpa using h0

theorem bin_ok {op : BinOp} {t : TypeId} {x y a : AV} {u v : Value} {ox oy : Operand} {ns : List SE}
    (hx : val P env p ρ x u) (hy : val P env p ρ y v) (he : binA P op t x y = some (ns, .val a)) (hn : Needs env ns) :
    ∃ z, (do eqGuard op t ox oy u v; binOp op t u v).run P w = .ok z w ∧ val P env p ρ a z := by
  unfold binA at he
  split at he
  · rename_i k a' k' b
    split at he
    · rename_i hk
      subst hk
      obtain ⟨n, hna, rfl⟩ := val_pint hx
      obtain ⟨m, hmb, rfl⟩ := val_pint hy
      have hd : ∀ op, (seInt op k a' b).dn env = intOp op k n m := fun op => by rw [seInt_dn, hna, hmb]; rfl
      cases op <;> simp only [done, Option.some.injEq, Prod.mk.injEq, OpR.val.injEq, reduceCtorEq] at he
      all_goals
        obtain ⟨rfl, rfl⟩ := he
      case h_1.isTrue.quo => exact ⟨_, int_bin rfl (by simp [nz hmb hn]), val_int_mk (hd _)⟩
      case h_1.isTrue.rem => exact ⟨_, int_bin rfl (by simp [nz hmb hn]), val_int_mk (hd _)⟩
      all_goals
        first
        | exact ⟨_, int_bin rfl (by simp), val_int_mk (hd _)⟩
        | exact ⟨_, int_bin rfl (by simp), val_bool_mk (hd _)⟩
    · simp at he
  · rename_i a' b
    obtain ⟨l, hl, rfl⟩ := val_pstr hx
    obtain ⟨m, hm, rfl⟩ := val_pstr hy
    have hd : ∀ op, (seStr op a' b).dn env = strOp op l m := fun op => by rw [seStr_dn, hl, hm]; rfl
    split at he
    · simp only [Option.some.injEq, Prod.mk.injEq, OpR.val.injEq] at he
      obtain ⟨rfl, rfl⟩ := he
      have h0 := need_leq hn.one
      rw [seSlen_dn, hd] at h0
      exact ⟨_, str_add h0, val_str_mk (hd _)⟩
    · split at he
      · rename_i hop
        simp only [done, Option.some.injEq, Prod.mk.injEq, OpR.val.injEq] at he
        obtain ⟨rfl, rfl⟩ := he
        refine ⟨_, str_bin hop, val_bool_mk ?_⟩
        rw [hd]
        cases op <;> simp [cmpOp] at hop <;> rfl
      · simp at he
  · rename_i a' b
    obtain ⟨l, hl, rfl⟩ := val_pbool hx
    obtain ⟨m, hm, rfl⟩ := val_pbool hy
    split at he
    · rename_i hu
      simp only [done, Option.some.injEq, Prod.mk.injEq, OpR.val.injEq] at he
      obtain ⟨rfl, rfl⟩ := he
      refine ⟨.bool (l == m), ?_, val_bool_mk (by rw [seBool_dn, hl, hm]; rfl)⟩
      rw [eqGuard_at_bool]
      exact run_eql_bool w t l m hu
    · rename_i hu
      simp only [done, Option.some.injEq, Prod.mk.injEq, OpR.val.injEq] at he
      obtain ⟨rfl, rfl⟩ := he
      refine ⟨.bool (!(l == m)), ?_, val_bool_mk (by rw [seBool_dn, hl, hm]; rfl)⟩
      rw [eqGuard_at_bool]
      exact run_neq_bool w t l m hu
    · simp at he
  · rename_i as bs
    simp only [val] at hx hy
    obtain ⟨us, rfl, hus⟩ := hx
    obtain ⟨vs, rfl, hvs⟩ := hy
    split at he
    · simp only [Option.map_eq_some_iff, Prod.mk.injEq, OpR.val.injEq] at he
      obtain ⟨r, hr, rfl, rfl⟩ := he
      obtain ⟨b, hb, hrun⟩ := eqAgg_ok (w := w) (ox := ox) (oy := oy) (.inl rfl) hus hvs hr
      exact ⟨_, hrun, by simpa using val_bool_mk hb⟩
    · simp only [Option.map_eq_some_iff, Prod.mk.injEq, OpR.val.injEq] at he
      obtain ⟨r, hr, rfl, rfl⟩ := he
      obtain ⟨b, hb, hrun⟩ := eqAgg_ok (w := w) (ox := ox) (oy := oy) (.inr rfl) hus hvs hr
      exact ⟨_, hrun, by simpa using val_bool_mk (b := !b) (by rw [seNot_dn, hb]; rfl)⟩
    · simp at he
  · simp at he

theorem un_ok {op : UnOp} {x a : AV} {u : Value} {ns : List SE} (hx : val P env p ρ x u) (he : unA op x = some (ns, .val a)) : ∃ z, (Op.unary op u).run P w = .ok z w ∧ val P env p ρ a z := by
  unfold unA at he
  split at he
  · simp only [done, Option.some.injEq, Prod.mk.injEq, OpR.val.injEq] at he
    obtain ⟨rfl, rfl⟩ := he
    obtain ⟨b, hb, rfl⟩ := val_pbool hx
    exact ⟨.bool (!b), rfl, val_bool_mk (by rw [seNot_dn, hb]; rfl)⟩
  · simp only [done, Option.some.injEq, Prod.mk.injEq, OpR.val.injEq] at he
    obtain ⟨rfl, rfl⟩ := he
    rename_i k e
    obtain ⟨n, hn, rfl⟩ := val_pint hx
    exact ⟨.int k (k.wrap (-n)), by simp [Op.unary, Op.intArith], val_int_mk (by rw [seNeg_dn, hn]; rfl)⟩
  · simp at he

theorem mm_ok {b : Builtin} {xs : List AV} {vs : Array Value} {a : AV} {ts : Array TypeId} {t : TypeId} {ns : List SE} (hb : b = .max ∨ b = .min) (hx : vals P env p ρ xs vs.toList) (he : mmA b xs = some (ns, .val a)) :
    ∃ z, (if b = .max then Builtin.max_ ts t vs else Builtin.min_ ts t vs).run P w = .ok z w ∧ val P env p ρ a z := by
  unfold mmA at he
  split at he
  · rename_i j x k y
    simp only [vals] at hx
    obtain ⟨v1, r1, h1, e1, v2, r2, rfl, e2, rfl⟩ := hx
    obtain ⟨m, hm, rfl⟩ := val_pint e1
    obtain ⟨n, hn, rfl⟩ := val_pint e2
    have hv : vs = #[.int j m, .int k n] := by apply Array.ext'; simpa using h1
    subst hv
    split at he
    · rename_i hjk
      subst hjk
      split at he
      · simp only [done, Option.some.injEq, Prod.mk.injEq, OpR.val.injEq] at he
        obtain ⟨rfl, rfl⟩ := he
        exact ⟨_, by rw [if_pos rfl]; exact run_max_int2 (P := P) w ts t j j m n, val_int_mk (by rw [seMx_dn, hm, hn]; rfl)⟩
      · simp only [done, Option.some.injEq, Prod.mk.injEq, OpR.val.injEq] at he
        obtain ⟨rfl, rfl⟩ := he
        exact ⟨_, by rw [if_neg (by simp)]; exact run_min_int2 (P := P) w ts t j j m n, val_int_mk (by rw [seMn_dn, hm, hn]; rfl)⟩
      · simp at he
    · simp at he
  · simp at he

theorem len_ok {t : TypeId} {ts : Array TypeId} {x a : AV} {v : Value} {ty : TypeId} {vs : Array Value} {ns : List SE} (hts : ts[0]? = some t) (hvs : vs[0]? = some v)
    (hp : val P env p ρ x v) (ha : lenA P t x = some (ns, .val a)) : ∃ u, (Builtin.len_ ts ty vs).run P w = .ok u w ∧ val P env p ρ a u := by
  unfold lenA at ha
  split at ha
  · rename_i s hu
    simp only [done, Option.some.injEq, Prod.mk.injEq, OpR.val.injEq] at ha
    obtain ⟨rfl, rfl⟩ := ha
    obtain ⟨l, hl, rfl⟩ := val_pstr hp
    exact ⟨goInt (⟨l.toArray⟩ : ByteArray).size, by simp [Builtin.len_, hts, hvs, run_underlying hu], val_int_mk (by rw [seSlen_dn, hl]; simp [PV.s, goInt, ByteArray.size])⟩
  · rename_i e e' s hu
    simp only [done, Option.some.injEq, Prod.mk.injEq, OpR.val.injEq] at ha
    obtain ⟨rfl, rfl⟩ := ha
    obtain ⟨sz, ag, xs, hl, _, _, _, ad, c, rfl, _⟩ := val_plist hp
    exact ⟨goInt xs.length, by simp [Builtin.len_, hts, hvs, run_underlying hu], val_int_mk (by rw [seLen_dn, hl]; simp [PV.l, goInt])⟩
  · rename_i e i n hu
    simp only [done, Option.some.injEq, Prod.mk.injEq, OpR.val.injEq] at ha
    obtain ⟨rfl, rfl⟩ := ha
    simp only [val] at hp
    obtain ⟨ad, c, m, _, _, hm, rfl, _⟩ := hp
    exact ⟨goInt m, by simp [Builtin.len_, hts, hvs, run_underlying hu], val_int_mk hm⟩
  · rename_i e hu
    simp only [done, Option.some.injEq, Prod.mk.injEq, OpR.val.injEq] at ha
    obtain ⟨rfl, rfl⟩ := ha
    simp only [val] at hp
    subst hp
    exact ⟨goInt 0, by simp [Builtin.len_, hts, hvs, run_underlying hu], val_int_mk rfl⟩
  · rename_i e hu
    simp only [done, Option.some.injEq, Prod.mk.injEq, OpR.val.injEq] at ha
    obtain ⟨rfl, rfl⟩ := ha
    simp only [val] at hp
    obtain ⟨q, rfl⟩ := hp
    exact ⟨goInt 0, by simp [Builtin.len_, hts, hvs, run_underlying hu], val_int_mk rfl⟩
  · simp at ha
end
end Go.Dv

/- Slices, conversions, structs. -/
set_option linter.unusedVariables false
set_option linter.unusedSimpArgs false
namespace Go.Dv

section
variable {P : Program} {env : List PV} {p : Pins} {ρ : Rho} {H : Heap} {w : World}

theorem zeroA_run {t : TypeId} {a : AV} (h : zeroA P t = some a) : ∃ v, (zeroValue t).run P w = .ok v w ∧ val P env p ρ a v ∧ ∃ i, P.info? t = some i ∧ i.zero = some v := by
  unfold zeroA at h
  cases hi : P.info? t with
  | none => simp [hi] at h
  | some i =>
    cases hz : i.zero with
    | none => simp [hi, hz] at h
    | some v => simp [hi, hz] at h; exact ⟨v, by simp [zeroValue, typeInfo, hi, hz], ofV_val v a h, i, rfl, hz⟩

theorem setL_all : ∀ (xs zs : List AV) (o : Nat), zs.all oneA = true → xs.all oneA = true → (setL zs o xs).all oneA = true
  | [], zs, o, h, _ => by simpa [setL] using h
  | x :: xs, zs, o, h, hx => by
    simp only [setL]
    simp only [List.all_cons, Bool.and_eq_true] at hx
    refine setL_all xs _ _ ?_ hx.2
    rw [List.all_eq_true] at h ⊢
    intro y hy
    rcases List.mem_or_eq_of_mem_set hy with hy | rfl
    · exact h y hy
    · exact hx.1
theorem setL_length : ∀ (xs zs : List AV) (o : Nat), (setL zs o xs).length = zs.length
  | [], zs, o => by simp [setL]
  | x :: xs, zs, o => by simp [setL, setL_length xs]

theorem fill_cells : ∀ (xs : List AV) (vs : List Value) (zs : List AV) (us : Array Value) (off k : Nat), vals P env p ρ xs vs → vals P env p ρ zs us.toList →
    vals P env p ρ (setL zs (off + k) xs) ((vs.zipIdx k).foldl (fun cs p => cs.setIfInBounds (off + p.2) p.1) us).toList
  | [], vs, zs, us, off, k, hx, hz => by rw [vals_nil_inv hx]; simpa [setL] using hz
  | x :: xs, vs, zs, us, off, k, hx, hz => by
    simp only [vals] at hx
    obtain ⟨v, r, rfl, h1, h2⟩ := hx
    simp only [List.zipIdx_cons, List.foldl_cons, setL]
    have := fill_cells xs r (zs.set (off + k) x) (us.setIfInBounds (off + k) v) off (k + 1) h2 (by
      rw [Array.toList_setIfInBounds]
      exact vals_set hz (off + k) h1)
    simpa [Nat.add_assoc] using this

theorem fill_ok {place : Nat → Option (Nat × Nat)} : ∀ (ps : List (Nat × AV)) (qs : List (Nat × Value)) (zs cs : List AV) (us : Array Value),
    qs.map (·.1) = ps.map (·.1) → vals P env p ρ (ps.map (·.2)) (qs.map (·.2)) → vals P env p ρ zs us.toList → zs.all oneA = true → fillA place zs ps = some cs →
    ∃ rs, Instr.fill place us qs = some rs ∧ vals P env p ρ cs rs.toList ∧ cs.all oneA = true ∧ cs.length = zs.length
  | [], qs, zs, cs, us, h1, h2, h3, h4, h5 => by
    simp only [fillA, Option.some.injEq] at h5
    subst h5
    have : qs = [] := by simpa using h1
    subst this
    exact ⟨us, by simp [Instr.fill], h3, h4, rfl⟩
  | (i, x) :: ps, qs, zs, cs, us, h1, h2, h3, h4, h5 => by
    cases qs with
    | nil => simp at h1
    | cons q qs =>
      obtain ⟨j, v⟩ := q
      simp only [List.map_cons, List.cons.injEq] at h1
      obtain ⟨rfl, h1⟩ := h1
      simp only [List.map_cons, vals] at h2
      obtain ⟨v', r', e, hv, hr⟩ := h2
      simp only [List.cons.injEq] at e
      obtain ⟨rfl, rfl⟩ := e
      simp only [fillA] at h5
      cases hp : place j with
      | none => simp [hp] at h5
      | some pl =>
        obtain ⟨off, size⟩ := pl
        cases hc : cellsA x with
        | none => simp [hp, hc] at h5
        | some xs =>
          simp only [hp, hc] at h5
          split at h5
          · rename_i hcond
            obtain ⟨hsz, hroom⟩ := hcond
            obtain ⟨g1, g2⟩ := cellsA_val hc hv
            have hlen := vals_length g1
            have hul := vals_length h3
            have hul' : us.size = us.toList.length := by simp
            have hvs' : v.cells.size = v.cells.toList.length := by simp
            have hvs : v.cells.size = size := by omega
            have hcnd : (v.cells.size ≠ size || decide (off + v.cells.size > us.size)) = false := by
              have : ¬ (off + v.cells.size > us.size) := by omega
              simp only [hvs, ne_eq, not_true_eq_false, decide_false, Bool.false_or, decide_eq_false_iff_not]
              omega
            have e : v.cells.zipIdx.foldl (fun cs (p : Value × Nat) => cs.setIfInBounds (off + p.2) p.1) us = (v.cells.toList.zipIdx 0).foldl (fun cs p => cs.setIfInBounds (off + p.2) p.1) us := by
              rw [← Array.foldl_toList]
              simp
            have g3 := fill_cells xs v.cells.toList zs us off 0 g1 h3
            rw [← e, Nat.add_zero] at g3
            obtain ⟨rs, k1, k2, k3, k4⟩ := fill_ok ps qs (setL zs off xs) cs _ h1 hr g3 (setL_all xs zs off h4 g2) h5
            refine ⟨rs, ?_, k2, k3, by rw [k4, setL_length]⟩
            simp only [Instr.fill, hp, hcnd, Bool.false_eq_true, if_false]
            exact k1
          · simp at h5

theorem places_ok : ∀ (fs : List Field) (pl : List (Nat × Nat)), placesA P fs = some pl → fs.mapM (fun f => (P.info? f.type).map fun i => (f.offset, i.size)) = some pl
  | [], pl, h => by simp [placesA] at h; subst h; simp
  | f :: fs, pl, h => by
    simp only [placesA, Option.bind_eq_some_iff, Option.map_eq_some_iff, sizeA] at h
    obtain ⟨n, ⟨i, hi, rfl⟩, r, hr, rfl⟩ := h
    simp [List.mapM_cons, hi, places_ok fs r hr]


/-- The parts of a literal beside the evaluator's. -/
def partsA (e : Operand → AV) (ps : Array (Nat × Operand)) : List (Nat × AV) := ps.toList.map fun p => (p.1, e p.2)
def partsV (ev : Operand → Value) (ps : Array (Nat × Operand)) : Array (Nat × Value) := ps.map fun (i, x) => (i, ev x)
theorem parts_rel {e : Operand → AV} {ev : Operand → Value} (ps : Array (Nat × Operand)) (h : ∀ x ∈ ps.map (·.2), val P env p ρ (e x) (ev x)) :
    (partsV ev ps).toList.map (·.1) = (partsA e ps).map (·.1) ∧ vals P env p ρ ((partsA e ps).map (·.2)) ((partsV ev ps).toList.map (·.2)) := by
  obtain ⟨l⟩ := ps
  simp only [partsV, partsA]
  refine ⟨by simp [Function.comp_def], ?_⟩
  simp only [List.map_toArray, List.map_map, Function.comp_def] at h ⊢
  have h' : ∀ q ∈ l, val P env p ρ (e q.2) (ev q.2) := fun q hq => h q.2 (by simp; exact ⟨q.1, hq⟩)
  clear h
  induction l with
  | nil => exact vals_nil
  | cons q l ih => simp only [List.map_cons]; exact vals_cons (h' q (by simp)) (ih fun x hx => h' x (by simp [hx]))

theorem zero_cells {t : TypeId} {zs : List AV} (h : (zeroA P t).bind cellsA = some zs) :
    ∃ z i, (zeroValue t).run P w = .ok z w ∧ P.info? t = some i ∧ i.zero = some z ∧ vals P env p ρ zs z.cells.toList ∧ zs.all oneA = true := by
  simp only [Option.bind_eq_some_iff] at h
  obtain ⟨a, ha, hc⟩ := h
  obtain ⟨v, h1, h2, i, h3, h4⟩ := zeroA_run (P := P) (ρ := ρ) (w := w) ha
  obtain ⟨h5, h6⟩ := cellsA_val hc h2
  exact ⟨v, i, h1, h3, h4, h5, h6⟩


theorem build_ok {t : TypeId} {ps : Array (Nat × Operand)} {e : Operand → AV} {ev : Operand → Value} {r : AV} (h : ∀ x ∈ ps.map (·.2), val P env p ρ (e x) (ev x)) (he : buildA P t (partsA e ps) = some r) :
    ∃ z, (Instr.build t (partsV ev ps)).run P w = .ok z w ∧ val P env p ρ r z := by
  unfold buildA at he
  split at he
  · rename_i fields zs hu hz
    split at he
    · rename_i pl hpl
      simp only [Option.map_eq_some_iff] at he
      obtain ⟨cs, hcs, rfl⟩ := he
      obtain ⟨z, i, h1, h2, h3, h4, h5⟩ := zero_cells (env := env) (p := p) (ρ := ρ) (w := w) hz
      obtain ⟨p1, p2⟩ := parts_rel ps h
      obtain ⟨rs, g1, g2, g3, _⟩ := fill_ok _ _ zs cs z.cells p1 p2 h4 h5 hcs
      refine ⟨.agg rs, run_build (P := P) w t _ rs ?_, by simp only [val]; exact ⟨rs, rfl, g2⟩⟩
      unfold Program.built
      simp only [h2, hu, h3, places_ok _ _ hpl]
      have e : (fun x : Nat => pl.toArray[x]?) = (fun x => pl[x]?) := by funext x; simp
      rw [e]
      exact g1
    · simp at he
  · simp at he

/-! ### Slices -/
theorem REs_take {q : Nat → Option Value} {sz : Nat} {ag : Bool} : ∀ (xs : List PV) (o n : Nat), REs p q sz ag o xs → REs p q sz ag o (xs.take n)
  | [], o, n, h => by simpa using h
  | x :: xs, o, 0, h => by simp [REs]
  | x :: xs, o, n + 1, h => by simp only [List.take_succ_cons, REs] at h ⊢; exact ⟨h.1, REs_take xs _ n h.2⟩
theorem REs_drop {q : Nat → Option Value} {sz : Nat} {ag : Bool} : ∀ (xs : List PV) (o n : Nat), REs p q sz ag o xs → REs p q sz ag (o + n * sz) (xs.drop n)
  | [], o, n, h => by simp [REs]
  | x :: xs, o, 0, h => by simpa using h
  | x :: xs, o, n + 1, h => by
    simp only [List.drop_succ_cons, REs] at h ⊢
    have := REs_drop xs _ n h.2
    rwa [show o + sz + n * sz = o + (n + 1) * sz by rw [Nat.add_mul]; omega] at this
theorem wtEs_all {e : TypeId} {ks : Option (List Kn)} : ∀ (xs : List PV), wtEs P e ks xs = true ↔ ∀ x ∈ xs, wtE P e ks x = true
  | [] => by simp [wtEs]
  | x :: xs => by simp [wtEs, wtEs_all xs]
theorem wtEs_sub {e : TypeId} {ks : Option (List Kn)} {xs ys : List PV} (h : wtEs P e ks xs = true) (hs : ∀ y ∈ ys, y ∈ xs) : wtEs P e ks ys = true := by
  rw [wtEs_all] at h ⊢
  exact fun y hy => h y (hs y hy)
theorem wt_list_mk {t : TypeId} {sz : Nat} {ag : Bool} {xs : List PV} (h1 : sizeA P t = some sz) (h2 : isAggA P t = some ag) (h3 : wtEs P t (cellK P t) xs = true) : wt P (.list t) (.list sz ag xs) = true := by
  simp [wt, h1, h2, h3]

theorem extract_mk (l : List UInt8) (a b : Nat) : (⟨l.toArray⟩ : ByteArray).extract a b = ⟨((l.take b).drop a).toArray⟩ := by
  apply ByteArray.ext
  rw [ByteArray.data_extract]
  apply Array.ext'
  simp [List.extract_eq_take_drop, List.drop_take]

def orel (P : Program) (env : List PV) (p : Pins) (ρ : Rho) : Option AV → Option Value → Prop
  | none, none => True
  | some a, some v => val P env p ρ a v
  | _, _ => False

theorem bnd_run {x : Option AV} {v : Option Value} {miss r : SE} {mi top : Nat} {code : BoundsCode} (h : orel P env p ρ x v) (hb : bnd x miss = some r) (hm : miss.dn env = .int .i64 mi) (h0 : 0 ≤ (r.dn env).i) (ht : (r.dn env).i ≤ top) :
    (match v with | some k => (Instr.sliceBound k top code).run P w = .ok (r.dn env).i.toNat w | none => (r.dn env).i.toNat = mi) := by
  cases x with
  | none =>
    cases v with
    | some k => simp [orel] at h
    | none => simp only [bnd, Option.some.injEq] at hb; subst hb; simp [hm, PV.i]
  | some a =>
    cases v with
    | none => simp [orel] at h
    | some k =>
      simp only [orel] at h
      simp only [bnd] at hb
      unfold intOf at hb
      split at hb
      · rename_i kk e
        simp only [Option.some.injEq] at hb
        subst hb
        obtain ⟨j, hj, rfl⟩ := val_pint h
        rw [hj] at h0 ht ⊢
        exact run_sliceBound w kk j top code h0 ht
      · simp at hb

theorem bounds_run {isS : Bool} {len cap : Nat} {lo hi : Option AV} {lo' hi' : Option Value} {a b ms : SE} (hlo : orel P env p ρ lo lo') (hhi : orel P env p ρ hi hi')
    (hl : bnd lo (i64 0) = some a) (hh : bnd hi ms = some b) (hms : ms.dn env = .int .i64 len) (h0 : 0 ≤ (a.dn env).i) (h1 : (a.dn env).i ≤ (b.dn env).i) (h2 : (b.dn env).i ≤ len) (hc : len ≤ cap) :
    (Instr.sliceBounds isS len cap lo' hi' none).run P w = .ok ((a.dn env).i.toNat, (b.dn env).i.toNat, cap) w := by
  have ha := fun code => bnd_run (P := P) (env := env) (p := p) (ρ := ρ) (w := w) (code := code) (top := (b.dn env).i.toNat) hlo hl (mi := 0) rfl h0 (by omega)
  have hb := fun code => bnd_run (P := P) (env := env) (p := p) (ρ := ρ) (w := w) (code := code) (top := cap) hhi hh hms (by omega) (by omega)
  cases hi' with
  | none =>
    have e := hb .sliceAlen
    simp only at e
    cases lo' with
    | none => have e2 := ha .sliceB; simp only at e2; simp [Instr.sliceBounds, e, e2]
    | some kl => simp only at ha; rw [e] at ha ⊢; simp [Instr.sliceBounds, ha]
  | some k =>
    simp only at hb
    cases lo' with
    | none => have e2 := ha .sliceB; simp only at e2; simp [Instr.sliceBounds, hb, e2]
    | some kl => simp only at ha; simp [Instr.sliceBounds, hb, ha]
end
end Go.Dv

/- Slices and conversions. -/
set_option linter.unusedVariables false
set_option linter.unusedSimpArgs false
namespace Go.Dv

section
variable {P : Program} {env : List PV} {p : Pins} {ρ : Rho} {H : Heap} {w : World}

theorem sub_slice {v : Value} {sz : Nat} {ag : Bool} {xs : List PV} (h : IsSlice v xs.length sz fun b o => REs p (p b) sz ag o xs) {l h' : Nat} (hl : l ≤ h') (hh : h' ≤ xs.length) :
    ∃ a n c, v = .slice a n c ∧ n = xs.length ∧ n ≤ c ∧ IsSlice (.slice (if c = l then a else a.map (·.add (l * sz))) (h' - l) (c - l)) ((xs.take h').drop l).length sz fun b o => REs p (p b) sz ag o ((xs.take h').drop l) := by
  obtain ⟨a, c, rfl, h1, h2, h3, h4⟩ := h
  have hlen : ((xs.take h').drop l).length = h' - l := by simp; omega
  refine ⟨a, _, c, rfl, rfl, h1, ?_⟩
  rw [hlen]
  refine ⟨_, _, rfl, by omega, h2, ?_, fun hn => ?_⟩
  · intro hnone
    split at hnone
    · omega
    · simp only [Option.map_eq_none_iff] at hnone
      have := h3 hnone
      omega
  · obtain ⟨b, o, rfl, hr⟩ := h4 (by omega)
    refine ⟨b, o + l * sz, ?_, ?_⟩
    · rw [if_neg (by omega)]
      simp [Addr.add_lit]
    · exact REs_drop _ _ _ (REs_take _ _ _ hr)

theorem slice_ok {t : TypeId} {x a : AV} {lo hi mx : Option AV} {lo' hi' mx' : Option Value} {v : Value} {ns : List SE} (hp : val P env p ρ x v)
    (hlo : orel P env p ρ lo lo') (hhi : orel P env p ρ hi hi') (hmx : orel P env p ρ mx mx') (ha : sliceA P H t x lo hi mx = some (ns, .val a)) (hn : Needs env ns) :
    ∃ u, (Instr.sliceAt t v lo' hi' mx').run P w = .ok u w ∧ val P env p ρ a u := by
  unfold sliceA at ha
  split at ha
  · -- xs[:0:0]
    have hmx0 : mx' = some (.int .i64 0) := by
      cases mx' with
      | none => simp [orel] at hmx
      | some k =>
        simp only [orel] at hmx
        obtain ⟨j, hj, rfl⟩ := val_pint hmx
        simp [SE.dn] at hj
        rw [← hj]
    subst hmx0
    have fin : ∀ (e : TypeId) (ad : Option Addr) (n c : Nat), P.underlying t = some (.slice e) → lo = none → hi = some (.pv (.int .i64) (.lit (.int .i64 0))) → (∃ sz, sizeA P e = some sz) →
        ∃ u, (Instr.sliceAt t (.slice ad n c) lo' hi' (some (.int .i64 0))).run P w = .ok u w ∧ val P env p ρ .emp u := by
      intro e ad n c hu hlo0 hhi0 hsz
      obtain ⟨sz, hsz⟩ := hsz
      subst hlo0 hhi0
      have hlo1 : lo' = none := by cases lo' <;> simp [orel] at hlo ⊢
      have hhi1 : hi' = some (.int .i64 0) := by
        cases hi' with
        | none => simp [orel] at hhi
        | some k =>
          simp only [orel] at hhi
          obtain ⟨j, hj, rfl⟩ := val_pint hhi
          simp [SE.dn] at hj
          rw [← hj]
      subst hlo1 hhi1
      have b1 : ∀ code top, (Instr.sliceBound (.int .i64 0) top code).run P w = .ok 0 w := fun code top => by
        have := run_sliceBound (P := P) w .i64 0 top code (by omega) (by omega)
        simpa using this
      refine ⟨.slice ad 0 0, ?_, by simp [val]⟩
      simp [Instr.sliceAt, Instr.slice, run_underlying hu, Instr.sliceBounds, b1, sizeA_run hsz]
    split at ha
    · rename_i e k s hu
      split at ha
      · rename_i sz hsz
        simp only [done, Option.some.injEq, Prod.mk.injEq, OpR.val.injEq] at ha
        obtain ⟨rfl, rfl⟩ := ha
        obtain ⟨_, _, xs, _, _, _, _, ad, c, rfl, _⟩ := val_plist hp
        exact fin e _ _ _ hu rfl rfl ⟨sz, hsz⟩
      · simp at ha
    · rename_i e hu
      split at ha
      · rename_i sz hsz
        simp only [done, Option.some.injEq, Prod.mk.injEq, OpR.val.injEq] at ha
        obtain ⟨rfl, rfl⟩ := ha
        simp only [val] at hp
        subst hp
        exact fin e _ _ _ hu rfl rfl ⟨sz, hsz⟩
      · simp at ha
    · rename_i e i n hu
      split at ha
      · rename_i sz hsz
        simp only [done, Option.some.injEq, Prod.mk.injEq, OpR.val.injEq] at ha
        obtain ⟨rfl, rfl⟩ := ha
        simp only [val] at hp
        obtain ⟨ad, c, m, _, _, _, rfl, _⟩ := hp
        exact fin e _ _ _ hu rfl rfl ⟨sz, hsz⟩
      · simp at ha
    · simp at ha
  · simp at ha
  · have hmx0 : mx' = none := by cases mx' <;> simp [orel] at hmx ⊢
    subst hmx0
    split at ha
    · rename_i s hu
      split at ha
      · rename_i l h hl hh
        simp only [Option.some.injEq, Prod.mk.injEq, OpR.val.injEq] at ha
        obtain ⟨rfl, rfl⟩ := ha
        obtain ⟨xs, hx, rfl⟩ := val_pstr hp
        have n0 := need_leq hn.three.1
        have n1 := need_leq hn.three.2.1
        have n2 := need_leq hn.three.2.2
        have hsl : (seSlen s).dn env = .int .i64 (xs.length : Nat) := by rw [seSlen_dn, hx]; rfl
        rw [hsl] at n2
        have hsz : (⟨xs.toArray⟩ : ByteArray).size = xs.length := by simp [ByteArray.size]
        have := bounds_run (P := P) (env := env) (p := p) (ρ := ρ) (w := w) (isS := false) (cap := xs.length) hlo hhi hl hh hsl n0 n1 n2 (Nat.le_refl _)
        refine ⟨.string ⟨((xs.take (h.dn env).i.toNat).drop (l.dn env).i.toNat).toArray⟩, ?_, val_str_mk (by simp [SE.dn, O3.dn, hx, PV.s])⟩
        simp [Instr.sliceAt, Instr.slice, run_underlying hu, hsz, this, extract_mk]
      · simp at ha
    · rename_i e e' s hu
      split at ha
      · rename_i hee
        subst hee
        split at ha
        · rename_i l h hl hh
          simp only [Option.some.injEq, Prod.mk.injEq, OpR.val.injEq] at ha
          obtain ⟨rfl, rfl⟩ := ha
          obtain ⟨sz, ag, xs, hx, hsz, hag, hws, hs⟩ := val_plist hp
          have n0 := need_leq hn.three.1
          have n1 := need_leq hn.three.2.1
          have n2 := need_leq hn.three.2.2
          have hsl : (seLen s).dn env = .int .i64 (xs.length : Nat) := by rw [seLen_dn, hx]; rfl
          rw [hsl] at n2
          have n0' : 0 ≤ (l.dn env).i := n0
          have n2' : (h.dn env).i ≤ (xs.length : Int) := n2
          obtain ⟨ad, n, c, rfl, rfl, hc, hsub⟩ := sub_slice hs (l := (l.dn env).i.toNat) (h' := (h.dn env).i.toNat) (by omega) (by omega)
          have := bounds_run (P := P) (env := env) (p := p) (ρ := ρ) (w := w) (isS := true) (cap := c) hlo hhi hl hh hsl n0 n1 n2 hc
          refine ⟨_, by simp [Instr.sliceAt, Instr.slice, run_underlying hu, this, sizeA_run hsz]; rfl, ?_⟩
          have hd : (SE.o3 .sub s l h).dn env = .list sz ag ((xs.take (h.dn env).i.toNat).drop (l.dn env).i.toNat) := by simp [SE.dn, O3.dn, hx]
          simp only [val, hd, RV]
          exact ⟨hsub, wt_list_mk hsz hag (wtEs_sub hws fun y hy => List.mem_of_mem_take (List.mem_of_mem_drop hy))⟩
        · simp at ha
      · simp at ha
    · simp at ha

theorem foldl_bytes : ∀ (ns : List Int) (s : ByteArray), ns.foldl (fun r n => r.push (UInt8.ofNat n.toNat)) s = ⟨s.data ++ (ns.map fun n => UInt8.ofNat n.toNat).toArray⟩
  | [], s => by simp
  | n :: ns, s => by
    simp only [List.foldl_cons, List.map_cons]
    rw [foldl_bytes ns]
    apply ByteArray.ext
    show (s.push (UInt8.ofNat n.toNat)).data ++ _ = s.data ++ _
    rw [ByteArray.data_push]
    apply Array.ext'
    simp

theorem u8_kind {e : TypeId} (h : isU8 P e = true) : cellK P e = some [.int .u8] ∧ P.underlying e = some (.int .u8) := by
  unfold isU8 at h
  cases hu : P.underlying e with
  | none => simp [hu] at h
  | some d =>
    cases d <;> simp [hu] at h
    rename_i k
    cases k <;> simp at h
    exact ⟨by simp [cellK, cellKs, kindOf, hu], rfl⟩
theorem wtE_u8 {e : TypeId} {x : PV} (h : wtE P e (some [.int .u8]) x = true) (hn : ∀ cs, x ≠ .agg cs) : x = .int .u8 x.i := by
  obtain ⟨n, rfl⟩ := wt_int (wtE_one h hn)
  rfl
theorem bytes_cells {e : TypeId} {q : Nat → Option Value} {sz : Nat} {ag : Bool} : ∀ (xs : List PV) (o : Nat), ag = false → sz = 1 → REs p q sz ag o xs → wtEs P e (some [.int .u8]) xs = true →
    ∀ (j : Nat) (v : Value), ((xs.map fun x => x.i).map (Value.int .u8))[j]? = some v → q (o + j) = some v
  | [], o, _, _, _, _, j, v, hv => by simp at hv
  | x :: xs, o, hag, hsz, hr, hw, j, v, hv => by
    subst hag hsz
    simp only [REs] at hr
    simp only [wtEs, Bool.and_eq_true] at hw
    obtain ⟨_, u, hu, hru⟩ := RE_one hr.1
    have hx := wtE_u8 hw.1 (fun cs hc => by subst hc; simp [RV] at hru)
    cases j with
    | zero =>
      simp at hv
      subst hv
      rw [hx] at hru
      simp only [RV] at hru
      rw [Nat.add_zero, hu, hru]
    | succ j =>
      have := bytes_cells xs (o + 1) rfl rfl hr.2 hw.2 j v (by simpa using hv)
      rwa [show o + 1 + j = o + (j + 1) by omega] at this

theorem bytes_string {sd d e : TypeId} {sz : Nat} {ag : Bool} {xs : List PV} {b o n c : Nat} {q : Nat → Option Value} (h1 : P.underlying sd = some (.slice e)) (h2 : P.underlying d = some .string) (hu : isU8 P e = true) (hq : CellsAt w b q) (hn : n = xs.length)
    (hr : REs p q sz ag o xs) (hag : isAggA P e = some ag) (hsz : sz = 1) (hw : wtEs P e (cellK P e) xs = true) :
    (convert sd d (.slice (some ⟨b, o, none⟩) n c)).run P w = .ok (.string ⟨(bytesOfL xs).toArray⟩) w := by
  obtain ⟨hk, hu8⟩ := u8_kind hu
  have hagf : ag = false := by unfold isAggA at hag; rw [hu8] at hag; simpa using hag.symm
  rw [hk] at hw
  have hb := bytes_cells xs o hagf hsz hr hw
  have hc := run_loadCells_list (P := P) w ⟨b, o, none⟩ ((xs.map fun x => x.i).map (Value.int .u8)) (fun j v hv => by rw [Addr.add_lit]; exact hq _ _ (hb j v hv))
  simp only [List.length_map] at hc
  rw [← hn] at hc
  rw [run_convert_bytes_string w sd d e _ n c h1 hu8 h2, run_bytesToString w ⟨b, o, none⟩ n c _ hc, foldl_bytes]
  congr 2
  apply ByteArray.ext
  apply Array.ext'
  simp [bytesOfL]

theorem conv_ok (h : Rel P env p ρ H w) {s d : TypeId} {x a : AV} {u : Value} {ns : List SE} (hx : val P env p ρ x u) (he : convA P H s d x = some (ns, .val a)) :
    ∃ z, (convert s d u).run P w = .ok z w ∧ val P env p ρ a z := by
  unfold convA at he
  split at he
  · rename_i d1 k j e h1 h2
    simp only [done, Option.some.injEq, Prod.mk.injEq, OpR.val.injEq] at he
    obtain ⟨rfl, rfl⟩ := he
    obtain ⟨n, hn, rfl⟩ := val_pint hx
    refine ⟨.int k (k.wrap n), ?_, val_int_mk (by rw [seConv_dn, hn]; rfl)⟩
    cases d1 <;> simp [convert, run_underlying h1, run_underlying h2, Conv.intToInt]
  · rename_i d1 st h1 h2
    simp only [done, Option.some.injEq, Prod.mk.injEq, OpR.val.injEq] at he
    obtain ⟨rfl, rfl⟩ := he
    obtain ⟨l, hl, rfl⟩ := val_pstr hx
    refine ⟨.string ⟨l.toArray⟩, ?_, val_str_mk hl⟩
    cases d1 <;> simp [convert, run_underlying h1, run_underlying h2]
  · rename_i e e' st h1 h2
    split at he
    · rename_i hcond
      obtain ⟨rfl, hu⟩ := hcond
      simp only [done, Option.some.injEq, Prod.mk.injEq, OpR.val.injEq] at he
      obtain ⟨rfl, rfl⟩ := he
      obtain ⟨sz, ag, xs, hl, hsz, hag, hws, ad, c, rfl, g1, g2, g3, g4⟩ := val_plist hx
      refine ⟨.string ⟨(bytesOfL xs).toArray⟩, ?_, val_str_mk (by simp [SE.dn, O1.dn, hl, PV.l])⟩
      obtain ⟨hk, hu8⟩ := u8_kind hu
      cases xs with
      | nil =>
        cases ad with
        | none => simp [convert, run_underlying h1, run_underlying h2, run_underlying hu8, Conv.bytesToString, bytesOfL]; rfl
        | some ad =>
          have hc := run_loadCells_list (P := P) w ad [] (by simp)
          rw [run_convert_bytes_string w s d e _ _ c h1 hu8 h2, run_bytesToString w ad _ c [] (by simpa using hc)]
          rfl
      | cons y ys =>
        obtain ⟨b, o, rfl, hr⟩ := g4 (by simp)
        have hsz1 : sz = 1 := by
          have : ag = false := by unfold isAggA at hag; rw [hu8] at hag; simpa using hag.symm
          subst this
          simp only [REs] at hr
          exact (RE_one hr.1).1
        exact bytes_string h1 h2 hu (h.pinned b) rfl hr hag hsz1 hws
    · simp at he
  · rename_i e i n h1 h2
    split at he
    · rename_i c n' sz ag t wr hg
      split at he
      · rename_i hcond
        obtain ⟨rfl, rfl, hu⟩ := hcond
        simp only [done, Option.some.injEq, Prod.mk.injEq, OpR.val.injEq] at he
        obtain ⟨rfl, rfl⟩ := he
        simp only [val] at hx
        obtain ⟨ad, cp, m, ad', hi, hm, rfl, hmc, hc0, had⟩ := hx
        have hB := h.blk i _ _ hi hg
        simp only [blkRel] at hB
        obtain ⟨a', c', xs, e1, e2, e3, e4, r0, r1, r2, r3⟩ := hB
        rw [hi] at e1
        simp only [Option.some.injEq, Prod.mk.injEq] at e1
        obtain ⟨rfl, rfl⟩ := e1
        rw [hm] at e4
        simp only [PV.int.injEq, true_and] at e4
        have hmx : m = xs.length := by omega
        obtain ⟨sz', ag', xs', hxs, hsz, hag, hws⟩ := wt_list e3
        simp only [PV.list.injEq] at hxs
        obtain ⟨rfl, rfl, rfl⟩ := hxs
        refine ⟨.string ⟨(bytesOfL xs).toArray⟩, ?_, val_str_mk (by simp [SE.dn, O1.dn, e2, PV.l])⟩
        obtain ⟨hk, hu8⟩ := u8_kind hu
        cases xs with
        | nil =>
          simp only [List.length_nil] at hmx
          subst hmx
          cases ad' with
          | none => simp [convert, run_underlying h1, run_underlying h2, run_underlying hu8, Conv.bytesToString, bytesOfL]; rfl
          | some b =>
            have hc := run_loadCells_list (P := P) w b [] (by simp)
            rw [run_convert_bytes_string w s d t _ _ cp h1 hu8 h2, run_bytesToString w b _ cp [] (by simpa using hc)]
            rfl
        | cons y ys =>
          have had := had (by simp at hmx; omega)
          subst had
          cases ad with
          | none =>
            have := hc0 rfl
            simp at hmx
            omega
          | some b =>
            obtain ⟨cs, hb, _, hr, _⟩ := r3 b rfl
            have hsz1 : sz = 1 := by
              have : ag = false := by unfold isAggA at hag; rw [hu8] at hag; simpa using hag.symm
              subst this
              simp only [REs] at hr
              exact (RE_one hr.1).1
            exact bytes_string h1 h2 hu (row_cells hb) hmx hr hag hsz1 hws
      · simp at he
    · simp at he
  · simp at he
end
end Go.Dv
