/- Abstract values, the abstract heap and how they stand to the model's values and world. -/
import Derived.Calls
import Derived.Orders
import Derived.Defers
import Derived.Below
import Derived.KernelRfl
import Derived.Laws.Sem
import Derived.Laws.Entries
import Derived.Laws.Tables
import Derived.Laws.Rows
import Derived.Laws.Cells
import Derived.Laws.Append
import Derived.Laws.CopyRow
import Derived.Laws.AppendOwn
import Derived.Laws.Strings
import Derived.Laws.Slices
import Derived.Laws.StructEq
import Derived.Laws.Small
import Derived.Laws.Unary
import Derived.Laws.BytesString

set_option linter.unusedVariables false
set_option linter.unusedSimpArgs false
namespace Go.Ev

/-- A text: known bytes, or a name for bytes that are not known. -/
inductive AStr where
  | con (l : List UInt8)
  | atom (i : Nat)
  deriving DecidableEq, Inhabited

inductive AV where
  | any
  | bool (b : Bool)
  | int (k : IntKind) (n : Int)
  | str (s : AStr)
  | ptr (a : Option (Nat × Nat))
  | slice (a : Option (Nat × Nat)) (len cap : Nat) (exact : Bool) (sz : Nat)
  | map (r : Option Nat)
  | func (f : FuncId) (first captured : List AV)
  | nilFunc
  | iface (t : TypeId) (v : AV)
  | nilIface
  | agg (l : List AV)
  | tuple (l : List AV)
  | sym (i : Nat)
  deriving Inhabited

/-- What the names stand for, and the blocks of the world that stay as they are and have no number. -/
structure Env where
  str : Nat → List UInt8
  sym : Nat → Value
  pins : Nat → Option Obj := fun _ => none

def Env.bytes (E : Env) : AStr → List UInt8
  | .con l => l
  | .atom i => E.str i

mutual
def AV.beq : AV → AV → Bool
  | .any, .any => true
  | .bool a, .bool b => a == b
  | .int j a, .int k b => decide (j = k) && decide (a = b)
  | .str a, .str b => decide (a = b)
  | .ptr a, .ptr b => decide (a = b)
  | .slice a n c e z, .slice b m d f y => decide (a = b) && (n == m) && (c == d) && (e == f) && (z == y)
  | .map a, .map b => decide (a = b)
  | .func f a b, .func g c d => (f == g) && AV.beqL a c && AV.beqL b d
  | .nilFunc, .nilFunc => true
  | .iface t a, .iface u b => (t == u) && AV.beq a b
  | .nilIface, .nilIface => true
  | .agg a, .agg b => AV.beqL a b
  | .tuple a, .tuple b => AV.beqL a b
  | .sym a, .sym b => a == b
  | _, _ => false
def AV.beqL : List AV → List AV → Bool
  | [], [] => true
  | a :: as, b :: bs => AV.beq a b && AV.beqL as bs
  | _, _ => false
end

mutual
theorem AV.beq_eq : ∀ (a b : AV), AV.beq a b = true → a = b
  | .any, b, h => by cases b <;> simp [AV.beq] at h ⊢
  | .bool x, b, h => by cases b <;> simp [AV.beq] at h ⊢; exact h
  | .int j x, b, h => by cases b <;> simp [AV.beq] at h ⊢; exact h
  | .str x, b, h => by cases b <;> simp [AV.beq] at h ⊢; exact h
  | .ptr x, b, h => by cases b <;> simp [AV.beq] at h ⊢; exact h
  | .slice x n c e z, b, h => by cases b <;> simp [AV.beq] at h ⊢; exact ⟨h.1.1.1.1, h.1.1.1.2, h.1.1.2, h.1.2, h.2⟩
  | .map x, b, h => by cases b <;> simp [AV.beq] at h ⊢; exact h
  | .func f x y, b, h => by
    cases b <;> simp [AV.beq] at h ⊢
    exact ⟨h.1.1, AV.beqL_eq _ _ h.1.2, AV.beqL_eq _ _ h.2⟩
  | .nilFunc, b, h => by cases b <;> simp [AV.beq] at h ⊢
  | .iface t x, b, h => by
    cases b <;> simp [AV.beq] at h ⊢
    exact ⟨h.1, AV.beq_eq _ _ h.2⟩
  | .nilIface, b, h => by cases b <;> simp [AV.beq] at h ⊢
  | .agg x, b, h => by cases b <;> simp [AV.beq] at h ⊢; exact AV.beqL_eq _ _ h
  | .tuple x, b, h => by cases b <;> simp [AV.beq] at h ⊢; exact AV.beqL_eq _ _ h
  | .sym x, b, h => by cases b <;> simp [AV.beq] at h ⊢; exact h
theorem AV.beqL_eq : ∀ (a b : List AV), AV.beqL a b = true → a = b
  | [], b, h => by cases b <;> simp [AV.beqL] at h ⊢
  | x :: xs, b, h => by
    cases b <;> simp [AV.beqL] at h ⊢
    exact ⟨AV.beq_eq _ _ h.1, AV.beqL_eq _ _ h.2⟩
end

mutual
theorem AV.beq_refl : ∀ (a : AV), AV.beq a a = true
  | .any => by simp [AV.beq]
  | .bool x => by simp [AV.beq]
  | .int j x => by simp [AV.beq]
  | .str x => by simp [AV.beq]
  | .ptr x => by simp [AV.beq]
  | .slice x n c e z => by simp [AV.beq]
  | .map x => by simp [AV.beq]
  | .func f x y => by simp [AV.beq, AV.beqL_refl x, AV.beqL_refl y]
  | .nilFunc => by simp [AV.beq]
  | .iface t x => by simp [AV.beq, AV.beq_refl x]
  | .nilIface => by simp [AV.beq]
  | .agg x => by simp [AV.beq, AV.beqL_refl x]
  | .tuple x => by simp [AV.beq, AV.beqL_refl x]
  | .sym x => by simp [AV.beq]
theorem AV.beqL_refl : ∀ (a : List AV), AV.beqL a a = true
  | [] => by simp [AV.beqL]
  | x :: xs => by simp [AV.beqL, AV.beq_refl x, AV.beqL_refl xs]
end

/-- Where a block lies: its number in the world's heap, and how many cells it has there. -/
abbrev Rho := Nat → Option (Nat × Nat)

mutual
def val (E : Env) (ρ : Rho) : AV → Value → Prop
  | .any, _ => True
  | .bool b, v => v = .bool b
  | .int k n, v => v = .int k n
  | .str s, v => v = .string ⟨(E.bytes s).toArray⟩
  | .ptr none, v => v = .pointer none
  | .ptr (some (i, o)), v => ∃ b m, ρ i = some (b, m) ∧ v = .pointer (some ⟨b, o, none⟩)
  | .slice none n c _ _, v => n = 0 ∧ c = 0 ∧ v = .slice none 0 0
  | .slice (some (i, o)) n c ex sz, v => ∃ b m c', ρ i = some (b, m) ∧ v = .slice (some ⟨b, o, none⟩) n c' ∧ c ≤ c' ∧ (ex = true → c' = c) ∧ o + c' * sz ≤ m
  | .map none, v => v = .map none
  | .map (some i), v => ∃ b m, ρ i = some (b, m) ∧ v = .map (some b)
  | .func f xs ys, v => ∃ us ws, v = .func (.func f) us ws ∧ vals E ρ xs us.toList ∧ vals E ρ ys ws.toList
  | .nilFunc, v => v = .nilFunc
  | .iface t x, v => ∃ u, v = .iface t u ∧ val E ρ x u
  | .nilIface, v => v = .nilIface
  | .agg xs, v => ∃ us, v = .agg us ∧ vals E ρ xs us.toList
  | .tuple xs, v => ∃ us, v = .tuple us ∧ vals E ρ xs us.toList
  | .sym i, v => v = E.sym i
def vals (E : Env) (ρ : Rho) : List AV → List Value → Prop
  | [], vs => vs = []
  | a :: as, vs => ∃ v r, vs = v :: r ∧ val E ρ a v ∧ vals E ρ as r
end

def Rho.le (ρ ρ' : Rho) : Prop := ∀ i b, ρ i = some b → ρ' i = some b
theorem Rho.le_refl (ρ : Rho) : ρ.le ρ := fun _ _ h => h
theorem Rho.le_trans {a b c : Rho} (h : a.le b) (k : b.le c) : a.le c := fun i x hx => k i x (h i x hx)

mutual
theorem val_mono {E : Env} {ρ ρ' : Rho} (h : ρ.le ρ') : ∀ (a : AV) (v : Value), val E ρ a v → val E ρ' a v
  | .any, v, _ => by simp [val]
  | .bool b, v, hv => by simpa [val] using hv
  | .int k n, v, hv => by simpa [val] using hv
  | .str s, v, hv => by simpa [val] using hv
  | .ptr none, v, hv => by simpa [val] using hv
  | .ptr (some (i, o)), v, hv => by
    simp only [val] at hv ⊢
    obtain ⟨b, m, hb, e⟩ := hv
    exact ⟨b, m, h _ _ hb, e⟩
  | .slice none n c ex sz, v, hv => by simpa [val] using hv
  | .slice (some (i, o)) n c ex sz, v, hv => by
    simp only [val] at hv ⊢
    obtain ⟨b, m, c', hb, e⟩ := hv
    exact ⟨b, m, c', h _ _ hb, e⟩
  | .map none, v, hv => by simpa [val] using hv
  | .map (some i), v, hv => by
    simp only [val] at hv ⊢
    obtain ⟨b, m, hb, e⟩ := hv
    exact ⟨b, m, h _ _ hb, e⟩
  | .func f xs ys, v, hv => by
    simp only [val] at hv ⊢
    obtain ⟨us, ws, e, h1, h2⟩ := hv
    exact ⟨us, ws, e, vals_mono h _ _ h1, vals_mono h _ _ h2⟩
  | .nilFunc, v, hv => by simpa [val] using hv
  | .iface t x, v, hv => by
    simp only [val] at hv ⊢
    obtain ⟨u, e, h1⟩ := hv
    exact ⟨u, e, val_mono h _ _ h1⟩
  | .nilIface, v, hv => by simpa [val] using hv
  | .agg xs, v, hv => by
    simp only [val] at hv ⊢
    obtain ⟨us, e, h1⟩ := hv
    exact ⟨us, e, vals_mono h _ _ h1⟩
  | .tuple xs, v, hv => by
    simp only [val] at hv ⊢
    obtain ⟨us, e, h1⟩ := hv
    exact ⟨us, e, vals_mono h _ _ h1⟩
  | .sym i, v, hv => by simpa [val] using hv
theorem vals_mono {E : Env} {ρ ρ' : Rho} (h : ρ.le ρ') : ∀ (a : List AV) (v : List Value), vals E ρ a v → vals E ρ' a v
  | [], v, hv => by simpa [vals] using hv
  | x :: xs, v, hv => by
    simp only [vals] at hv ⊢
    obtain ⟨u, r, e, h1, h2⟩ := hv
    exact ⟨u, r, e, val_mono h _ _ h1, vals_mono h _ _ h2⟩
end

section
variable {E : Env} {ρ : Rho}
theorem vals_nil : vals E ρ [] [] := by simp [vals]
theorem vals_cons {a : AV} {as : List AV} {v : Value} {vs : List Value} (h : val E ρ a v) (hs : vals E ρ as vs) : vals E ρ (a :: as) (v :: vs) := by
  simp only [vals]; exact ⟨v, vs, rfl, h, hs⟩
theorem vals_nil_inv {vs : List Value} (h : vals E ρ [] vs) : vs = [] := by simpa [vals] using h
theorem vals_length {as : List AV} {vs : List Value} (h : vals E ρ as vs) : vs.length = as.length := by
  induction as generalizing vs with
  | nil => simp [vals_nil_inv h]
  | cons a as ih =>
    simp only [vals] at h
    obtain ⟨v, r, rfl, _, h2⟩ := h
    simp [ih h2]
theorem vals_get {as : List AV} {vs : List Value} (h : vals E ρ as vs) {k : Nat} {a : AV} (hk : as[k]? = some a) : ∃ v, vs[k]? = some v ∧ val E ρ a v := by
  induction as generalizing vs k with
  | nil => simp at hk
  | cons x xs ih =>
    simp only [vals] at h
    obtain ⟨v, r, rfl, h1, h2⟩ := h
    cases k with
    | zero => simp only [List.getElem?_cons_zero, Option.some.injEq] at hk; subst hk; exact ⟨v, by simp, h1⟩
    | succ k => simp only [List.getElem?_cons_succ] at hk ⊢; exact ih h2 hk
theorem vals_of_get {as : List AV} {vs : List Value} (hl : vs.length = as.length) (h : ∀ (k : Nat) (a : AV), as[k]? = some a → ∃ v, vs[k]? = some v ∧ val E ρ a v) : vals E ρ as vs := by
  induction as generalizing vs with
  | nil => simp at hl; subst hl; exact vals_nil
  | cons x xs ih =>
    cases vs with
    | nil => simp at hl
    | cons v r =>
      obtain ⟨u, hu, hv⟩ := h 0 x (by simp)
      simp only [List.getElem?_cons_zero, Option.some.injEq] at hu
      subst hu
      exact vals_cons hv (ih (by simpa using hl) fun k a hk => by simpa using h (k + 1) a (by simpa using hk))
theorem vals_append {as bs : List AV} {vs us : List Value} (h : vals E ρ as vs) (k : vals E ρ bs us) : vals E ρ (as ++ bs) (vs ++ us) := by
  induction as generalizing vs with
  | nil => rw [vals_nil_inv h]; simpa using k
  | cons x xs ih =>
    simp only [vals] at h
    obtain ⟨v, r, rfl, h1, h2⟩ := h
    exact vals_cons h1 (ih h2)
theorem vals_take {as : List AV} {vs : List Value} (h : vals E ρ as vs) (n : Nat) : vals E ρ (as.take n) (vs.take n) := by
  induction as generalizing vs n with
  | nil => rw [vals_nil_inv h]; simp [vals]
  | cons x xs ih =>
    simp only [vals] at h
    obtain ⟨v, r, rfl, h1, h2⟩ := h
    cases n with
    | zero => simp [vals]
    | succ n => simp only [List.take_succ_cons]; exact vals_cons h1 (ih h2 n)
theorem vals_drop {as : List AV} {vs : List Value} (h : vals E ρ as vs) (n : Nat) : vals E ρ (as.drop n) (vs.drop n) := by
  induction as generalizing vs n with
  | nil => rw [vals_nil_inv h]; simp [vals]
  | cons x xs ih =>
    simp only [vals] at h
    obtain ⟨v, r, rfl, h1, h2⟩ := h
    cases n with
    | zero => simpa using vals_cons h1 h2
    | succ n => simp only [List.drop_succ_cons]; exact ih h2 n
theorem vals_set {as : List AV} {vs : List Value} (h : vals E ρ as vs) (n : Nat) {a : AV} {v : Value} (ha : val E ρ a v) : vals E ρ (as.set n a) (vs.set n v) := by
  induction as generalizing vs n with
  | nil => rw [vals_nil_inv h]; simp [vals]
  | cons x xs ih =>
    simp only [vals] at h
    obtain ⟨u, r, rfl, h1, h2⟩ := h
    cases n with
    | zero => simp only [List.set_cons_zero]; exact vals_cons ha h2
    | succ n => simp only [List.set_cons_succ]; exact vals_cons h1 (ih h2 n)
theorem vals_any (vs : List Value) : vals E ρ (List.replicate vs.length .any) vs := by
  induction vs with
  | nil => exact vals_nil
  | cons v vs ih => simp only [List.length_cons, List.replicate_succ]; exact vals_cons (by simp [val]) ih
end

/-! ### The heap: a tree -/
inductive ABlk where
  | dead
  | cells (vs : List AV) (t : TypeId) (loose ro : Bool)
  | map (es : List (AV × AV))
  deriving Inhabited

inductive Tr where
  | nil
  | node (l : Tr) (v : Option ABlk) (r : Tr)
  deriving Inhabited

def Tr.get : Tr → Nat → Option ABlk
  | .nil, _ => none
  | .node l v r, k => if k = 0 then v else if k % 2 = 1 then l.get (k / 2) else r.get (k / 2 - 1)

def Tr.setF : Nat → Tr → Nat → ABlk → Tr
  | 0, t, _, _ => t
  | n + 1, t, k, b =>
    match t with
    | .nil => if k = 0 then .node .nil (some b) .nil else if k % 2 = 1 then .node (Tr.setF n .nil (k / 2) b) none .nil else .node .nil none (Tr.setF n .nil (k / 2 - 1) b)
    | .node l v r => if k = 0 then .node l (some b) r else if k % 2 = 1 then .node (Tr.setF n l (k / 2) b) v r else .node l v (Tr.setF n r (k / 2 - 1) b)

theorem Tr.get_setF : ∀ (n : Nat) (t : Tr) (k j : Nat) (b : ABlk), k < n → (Tr.setF n t k b).get j = if j = k then some b else t.get j := by
  intro n
  induction n with
  | zero => intro t k j b h; omega
  | succ n ih =>
    intro t k j b h
    cases t with
    | nil =>
      simp only [Tr.setF]
      by_cases hk : k = 0
      · subst hk
        simp only [if_true, Tr.get]
        by_cases hj : j = 0
        · simp [hj]
        · simp [hj]
      · rw [if_neg hk]
        by_cases ho : k % 2 = 1
        · rw [if_pos ho]
          simp only [Tr.get]
          by_cases hj : j = 0
          · subst hj; rw [if_pos rfl, if_neg (by omega)]
          · rw [if_neg hj]
            by_cases hjo : j % 2 = 1
            · rw [if_pos hjo, ih _ _ _ _ (by omega)]
              simp only [Tr.get]
              by_cases e : j = k
              · subst e; simp
              · rw [if_neg (by omega), if_neg e]
            · rw [if_neg hjo, if_neg (by omega)]
        · rw [if_neg ho]
          simp only [Tr.get]
          by_cases hj : j = 0
          · subst hj; rw [if_pos rfl, if_neg (by omega)]
          · rw [if_neg hj]
            by_cases hjo : j % 2 = 1
            · rw [if_pos hjo, if_neg (by omega)]
            · rw [if_neg hjo, ih _ _ _ _ (by omega)]
              simp only [Tr.get]
              by_cases e : j = k
              · subst e; simp
              · rw [if_neg (by omega), if_neg e]
    | node l v r =>
      simp only [Tr.setF]
      by_cases hk : k = 0
      · subst hk
        simp only [if_true, Tr.get]
        by_cases hj : j = 0
        · simp [hj]
        · simp [hj]
      · rw [if_neg hk]
        by_cases ho : k % 2 = 1
        · rw [if_pos ho]
          simp only [Tr.get]
          by_cases hj : j = 0
          · subst hj; rw [if_pos rfl, if_neg (by omega), if_pos rfl]
          · rw [if_neg hj]
            by_cases hjo : j % 2 = 1
            · rw [if_pos hjo, ih _ _ _ _ (by omega), if_neg hj, if_pos hjo]
              by_cases e : j = k
              · subst e; simp
              · rw [if_neg (by omega), if_neg e]
            · rw [if_neg hjo, if_neg (by omega), if_neg hj, if_neg hjo]
        · rw [if_neg ho]
          simp only [Tr.get]
          by_cases hj : j = 0
          · subst hj; rw [if_pos rfl, if_neg (by omega), if_pos rfl]
          · rw [if_neg hj]
            by_cases hjo : j % 2 = 1
            · rw [if_pos hjo, if_neg (by omega), if_neg hj, if_pos hjo]
            · rw [if_neg hjo, ih _ _ _ _ (by omega), if_neg hj, if_neg hjo]
              by_cases e : j = k
              · subst e; simp
              · rw [if_neg (by omega), if_neg e]

/-- next: the first number that is free. low: no block below it has been written since it was set. -/
structure Heap where
  next : Nat
  low : Nat
  tr : Tr
  deriving Inhabited

def Heap.get (H : Heap) (i : Nat) : Option ABlk := if i < H.next then H.tr.get i else none
def Heap.push (H : Heap) (b : ABlk) : Heap := { next := H.next + 1, low := H.low, tr := Tr.setF (H.next + 1) H.tr H.next b }
def Heap.set (H : Heap) (i : Nat) (b : ABlk) : Heap := { next := H.next, low := min H.low i, tr := Tr.setF (i + 1) H.tr i b }

theorem Heap.get_push (H : Heap) (b : ABlk) (j : Nat) : (H.push b).get j = if j = H.next then some b else H.get j := by
  show (if j < H.next + 1 then (Tr.setF (H.next + 1) H.tr H.next b).get j else none) = if j = H.next then some b else if j < H.next then H.tr.get j else none
  by_cases e : j = H.next
  · subst e
    rw [if_pos (by omega), Tr.get_setF _ _ _ _ _ (by omega), if_pos rfl, if_pos rfl]
  · rw [if_neg e]
    by_cases h : j < H.next
    · rw [if_pos (by omega), Tr.get_setF _ _ _ _ _ (by omega), if_neg e, if_pos h]
    · rw [if_neg (by omega), if_neg h]
theorem Heap.get_set (H : Heap) (i : Nat) (b : ABlk) (hi : i < H.next) (j : Nat) : (H.set i b).get j = if j = i then some b else H.get j := by
  show (if j < H.next then (Tr.setF (i + 1) H.tr i b).get j else none) = if j = i then some b else if j < H.next then H.tr.get j else none
  by_cases e : j = i
  · subst e
    rw [if_pos hi, Tr.get_setF _ _ _ _ _ (by omega), if_pos rfl, if_pos rfl]
  · rw [if_neg e]
    by_cases h : j < H.next
    · rw [if_pos h, Tr.get_setF _ _ _ _ _ (by omega), if_neg e, if_pos h]
    · rw [if_neg h, if_neg h]
theorem Heap.get_lt {H : Heap} {i : Nat} {b : ABlk} (h : H.get i = some b) : i < H.next := by
  unfold Heap.get at h
  split at h
  · assumption
  · simp at h

def ABlk.alive : ABlk → Bool
  | .dead => false
  | _ => true
def ABlk.readOnly : ABlk → Bool
  | .cells _ _ _ ro => ro
  | _ => false

def entsRel (E : Env) (ρ : Rho) : List (AV × AV) → List MapEntry → Prop
  | [], ms => ms = []
  | (k, x) :: es, ms => ∃ m r, ms = m :: r ∧ val E ρ k m.key ∧ val E ρ x m.val ∧ entsRel E ρ es r

theorem entsRel_mono {E : Env} {ρ ρ' : Rho} (h : ρ.le ρ') : ∀ (es : List (AV × AV)) (ms : List MapEntry), entsRel E ρ es ms → entsRel E ρ' es ms
  | [], ms, hm => hm
  | (k, x) :: es, ms, hm => by
    simp only [entsRel] at hm ⊢
    obtain ⟨m, r, e, h1, h2, h3⟩ := hm
    exact ⟨m, r, e, val_mono h _ _ h1, val_mono h _ _ h2, entsRel_mono h _ _ h3⟩

def blkRel (E : Env) (ρ : Rho) (w : World) (b m : Nat) : ABlk → Prop
  | .dead => True
  | .cells vs t loose _ => ∃ cs, w.heap[b]? = some (.cells cs t (0, 0)) ∧ cs.size = m ∧ vs.length ≤ m ∧ (loose = false → m = vs.length) ∧
      ∀ (k : Nat) (a : AV), vs[k]? = some a → ∃ v : Value, cs[k]? = some v ∧ val E ρ a v
  | .map es => ∃ ms clock, w.heap[b]? = some (.map ms clock) ∧ entsRel E ρ es ms.toList

theorem blkRel_mono {E : Env} {ρ ρ' : Rho} (h : ρ.le ρ') {w w' : World} {b m : Nat} (hb : w'.heap[b]? = w.heap[b]?) : ∀ B, blkRel E ρ w b m B → blkRel E ρ' w' b m B
  | .dead, _ => by simp [blkRel]
  | .cells vs t loose ro, hB => by
    simp only [blkRel] at hB ⊢
    obtain ⟨cs, h1, h2, h2', h3, h4⟩ := hB
    exact ⟨cs, hb.trans h1, h2, h2', h3, fun k a hk => let ⟨v, hv, hr⟩ := h4 k a hk; ⟨v, hv, val_mono h _ _ hr⟩⟩
  | .map es, hB => by
    simp only [blkRel] at hB ⊢
    obtain ⟨ms, c, h1, h2⟩ := hB
    exact ⟨ms, c, hb.trans h1, entsRel_mono h _ _ h2⟩

/-- What is read of the heap reads so in the world. -/
structure Rd (E : Env) (ρ : Rho) (H : Heap) (w : World) : Prop where
  blk : ∀ i b m B, ρ i = some (b, m) → H.get i = some B → blkRel E ρ w b m B
  inj : ∀ i j b m m' B C, ρ i = some (b, m) → ρ j = some (b, m') → H.get i = some B → H.get j = some C → B.alive = true → C.alive = true → i = j

structure Rel (E : Env) (ρ : Rho) (H : Heap) (w : World) : Prop extends Rd E ρ H w where
  dom : ∀ i b m, ρ i = some (b, m) → i < H.next ∧ b < w.heap.size
  pin : ∀ b o, E.pins b = some o → w.heap[b]? = some o ∧ ∀ i m, ρ i ≠ some (b, m)

/-- What may be written: the blocks of what is alive and not read-only. -/
def writes (ρ : Rho) (H : Heap) (b : Nat) : Prop := ∃ i m B, ρ i = some (b, m) ∧ H.get i = some B ∧ B.alive = true ∧ B.readOnly = false

/-- A step of the world beside a step of the heap. -/
structure Step (ρ : Rho) (H : Heap) (w : World) (ρ' : Rho) (H' : Heap) (w' : World) : Prop where
  os : w'.os = w.os
  tape : w'.tape = w.tape
  output : w'.output = w.output
  size : w.heap.size ≤ w'.heap.size
  le : ρ.le ρ'
  fresh : ∀ i x, ρ' i = some x → ρ i = some x ∨ H.next ≤ i
  next : H.next ≤ H'.next
  keep : ∀ b, b < w.heap.size → ¬ writes ρ H b → w'.heap[b]? = w.heap[b]?
  new : ∀ b, b < w.heap.size → writes ρ' H' b → writes ρ H b

theorem Step.refl (ρ : Rho) (H : Heap) (w : World) : Step ρ H w ρ H w :=
  ⟨rfl, rfl, rfl, Nat.le_refl _, Rho.le_refl _, fun _ _ h => .inl h, Nat.le_refl _, fun _ _ _ => rfl, fun _ _ h => h⟩

theorem Step.trans {ρ ρ' ρ'' : Rho} {H H' H'' : Heap} {w w' w'' : World} (h : Step ρ H w ρ' H' w') (k : Step ρ' H' w' ρ'' H'' w'') : Step ρ H w ρ'' H'' w'' where
  os := k.os.trans h.os
  tape := k.tape.trans h.tape
  output := k.output.trans h.output
  size := Nat.le_trans h.size k.size
  le := Rho.le_trans h.le k.le
  fresh := fun i b hb => by
    rcases k.fresh i b hb with h1 | h1
    · exact h.fresh i b h1
    · exact .inr (Nat.le_trans h.next h1)
  next := Nat.le_trans h.next k.next
  keep := fun b hb hn => (k.keep b (Nat.lt_of_lt_of_le hb h.size) (fun hw => hn (h.new b hb hw))).trans (h.keep b hb hn)
  new := fun b hb hw => h.new b hb (k.new b (Nat.lt_of_lt_of_le hb h.size) hw)

end Go.Ev

/- The evaluator: operations, regions, code, calls. -/
set_option linter.unusedVariables false
namespace Go.Ev

/-- What is known of names: operations on texts and numbers that are not known, and calls of functions that give scalars. -/
structure Facts where
  bin : BinOp → AV → AV → Option AV
  len : AV → Option AV
  lenS : Nat → Option AV
  index : AV → AV → Option AV
  slice : AV → Option AV → Option AV → Option AV
  call : FuncId → List AV → Heap → Option (AV × Heap)

def Facts.none : Facts := ⟨fun _ _ _ => .none, fun _ => .none, fun _ => .none, fun _ _ => .none, fun _ _ _ => .none, fun _ _ _ => .none⟩

mutual
def ofV : Value → Option AV
  | .bool b => some (.bool b)
  | .int k n => some (.int k n)
  | .string s => some (.str (.con s.data.toList))
  | .pointer none => some (.ptr none)
  | .slice none 0 0 => some (.slice none 0 0 true 0)
  | .map none => some (.map none)
  | .nilFunc => some .nilFunc
  | .nilIface => some .nilIface
  | .iface t v => (ofV v).map (AV.iface t)
  | .agg a => (ofVA a).map AV.agg
  | .tuple a => (ofVA a).map AV.tuple
  | _ => none
def ofVA : Array Value → Option (List AV)
  | ⟨l⟩ => ofVL l
def ofVL : List Value → Option (List AV)
  | [] => some []
  | v :: vs => (ofV v).bind fun a => (ofVL vs).map (a :: ·)
end

mutual
def toV : AV → Option Value
  | .bool b => some (.bool b)
  | .int k n => some (.int k n)
  | .str (.con l) => some (.string ⟨l.toArray⟩)
  | .ptr none => some (.pointer none)
  | .slice none 0 0 _ _ => some (.slice none 0 0)
  | .map none => some (.map none)
  | .nilFunc => some .nilFunc
  | .nilIface => some .nilIface
  | .agg l => (toVL l).map fun vs => .agg vs.toArray
  | .tuple l => (toVL l).map fun vs => .tuple vs.toArray
  | _ => none
def toVL : List AV → Option (List Value)
  | [] => some []
  | a :: as => (toV a).bind fun v => (toVL as).map (v :: ·)
end

/-! Values of ids below a bound alone. -/
mutual
def AV.up (n : Nat) : AV → Bool
  | .ptr (some (i, _)) => decide (i < n)
  | .slice (some (i, _)) _ _ _ _ => decide (i < n)
  | .map (some i) => decide (i < n)
  | .func _ xs ys => AV.upL n xs && AV.upL n ys
  | .iface _ a => AV.up n a
  | .agg l => AV.upL n l
  | .tuple l => AV.upL n l
  | _ => true
def AV.upL (n : Nat) : List AV → Bool
  | [] => true
  | a :: as => AV.up n a && AV.upL n as
end

/-- The part of the model's operations that looks at nothing but the program. -/
def pureSem {α : Type} (P : Program) : Sem α → Option α
  | .pure a => some a
  | .program k => pureSem P (k P)
  | .mark _ k => pureSem P k
  | _ => none

def undefA : AV := .tuple []

def evA (ts : List AV) : Operand → AV
  | .tmp t => ts.getD t .any
  | .const v => (ofV v).getD .any
  | .global _ => .any
  | .func f => .func f [] []

def oneA : AV → Bool
  | .any | .agg _ | .tuple _ => false
  | _ => true
def cellsA : AV → Option (List AV)
  | .any => none
  | .tuple _ => none
  | .agg l => if l.all oneA then some l else none
  | a => some [a]

def sizeA (P : Program) (t : TypeId) : Option Nat := (P.info? t).map (·.size)
def isAggA (P : Program) (t : TypeId) : Option Bool :=
  match P.underlying t with
  | some (.struct _) => some true
  | some (.array _ _) => some true
  | some _ => some false
  | none => none
def zeroA (P : Program) (t : TypeId) : Option AV := ((P.info? t).bind (·.zero)).bind ofV

def getCells (vs : List AV) (o n : Nat) : Option (List AV) :=
  let l := (vs.drop o).take n
  if l.length = n then some l else none
def setL : List AV → Nat → List AV → List AV
  | vs, _, [] => vs
  | vs, o, x :: xs => setL (vs.set o x) (o + 1) xs

def loadA (P : Program) (H : Heap) (t : TypeId) : AV → Option AV
  | .ptr (some (i, o)) =>
    match H.get i with
    | some (.cells vs _ _ _) =>
      match isAggA P t with
      | some true => (sizeA P t).bind fun n => (getCells vs o n).map AV.agg
      | some false => vs[o]?
      | none => none
    | _ => none
  | _ => none

def storeA (P : Program) (H : Heap) (t : TypeId) (p x : AV) : Option Heap :=
  match p with
  | .ptr (some (i, o)) =>
    match H.get i with
    | some (.cells vs e lo false) =>
      match cellsA x, sizeA P t with
      | some cs, some n => if cs.length = n ∧ o + n ≤ vs.length then some (H.set i (.cells (setL vs o cs) e lo false)) else none
      | _, _ => none
    | _ => none
  | _ => none

def fillA (place : Nat → Option (Nat × Nat)) : List AV → List (Nat × AV) → Option (List AV)
  | cs, [] => some cs
  | cs, (i, x) :: r =>
    match place i, cellsA x with
    | some (off, size), some xs => if xs.length = size ∧ off + size ≤ cs.length then fillA place (setL cs off xs) r else none
    | _, _ => none

def placesA (P : Program) : List Field → Option (List (Nat × Nat))
  | [] => some []
  | f :: fs => (sizeA P f.type).bind fun n => (placesA P fs).map ((f.offset, n) :: ·)

def buildA (P : Program) (t : TypeId) (parts : List (Nat × AV)) : Option AV :=
  match P.underlying t, (zeroA P t).bind cellsA with
  | some (.struct fields), some zs =>
    match placesA P fields.toList with
    | some pl => (fillA (pl[·]?) zs parts).map AV.agg
    | none => none
  | _, _ => none

def zerosA (zs : List AV) (n : Nat) : List AV := (List.range n).map fun k => zs.getD (k % zs.length) .any

/-- A new block, and the value that points to it. -/
abbrev NewA := Option ((Nat → AV) × ABlk)

def buildSliceA (P : Program) (t : TypeId) (len : Nat) (parts : List (Nat × AV)) : NewA :=
  match P.underlying t with
  | some (.slice e) =>
    match sizeA P e, (zeroA P e).bind cellsA with
    | some sz, some zs =>
      if len * sz > 2 ^ 24 ∨ zs.length ≠ sz then none else
      match fillA (fun i => some (i * sz, sz)) (zerosA zs (len * sz)) parts with
      | some cs => some (fun n => .slice (some (n, 0)) len len true sz, .cells cs e false false)
      | none => none
    | _, _ => none
  | _ => none

def allocA (P : Program) (t : TypeId) : NewA :=
  match (zeroA P t).bind cellsA with
  | some zs => some (fun n => .ptr (some (n, 0)), .cells zs t false false)
  | none => none

def boxA (t : TypeId) (x : AV) : NewA :=
  match cellsA x with
  | some cs => some (fun n => .ptr (some (n, 0)), .cells cs t false false)
  | none => none

def makeMapA (r : Option AV) : NewA :=
  match r with
  | none => some (fun n => .map (some n), .map [])
  | some _ => none

def makeSliceA (P : Program) (t : TypeId) (len cap : AV) : NewA :=
  match P.underlying t, len, cap with
  | some (.slice e), .int _ l, .int _ c =>
    match P.info? e, (zeroA P e).bind cellsA with
    | some i, some zs =>
      if 0 ≤ l ∧ l ≤ c ∧ c ≤ 2 ^ 24 ∧ i.bytes ≤ 2 ^ 12 ∧ zs.length = i.size then
        some (fun n => .slice (some (n, 0)) l.toNat c.toNat true i.size, .cells (zerosA zs (c.toNat * i.size)) e false false)
      else none
    | _, _ => none
  | _, _, _ => none

def intA : AV → Option Int
  | .int _ n => some n
  | _ => none

/-- The cells that an append puts behind. -/
def addedA (H : Heap) (sz : Nat) : AV → Option (Nat × List AV)
  | .slice none 0 0 _ _ => some (0, [])
  | .slice (some (i, o)) n _ _ _ =>
    match H.get i with
    | some (.cells vs _ _ _) => (getCells vs o (n * sz)).bind fun xs => if xs.all oneA then some (n, xs) else none
    | _ => none
  | .str (.con l) => if sz = 1 then some (l.length, l.map fun b => .int .u8 b.toNat) else none
  | _ => none

/-- The second argument of an append is not a number of zeros. -/
def plainArg (P : Program) : Option TypeId → Bool
  | none => true
  | some t => match P.underlying t with
    | some (.int _) => false
    | some _ => true
    | none => false

def appendA (P : Program) (H : Heap) (sT : TypeId) (xT : Option TypeId) (s x : AV) : Option (AV × Heap) :=
  match P.underlying sT with
  | some (.slice e) =>
    match P.info? e, (zeroA P e).bind cellsA, plainArg P xT with
    | some info, some zs, true =>
      let sz := info.size
      match addedA H sz x with
      | none => none
      | some (n, xs) =>
        if info.bytes > 2 ^ 12 ∨ zs.length ≠ sz then none else
        match s with
        | .slice none 0 0 _ _ =>
          if n = 0 then some (.slice none 0 0 true 0, H)
          else if n > 2 ^ 24 then none
          else some (.slice (some (H.next, 0)) n n false sz, H.push (.cells xs e true false))
        | .slice (some (i, o)) len c ex z =>
          match H.get i with
          | some (.cells vs e' lo ro) =>
            if z ≠ sz ∨ e' ≠ e then none else
            let p := o + len * sz
            if len + n ≤ c then
              if n = 0 then some (.slice (some (i, o)) len c ex sz, H)
              else if ro = false ∧ p + n * sz ≤ vs.length then some (.slice (some (i, o)) (len + n) c ex sz, H.set i (.cells (setL vs p xs) e' lo ro))
              else none
            else if len + n > 2 ^ 24 then none else
            match getCells vs o (len * sz) with
            | none => none
            | some old =>
              if ex then some (.slice (some (H.next, 0)) (len + n) (len + n) false sz, H.push (.cells (old ++ xs) e true false))
              else if o = 0 ∧ ro = false then some (.slice (some (H.next, 0)) (len + n) (len + n) false sz, (H.set i .dead).push (.cells (old ++ xs) e true false))
              else none
          | _ => none
        | _ => none
    | _, _, _ => none
  | _ => none

/-- A bound of a slice expression: what is given, or what stands for it. -/
def boundA (x : Option AV) (miss : Nat) (top : Nat) : Option Nat :=
  match x with
  | none => some miss
  | some (.int _ i) => if 0 ≤ i ∧ i ≤ top then some i.toNat else none
  | some _ => none

def sliceA (P : Program) (F : Facts) (t : TypeId) (x : AV) (lo hi mx : Option AV) : Option AV :=
  match P.underlying t, x with
  | some .string, .str (.con l) =>
    if mx.isSome then none else
    match boundA hi l.length l.length with
    | none => none
    | some h => match boundA lo 0 h with
      | none => none
      | some a => some (.str (.con ((l.take h).drop a)))
  | some .string, .str (.atom i) => if mx.isSome then none else F.slice (.str (.atom i)) lo hi
  | some (.slice e), .slice a n c ex z =>
    match boundA mx c c with
    | none => none
    | some m => match boundA hi n m with
      | none => none
      | some h => match boundA lo 0 h with
        | none => none
        | some l =>
          if (mx.isSome ∧ hi.isNone) ∨ ¬ h ≤ m then none else
          match a with
          | none => if n = 0 ∧ c = 0 ∧ (sizeA P e).isSome then some (.slice none 0 0 true 0) else none
          | some (i, o) =>
            let ex' := ex || mx.isSome
            match sizeA P e with
            | some sz =>
              if z ≠ sz then none
              else if l = 0 then some (.slice (some (i, o)) h m ex' sz)
              else if l < m then some (.slice (some (i, o + l * sz)) (h - l) (m - l) ex' sz)
              else if ex' then some (.slice (some (i, o)) (h - l) (m - l) ex' sz)
              else none
            | none => none
  | _, _ => none

def fieldAddrA (P : Program) (s : TypeId) (x : AV) (field : Nat) : Option AV :=
  match P.underlying s, x with
  | some (.struct fields), .ptr (some (i, o)) =>
    match fields[field]? with
    | some f => match sizeA P f.type with
      | some n => if n = 0 then none else some (.ptr (some (i, o + f.offset)))
      | none => none
    | none => none
  | _, _ => none

def partA (P : Program) (t : TypeId) (cs : List AV) (off : Nat) : Option AV :=
  match isAggA P t with
  | some true => (sizeA P t).bind fun n => (getCells cs off n).map AV.agg
  | some false => cs[off]?
  | none => none

def fieldA (P : Program) (t : TypeId) (x : AV) (field : Nat) : Option AV :=
  match P.underlying t, x with
  | some (.struct fields), .agg cs =>
    match fields[field]? with
    | some f => partA P f.type cs f.offset
    | none => none
  | _, _ => none

def indexAddrA (P : Program) (t : TypeId) (x ix : AV) : Option AV :=
  match P.underlying t, x, ix with
  | some (.slice e), .slice (some (i, o)) n _ _ _, .int _ k =>
    if 0 ≤ k ∧ k < n then (sizeA P e).map fun sz => .ptr (some (i, o + k.toNat * sz)) else none
  | _, _, _ => none

def indexA (P : Program) (F : Facts) (t : TypeId) (x ix : AV) : Option AV :=
  match P.underlying t, x, ix with
  | some .string, .str (.con l), .int _ k => if 0 ≤ k then (l[k.toNat]?).map fun b => .int .u8 b.toNat else none
  | some .string, .str (.atom i), .int k n => F.index (.str (.atom i)) (.int k n)
  | _, _, _ => none

/-- Are two keys the same? -/
def keyEq : AV → AV → Option Bool
  | .str (.con a), .str (.con b) => some (decide (a = b))
  | .int j a, .int k b => if j = k then some (decide (a = b)) else none
  | .ptr (some a), .ptr (some b) => some (decide (a = b))
  | _, _ => none

def findA (k : AV) : List (AV × AV) → Nat → Option (Option (Nat × AV))
  | [], _ => some none
  | (k', x) :: es, i =>
    match keyEq k k' with
    | some true => some (some (i, x))
    | some false => findA k es (i + 1)
    | none => none

/-- Keys that the evaluator takes: scalars, and pointers into blocks that are alive and have cells. -/
def keyOk (P : Program) (H : Heap) (t : TypeId) : AV → Bool
  | .str (.con _) => match P.underlying t with | some .string => true | _ => false
  | .int _ _ => match P.underlying t with | some (.int _) => true | _ => false
  | .ptr (some (i, o)) =>
    (match P.underlying t with | some (.pointer e) => (match sizeA P e with | some n => decide (0 < n) | none => false) | _ => false) &&
    (match H.get i with | some (.cells vs _ _ _) => decide (o < vs.length) | _ => false)
  | _ => false

def lookupA (P : Program) (H : Heap) (t : TypeId) (x ix : AV) (ok : Bool) : Option AV :=
  match P.underlying t, x with
  | some (.map kT eT), .map r =>
    let es : Option (List (AV × AV)) := match r with
      | none => some []
      | some i => match H.get i with | some (.map es) => some es | _ => none
    match es with
    | none => none
    | some es =>
      if keyOk P H kT ix && es.all (fun e => keyOk P H kT e.1) then
        match findA ix es 0 with
        | none => none
        | some (some (_, v)) => some (if ok then .tuple [v, .bool true] else v)
        | some none => (zeroA P eT).map fun z => if ok then .tuple [z, .bool false] else z
      else none
  | _, _ => none

def setAt (es : List (AV × AV)) (i : Nat) (k x : AV) : List (AV × AV) := es.set i (k, x)

def mapUpdateA (P : Program) (H : Heap) (t : TypeId) (m k x : AV) : Option Heap :=
  match P.underlying t, m with
  | some (.map kT eT), .map (some i) =>
    match H.get i with
    | some (.map es) =>
      if keyOk P H kT k && es.all (fun e => keyOk P H kT e.1) then
        match findA k es 0 with
        | none => none
        | some (some (j, _)) => some (H.set i (.map (setAt es j k x)))
        | some none => some (H.set i (.map (es ++ [(k, x)])))
      else none
    | _ => none
  | _, _ => none

def strBin (op : BinOp) (x y : List UInt8) : Option AV :=
  match op with
  | .add => if x.length + y.length ≤ 2 ^ 40 then some (.str (.con (x ++ y))) else none
  | .eql => some (.bool (decide (x = y)))
  | .neq => some (.bool (!decide (x = y)))
  | .lss => some (.bool (Op.bytesLess x y))
  | .leq => some (.bool (Op.bytesLess x y || decide (x = y)))
  | .gtr => some (.bool (!(Op.bytesLess x y || decide (x = y))))
  | .geq => some (.bool (!Op.bytesLess x y))
  | _ => none

/-- Structs of scalars alone. -/
def flatField (P : Program) (f : Field) : Bool :=
  f.name != "_" && (match P.underlying f.type with | some .bool => true | some (.int _) => true | some .string => true | _ => false)
def flatFields (P : Program) : List Field → Nat → Bool
  | [], _ => true
  | f :: fs, i => flatField P f && f.offset == i && flatFields P fs (i + 1)
def flatType (P : Program) (t : TypeId) : Bool :=
  match P.underlying t with
  | some (.struct fs) => flatFields P fs.toList 0 && !P.eqGuardType P.depth t && !P.stoodInHeld t
  | _ => false
def eqOne (P : Program) (F : Facts) (t : TypeId) : AV → AV → Option Bool
  | .bool a, .bool b => match P.underlying t with | some .bool => some (a == b) | _ => none
  | .int j a, .int k b => match P.underlying t with | some (.int _) => if j = k then some (decide (a = b)) else none | _ => none
  | .str (.con a), .str (.con b) => match P.underlying t with | some .string => some (decide (a = b)) | _ => none
  | .str a, .str b =>
    match P.underlying t with
    | some .string => if a = b then some true else match F.bin .eql (.str a) (.str b) with | some (.bool r) => some r | _ => none
    | _ => none
  | _, _ => none
def eqCells (P : Program) (F : Facts) : List Field → List AV → List AV → Option Bool
  | [], _, _ => some true
  | f :: fs, a :: as, b :: bs =>
    match eqOne P F f.type a b with
    | some true => eqCells P F fs as bs
    | some false => some false
    | none => none
  | _, _, _ => none

def isNilA : AV → Option Bool
  | .slice none _ _ _ _ => some true
  | .slice (some _) _ _ _ _ => some false
  | .map none => some true
  | .map (some _) => some false
  | .nilFunc => some true
  | .func _ _ _ => some false
  | .nilIface => some true
  | .iface _ _ => some false
  | _ => none

/-- Equality of values that lie in no text and no number. -/
def eqA (P : Program) (F : Facts) (H : Heap) (t : TypeId) (x y : AV) : Option Bool :=
  match P.underlying t, x, y with
  | some (.pointer _), .ptr none, .ptr b => some b.isNone
  | some (.pointer _), .ptr (some _), .ptr none => some false
  | some (.pointer e), .ptr (some (i, o)), .ptr (some (j, q)) =>
    match sizeA P e with
    | some n =>
      if n = 0 then none
      else match H.get i, H.get j with
        | some (.cells vs _ _ _), some (.cells us _ _ _) => if o < vs.length ∧ q < us.length then some (decide (i = j) && decide (o = q)) else none
        | _, _ => none
    | none => none
  | some (.slice _), .slice none _ _ _ _, .slice b _ _ _ _ => some b.isNone
  | some (.slice _), .slice (some _) _ _ _ _, .slice none _ _ _ _ => some false
  | some (.map _ _), .map none, .map b => some b.isNone
  | some (.map _ _), .map (some _), .map none => some false
  | some (.func _ _ _), .nilFunc, .nilFunc => some true
  | some (.func _ _ _), .nilFunc, .func _ _ _ => some false
  | some (.func _ _ _), .func _ _ _, .nilFunc => some false
  | some (.interface _), .nilIface, .iface _ _ => some false
  | some (.interface _), .iface _ _, .nilIface => some false
  | some (.struct fs), .agg a, .agg b => if flatType P t then eqCells P F fs.toList a b else none
  | _, _, _ => none

def binA (P : Program) (F : Facts) (H : Heap) (op : BinOp) (t : TypeId) (x y : AV) : Option AV :=
  match x, y with
  | .str (.con a), .str (.con b) => strBin op a b
  | .int j a, .int k b =>
    match pureSem P (binOp op t (.int j a) (.int k b)) with
    | some v => ofV v
    | none => none
  | .bool a, .bool b =>
    match P.underlying t, op with
    | some .bool, .eql => some (.bool (a == b))
    | some .bool, .neq => some (.bool (!(a == b)))
    | _, _ => none
  | .str (.atom a), .str (.atom b) => if a = b ∧ op = .eql then some (.bool true) else if a = b ∧ op = .neq then some (.bool false) else F.bin op x y
  | .str _, .str _ => F.bin op x y
  | .sym _, .int _ _ => F.bin op x y
  | .int _ _, .sym _ => F.bin op x y
  | .sym _, .sym _ => F.bin op x y
  | .sym _, .bool _ => F.bin op x y
  | .bool _, .sym _ => F.bin op x y
  | _, _ =>
    match op with
    | .eql => (eqA P F H t x y).map AV.bool
    | .neq => (eqA P F H t x y).map fun b => .bool (!b)
    | _ => none

def unA (P : Program) (op : UnOp) (x : AV) : Option AV :=
  match toV x with
  | some v => match pureSem P (Op.unary op v) with
    | some r => ofV r
    | none => none
  | none => none

def bytesOf : List AV → Option (List UInt8)
  | [] => some []
  | .int .u8 n :: r => (bytesOf r).map (UInt8.ofNat n.toNat :: ·)
  | _ :: _ => none

def convA (P : Program) (H : Heap) (src dst : TypeId) (x : AV) : Option AV :=
  match P.underlying src, P.underlying dst, x with
  | some _, some (.int k), .int _ n => some (.int k (k.wrap n))
  | some _, some .string, .str s => some (.str s)
  | some (.slice e), some .string, .slice a n _ _ z =>
    match P.underlying e, a with
    | some (.int .u8), none => some (.str (.con []))
    | some (.int .u8), some (i, o) =>
      match H.get i with
      | some (.cells vs _ _ _) => match getCells vs o n with
        | some cs => (bytesOf cs).map fun l => .str (.con l)
        | none => none
      | _ => none
    | _, _ => none
  | _, _, _ => none

def lenA (P : Program) (F : Facts) (H : Heap) (t : TypeId) (x : AV) : Option AV :=
  match P.underlying t, x with
  | some .string, .str (.con l) => some (.int .i64 l.length)
  | some .string, .str (.atom i) => F.len (.str (.atom i))
  | some (.slice _), .slice _ n _ _ _ => some (.int .i64 n)
  | some (.slice _), .sym i => F.lenS i
  | some (.map _ _), .map none => some (.int .i64 0)
  | some (.map _ _), .map (some i) => match H.get i with | some (.map es) => some (.int .i64 es.length) | _ => none
  | _, _ => none

def mm (b : Builtin) : List AV → Option AV
  | [.int j a, .int k c] => match b with
    | .max => some (.int j (if c > a then c else a))
    | .min => some (.int j (if c < a then c else a))
    | _ => none
  | _ => none

inductive OpR where
  | val (a : AV)
  | new (mk : Nat → AV) (B : ABlk)
  | wr (a : AV) (H : Heap)
  | skip (H : Heap)
  | enter (f : FuncId) (args : List AV)
  | defer (f : FuncId) (args : List AV)

def ret (a : Option AV) : Option OpR := a.map .val
def retN (r : NewA) : Option OpR := r.map fun x => .new x.1 x.2
def ret2 (r : Option (AV × Heap)) : Option OpR := r.map fun x => .wr x.1 x.2
def retH (r : Option Heap) : Option OpR := r.map .skip

def builtinA (P : Program) (F : Facts) (H : Heap) (b : Builtin) (ts : List TypeId) (args : List AV) : Option OpR :=
  match b, ts, args with
  | .len, t :: _, x :: _ => ret (lenA P F H t x)
  | .append, t :: us, [s, x] => ret2 (appendA P H t us.head? s x)
  | .max, _, as => ret (mm .max as)
  | .min, _, as => ret (mm .min as)
  | _, _, _ => none

def parts (e : Operand → AV) (ps : Array (Nat × Operand)) : List (Nat × AV) := ps.toList.map fun p => (p.1, e p.2)

def enters (P : Program) (f : FuncId) : Bool :=
  match P.funcs[f]? with
  | some fn => fn.body.isSome && fn.name != "runtime.NumGoroutine"
  | none => false

def opA (P : Program) (F : Facts) (e : Operand → AV) (o : Oper) (H : Heap) : Option OpR :=
  match o.op with
  | .move x => some (.val (e x))
  | .assign x => some (.val (e x))
  | .pick c a b => match e c with | .bool t => some (.val (if t then e a else e b)) | _ => none
  | .alloc t => retN (allocA P t)
  | .box t x => retN (boxA t (e x))
  | .build t ps => ret (buildA P t (parts e ps))
  | .buildSlice t n ps => retN (buildSliceA P t n (parts e ps))
  | .load t a => ret (loadA P H t (e a))
  | .store t a x => retH (storeA P H t (e a) (e x))
  | .nilCheck x => match e x with | .ptr (some a) => some (.val (.ptr (some a))) | .func f a b => some (.val (.func f a b)) | _ => none
  | .binOp op t x y _ => ret (binA P F H op t (e x) (e y))
  | .unOp op _ x => ret (unA P op (e x))
  | .convert s d x => ret (convA P H s d (e x))
  | .makeInterface t x => match P.underlying t with | some (.interface _) => none | none => none | some _ => some (.val (.iface t (e x)))
  | .makeFunc fn first captured => match fn with | .func f => some (.val (.func f (first.toList.map e) (captured.toList.map e))) | _ => none
  | .makeMap t r => retN (makeMapA (r.map e))
  | .makeSlice t l c => retN (makeSliceA P t (e l) (e c))
  | .slice t x lo hi mx => ret (sliceA P F t (e x) (lo.map e) (hi.map e) (mx.map e))
  | .fieldAddr s x f => ret (fieldAddrA P s (e x) f)
  | .field t x f => ret (fieldA P t (e x) f)
  | .indexAddr t x i => ret (indexAddrA P t (e x) (e i))
  | .index t x i => ret (indexA P F t (e x) (e i))
  | .lookup t x i ok => ret (lookupA P H t (e x) (e i) ok)
  | .mapUpdate t m k x => retH (mapUpdateA P H t (e m) (e k) (e x))
  | .insert t m k x => retH (mapUpdateA P H t (e m) (e k) (e x))
  | .extract t i => match e t with | .tuple l => ret (l[i]?) | _ => none
  | .call c =>
    match c.callee with
    | .builtin b => builtinA P F H b c.argTypes.toList (c.args.toList.map e)
    | .value f => match e f with
      | .func g xs ys => if enters P g then some (.enter g (xs ++ c.args.toList.map e ++ ys)) else none
      | _ => none
    | _ => none
  | .defer c =>
    match c.callee with
    | .value f => match e f with
      | .func g xs ys => if enters P g then some (.defer g (xs ++ c.args.toList.map e ++ ys)) else none
      | _ => none
    | _ => none
  | _ => none

structure St where
  ts : List AV
  ds : List (FuncId × List AV)
  H : Heap
  deriving Inhabited

def put (ts : List AV) (dst : Option Tmp) (a : AV) : List AV :=
  match dst with
  | some d => ts.set d a
  | none => ts

/-- Is an operation wanted? none: not known. -/
def wantedA (ops : Array Oper) (ts : List AV) (o : Oper) : Option Bool :=
  match o.guard with
  | none => some true
  | some (j, want) =>
    match (ops[j]?).bind (·.dst) with
    | none => some false
    | some d =>
      match ts[d]? with
      | none => some false
      | some (.bool b) => some (b == want)
      | some (.tuple _) => some false
      | _ => none

abbrev CallA := FuncId → List AV → Heap → Option (AV × Heap)

/-- One operation of a region: the value that it puts, and the state behind it. -/
def runOp (P : Program) (F : Facts) (call : CallA) (ops : Array Oper) (o : Oper) (s : St) : Option (AV × St) :=
  match wantedA ops s.ts o with
  | none => none
  | some false => some (undefA, { s with ts := put s.ts o.dst undefA })
  | some true =>
    match opA P F (evA s.ts) o s.H with
    | none => none
    | some (.val a) => some (a, { s with ts := put s.ts o.dst a })
    | some (.new mk B) => some (mk s.H.next, { s with ts := put s.ts o.dst (mk s.H.next), H := s.H.push B })
    | some (.wr a H) => some (a, { s with ts := put s.ts o.dst a, H := H })
    | some (.skip H) => some (undefA, { s with ts := put s.ts o.dst undefA, H := H })
    | some (.enter f args) =>
      match call f args s.H with
      | none => none
      | some (r, H) => some (r, { s with ts := put s.ts o.dst r, H := H })
    | some (.defer f args) => some (undefA, { s with ts := put s.ts o.dst undefA, ds := (f, args) :: s.ds })

/-- In the order of the text. -/
def runSeq (P : Program) (F : Facts) (call : CallA) (ops : Array Oper) : List Oper → St → Option St
  | [], s => some s
  | o :: os, s =>
    match runOp P F call ops o s with
    | none => none
    | some (_, s') => runSeq P F call ops os s'

inductive Ex where
  | normal
  | exit (id : Nat)
  | ret
  deriving Inhabited

def iter (f : St → Option (Ex × St)) : Nat → St → Option (Ex × St)
  | 0, _ => none
  | n + 1, s =>
    match f s with
    | none => none
    | some (.normal, s') => iter f n s'
    | some r => some r

end Go.Ev

/- What the operations' laws lean on. -/
set_option linter.unusedVariables false
set_option linter.unusedSimpArgs false
namespace Go.Ev

structure Env.Ok (E : Env) : Prop where
  one : ∀ i, (E.sym i).oneCell' = true

mutual
theorem ofV_val {E : Env} {ρ : Rho} : ∀ (v : Value) (a : AV), ofV v = some a → val E ρ a v
  | .bool b, a, h => by simp [ofV] at h; subst h; simp [val]
  | .int k n, a, h => by simp [ofV] at h; subst h; simp [val]
  | .float k n, a, h => by simp [ofV] at h
  | .complex k n m, a, h => by simp [ofV] at h
  | .string s, a, h => by simp [ofV] at h; subst h; simp [val, Env.bytes]
  | .pointer none, a, h => by simp [ofV] at h; subst h; simp [val]
  | .pointer (some _), a, h => by simp [ofV] at h
  | .slice none 0 0, a, h => by simp [ofV] at h; subst h; simp [val]
  | .slice none (n + 1) c, a, h => by simp [ofV] at h
  | .slice none 0 (c + 1), a, h => by simp [ofV] at h
  | .slice (some _) n c, a, h => by simp [ofV] at h
  | .map none, a, h => by simp [ofV] at h; subst h; simp [val]
  | .map (some _), a, h => by simp [ofV] at h
  | .chan r, a, h => by simp [ofV] at h
  | .func f x y, a, h => by simp [ofV] at h
  | .nilFunc, a, h => by simp [ofV] at h; subst h; simp [val]
  | .iface t v, a, h => by
    simp only [ofV, Option.map_eq_some_iff] at h
    obtain ⟨x, hx, rfl⟩ := h
    simp only [val]
    exact ⟨v, rfl, ofV_val v x hx⟩
  | .nilIface, a, h => by simp [ofV] at h; subst h; simp [val]
  | .agg c, a, h => by
    simp only [ofV, Option.map_eq_some_iff] at h
    obtain ⟨x, hx, rfl⟩ := h
    simp only [val]
    exact ⟨c, rfl, ofVA_val c x hx⟩
  | .tuple c, a, h => by
    simp only [ofV, Option.map_eq_some_iff] at h
    obtain ⟨x, hx, rfl⟩ := h
    simp only [val]
    exact ⟨c, rfl, ofVA_val c x hx⟩
theorem ofVA_val {E : Env} {ρ : Rho} : ∀ (v : Array Value) (a : List AV), ofVA v = some a → vals E ρ a v.toList
  | ⟨l⟩, a, h => by simp only [ofVA] at h; exact ofVL_val l a h
theorem ofVL_val {E : Env} {ρ : Rho} : ∀ (v : List Value) (a : List AV), ofVL v = some a → vals E ρ a v
  | [], a, h => by simp [ofVL] at h; subst h; exact vals_nil
  | v :: vs, a, h => by
    simp only [ofVL, Option.bind_eq_some_iff, Option.map_eq_some_iff] at h
    obtain ⟨x, hx, y, hy, rfl⟩ := h
    exact vals_cons (ofV_val v x hx) (ofVL_val vs y hy)
end

mutual
theorem toV_val {E : Env} {ρ : Rho} : ∀ (a : AV) (v u : Value), toV a = some v → val E ρ a u → u = v
  | .any, v, u, h, hu => by simp [toV] at h
  | .bool b, v, u, h, hu => by simp [toV] at h; subst h; simpa [val] using hu
  | .int k n, v, u, h, hu => by simp [toV] at h; subst h; simpa [val] using hu
  | .str (.con l), v, u, h, hu => by simp [toV] at h; subst h; simpa [val, Env.bytes] using hu
  | .str (.atom l), v, u, h, hu => by simp [toV] at h
  | .ptr none, v, u, h, hu => by simp [toV] at h; subst h; simpa [val] using hu
  | .ptr (some x), v, u, h, hu => by simp [toV] at h
  | .slice none 0 0 e z, v, u, h, hu => by simp [toV] at h; subst h; simpa [val] using hu
  | .slice none (n + 1) c e z, v, u, h, hu => by simp [toV] at h
  | .slice none 0 (c + 1) e z, v, u, h, hu => by simp [toV] at h
  | .slice (some x) n c e z, v, u, h, hu => by simp [toV] at h
  | .map none, v, u, h, hu => by simp [toV] at h; subst h; simpa [val] using hu
  | .map (some x), v, u, h, hu => by simp [toV] at h
  | .func f x y, v, u, h, hu => by simp [toV] at h
  | .nilFunc, v, u, h, hu => by simp [toV] at h; subst h; simpa [val] using hu
  | .iface t x, v, u, h, hu => by simp [toV] at h
  | .nilIface, v, u, h, hu => by simp [toV] at h; subst h; simpa [val] using hu
  | .agg l, v, u, h, hu => by
    simp only [toV, Option.map_eq_some_iff] at h
    obtain ⟨x, hx, rfl⟩ := h
    simp only [val] at hu
    obtain ⟨us, rfl, hus⟩ := hu
    have := toVL_val l x us.toList hx hus
    congr 1
    apply Array.ext'
    simpa using this
  | .tuple l, v, u, h, hu => by
    simp only [toV, Option.map_eq_some_iff] at h
    obtain ⟨x, hx, rfl⟩ := h
    simp only [val] at hu
    obtain ⟨us, rfl, hus⟩ := hu
    have := toVL_val l x us.toList hx hus
    congr 1
    apply Array.ext'
    simpa using this
  | .sym i, v, u, h, hu => by simp [toV] at h
theorem toVL_val {E : Env} {ρ : Rho} : ∀ (a : List AV) (v u : List Value), toVL a = some v → vals E ρ a u → u = v
  | [], v, u, h, hu => by simp [toVL] at h; subst h; exact vals_nil_inv hu
  | a :: as, v, u, h, hu => by
    simp only [toVL, Option.bind_eq_some_iff, Option.map_eq_some_iff] at h
    obtain ⟨x, hx, y, hy, rfl⟩ := h
    simp only [vals] at hu
    obtain ⟨p, q, rfl, h1, h2⟩ := hu
    rw [toV_val a x p hx h1, toVL_val as y q hy h2]
end

theorem pureSem_run {α : Type} (P : Program) : ∀ (s : Sem α) (a : α), pureSem P s = some a → ∀ w, s.run P w = .ok a w
  | .pure x, a, h, w => by simp [pureSem] at h; subst h; rfl
  | .program k, a, h, w => by simp only [pureSem] at h; simp only [Sem.run]; exact pureSem_run P (k P) a h w
  | .mark m k, a, h, w => by simp only [pureSem] at h; simp only [Sem.run]; exact pureSem_run P k a h w
  | .load .., a, h, w => by simp [pureSem] at h
  | .store .., a, h, w => by simp [pureSem] at h
  | .new .., a, h, w => by simp [pureSem] at h
  | .shape .., a, h, w => by simp [pureSem] at h
  | .freeze .., a, h, w => by simp [pureSem] at h
  | .frozen .., a, h, w => by simp [pureSem] at h
  | .getObj .., a, h, w => by simp [pureSem] at h
  | .setObj .., a, h, w => by simp [pureSem] at h
  | .choose .., a, h, w => by simp [pureSem] at h
  | .sys .., a, h, w => by simp [pureSem] at h
  | .halt .., a, h, w => by simp [pureSem] at h

section
variable {E : Env} {ρ : Rho} {P : Program} {H : Heap} {w : World}

theorem evA_val {ts : List AV} {a : Act} (h : vals E ρ ts a.tmps.toList) (x : Operand) : val E ρ (evA ts x) (a.eval x) := by
  cases x with
  | tmp t =>
    simp only [evA, Act.eval]
    cases ht : ts[t]? with
    | none => simp [List.getD, ht, val]
    | some b =>
      obtain ⟨v, hv, hr⟩ := vals_get h ht
      have hv' : a.tmps[t]? = some v := by simpa using hv
      simp [List.getD, ht, hv', hr]
  | const v =>
    simp only [evA, Act.eval]
    cases hv : ofV v with
    | none => simp [val]
    | some b => exact ofV_val v b hv
  | global g => simp [evA, val]
  | func f => simp [evA, Act.eval, val, vals]

/-! ### What a value's form says of the model's value -/
theorem val_ptr {i o : Nat} {v : Value} (h : val E ρ (.ptr (some (i, o))) v) : ∃ b m, ρ i = some (b, m) ∧ v = .pointer (some ⟨b, o, none⟩) := by simpa [val] using h
theorem val_int {k : IntKind} {n : Int} {v : Value} (h : val E ρ (.int k n) v) : v = .int k n := by simpa [val] using h
theorem val_bool {b : Bool} {v : Value} (h : val E ρ (.bool b) v) : v = .bool b := by simpa [val] using h
theorem val_str {l : List UInt8} {v : Value} (h : val E ρ (.str (.con l)) v) : v = .string ⟨l.toArray⟩ := by simpa [val, Env.bytes] using h
theorem val_slice {i o n c z : Nat} {ex : Bool} {v : Value} (h : val E ρ (.slice (some (i, o)) n c ex z) v) :
    ∃ b m c', ρ i = some (b, m) ∧ v = .slice (some ⟨b, o, none⟩) n c' ∧ c ≤ c' ∧ (ex = true → c' = c) ∧ o + c' * z ≤ m := by simpa [val] using h
theorem val_agg {l : List AV} {v : Value} (h : val E ρ (.agg l) v) : ∃ us, v = .agg us ∧ vals E ρ l us.toList := by simpa [val] using h

theorem oneA_val (hE : E.Ok) {a : AV} {v : Value} (h : oneA a = true) (hv : val E ρ a v) : v.oneCell' = true ∧ v.cells = #[v] := by
  match a, h, hv with
  | .bool b, _, hv => rw [val_bool hv]; exact ⟨rfl, rfl⟩
  | .int k n, _, hv => rw [val_int hv]; exact ⟨rfl, rfl⟩
  | .str s, _, hv => simp only [val] at hv; subst hv; exact ⟨rfl, rfl⟩
  | .ptr none, _, hv => simp only [val] at hv; subst hv; exact ⟨rfl, rfl⟩
  | .ptr (some (i, o)), _, hv => obtain ⟨b, m, _, rfl⟩ := val_ptr hv; exact ⟨rfl, rfl⟩
  | .slice none n c e z, _, hv => simp only [val] at hv; obtain ⟨_, _, rfl⟩ := hv; exact ⟨rfl, rfl⟩
  | .slice (some (i, o)) n c e z, _, hv => obtain ⟨b, m, c', _, rfl, _⟩ := val_slice hv; exact ⟨rfl, rfl⟩
  | .map none, _, hv => simp only [val] at hv; subst hv; exact ⟨rfl, rfl⟩
  | .map (some i), _, hv => simp only [val] at hv; obtain ⟨b, m, _, rfl⟩ := hv; exact ⟨rfl, rfl⟩
  | .func f x y, _, hv => simp only [val] at hv; obtain ⟨us, ws, rfl, _⟩ := hv; exact ⟨rfl, rfl⟩
  | .nilFunc, _, hv => simp only [val] at hv; subst hv; exact ⟨rfl, rfl⟩
  | .iface t x, _, hv => simp only [val] at hv; obtain ⟨u, rfl, _⟩ := hv; exact ⟨rfl, rfl⟩
  | .nilIface, _, hv => simp only [val] at hv; subst hv; exact ⟨rfl, rfl⟩
  | .sym i, _, hv =>
    simp only [val] at hv
    subst hv
    have := hE.one i
    refine ⟨this, ?_⟩
    cases hs : E.sym i <;> simp_all [Value.oneCell', Value.cells]

theorem vals_one (hE : E.Ok) {as : List AV} {vs : List Value} (h : as.all oneA = true) (hv : vals E ρ as vs) : ∀ v ∈ vs, v.oneCell' = true := by
  induction as generalizing vs with
  | nil => rw [vals_nil_inv hv]; simp
  | cons a as ih =>
    simp only [vals] at hv
    obtain ⟨v, r, rfl, h1, h2⟩ := hv
    simp only [List.all_cons, Bool.and_eq_true] at h
    intro u hu
    rcases List.mem_cons.1 hu with rfl | hu
    · exact (oneA_val hE h.1 h1).1
    · exact ih h.2 h2 u hu

theorem cellsA_val (hE : E.Ok) {a : AV} {v : Value} {l : List AV} (h : cellsA a = some l) (hv : val E ρ a v) :
    vals E ρ l v.cells.toList ∧ l.all oneA = true := by
  have plain : oneA a = true → l = [a] → vals E ρ l v.cells.toList ∧ l.all oneA = true := by
    intro h1 h2
    obtain ⟨_, hc⟩ := oneA_val hE h1 hv
    subst h2
    rw [hc]
    exact ⟨vals_cons hv vals_nil, by simp [h1]⟩
  match a, h, hv, plain with
  | .agg us, h, hv, _ =>
    simp only [cellsA] at h
    split at h
    · rename_i hall
      simp only [Option.some.injEq] at h
      subst h
      obtain ⟨xs, rfl, hx⟩ := val_agg hv
      exact ⟨by simpa [Value.cells] using hx, hall⟩
    · simp at h
  | .bool b, h, _, plain => simp only [cellsA, Option.some.injEq] at h; exact plain rfl h.symm
  | .int k n, h, _, plain => simp only [cellsA, Option.some.injEq] at h; exact plain rfl h.symm
  | .str s, h, _, plain => simp only [cellsA, Option.some.injEq] at h; exact plain rfl h.symm
  | .ptr p, h, _, plain => simp only [cellsA, Option.some.injEq] at h; exact plain rfl h.symm
  | .slice p n c e z, h, _, plain => simp only [cellsA, Option.some.injEq] at h; exact plain rfl h.symm
  | .map p, h, _, plain => simp only [cellsA, Option.some.injEq] at h; exact plain rfl h.symm
  | .func f x y, h, _, plain => simp only [cellsA, Option.some.injEq] at h; exact plain rfl h.symm
  | .nilFunc, h, _, plain => simp only [cellsA, Option.some.injEq] at h; exact plain rfl h.symm
  | .iface t x, h, _, plain => simp only [cellsA, Option.some.injEq] at h; exact plain rfl h.symm
  | .nilIface, h, _, plain => simp only [cellsA, Option.some.injEq] at h; exact plain rfl h.symm
  | .sym i, h, _, plain => simp only [cellsA, Option.some.injEq] at h; exact plain rfl h.symm

/-! ### Blocks -/
theorem Rd.cells (h : Rd E ρ H w) {i b m : Nat} {vs : List AV} {t : TypeId} {lo ro : Bool} (hi : ρ i = some (b, m)) (hg : H.get i = some (.cells vs t lo ro)) :
    ∃ cs, w.heap[b]? = some (.cells cs t (0, 0)) ∧ cs.size = m ∧ vs.length ≤ m ∧ (lo = false → m = vs.length) ∧
      ∀ (k : Nat) (a : AV), vs[k]? = some a → ∃ v : Value, cs[k]? = some v ∧ val E ρ a v := by
  have := h.blk i b m _ hi hg
  simpa [blkRel] using this

theorem getCells_some {vs l : List AV} {o n : Nat} (h : getCells vs o n = some l) : l = (vs.drop o).take n ∧ l.length = n ∧ (n = 0 ∨ o + n ≤ vs.length) := by
  unfold getCells at h
  simp only at h
  split at h
  · rename_i hl
    simp only [Option.some.injEq] at h
    subst h
    refine ⟨rfl, hl, ?_⟩
    simp only [List.length_take, List.length_drop] at hl
    omega
  · simp at h
theorem getCells_get {vs l : List AV} {o n : Nat} (h : getCells vs o n = some l) (k : Nat) (hk : k < n) : l[k]? = vs[o + k]? := by
  obtain ⟨rfl, hl, _⟩ := getCells_some h
  rw [List.getElem?_take, if_pos hk, List.getElem?_drop]

/-- The world's cells at a run of places. -/
theorem Rd.run (h : Rd E ρ H w) {i b m : Nat} {vs : List AV} {t : TypeId} {lo ro : Bool} (hi : ρ i = some (b, m)) (hg : H.get i = some (.cells vs t lo ro))
    {o n : Nat} {l : List AV} (hl : getCells vs o n = some l) :
    ∃ us : List Value, us.length = n ∧ vals E ρ l us ∧ ∀ (j : Nat) (v : Value), us[j]? = some v → w.cell? ((⟨b, o, none⟩ : Addr).add j) = some v := by
  obtain ⟨cs, hb, hm, hle, _, hc⟩ := h.cells hi hg
  obtain ⟨hl1, hl2, hl3⟩ := getCells_some hl
  have hlen : ∀ k, k < n → o + k < cs.size := fun k hk => by omega
  refine ⟨(List.range n).map fun k => cs[o + k]?.getD undef, by simp, ?_, ?_⟩
  · refine vals_of_get (by simp [hl2]) fun k a hk => ?_
    have hkn : k < n := by
      rw [← hl2]
      exact (List.getElem?_eq_some_iff.1 hk).1
    rw [getCells_get hl k hkn] at hk
    obtain ⟨v, hv, hr⟩ := hc _ _ hk
    exact ⟨v, by simp [hkn, hv], hr⟩
  · intro j v hv
    have hj : j < n := by
      have := (List.getElem?_eq_some_iff.1 hv).1
      simpa using this
    rw [Addr.add_lit, cell_of_row w b (o + j) cs t (0, 0) hb]
    have hs := hlen j hj
    simp [hj, hs] at hv
    simp [hs, hv]

theorem Rd.one (h : Rd E ρ H w) {i b m : Nat} {vs : List AV} {t : TypeId} {lo ro : Bool} (hi : ρ i = some (b, m)) (hg : H.get i = some (.cells vs t lo ro))
    {o : Nat} {a : AV} (ha : vs[o]? = some a) : ∃ v, w.cell? ⟨b, o, none⟩ = some v ∧ val E ρ a v := by
  obtain ⟨cs, hb, hm, hle, _, hc⟩ := h.cells hi hg
  obtain ⟨v, hv, hr⟩ := hc o a ha
  exact ⟨v, by rw [cell_of_row w b o cs t (0, 0) hb]; exact hv, hr⟩

theorem isAggA_run {t : TypeId} {r : Bool} (h : isAggA P t = some r) : (isAgg t).run P w = .ok r w := by
  unfold isAggA at h
  cases hu : P.underlying t with
  | none => simp [hu] at h
  | some d =>
    unfold isAgg
    rw [Sem.run_bind, run_underlying hu w]
    cases d <;> simp [hu] at h <;> subst h <;> rfl
theorem sizeA_run {t : TypeId} {n : Nat} (h : sizeA P t = some n) : (sizeOf t).run P w = .ok n w := by
  unfold sizeA at h
  cases hi : P.info? t with
  | none => simp [hi] at h
  | some i => simp [hi] at h; simp [sizeOf, typeInfo, hi, h]
theorem zeroA_run {t : TypeId} {a : AV} (h : zeroA P t = some a) : ∃ v, (zeroValue t).run P w = .ok v w ∧ val E ρ a v ∧ ∃ i, P.info? t = some i ∧ i.zero = some v := by
  unfold zeroA at h
  cases hi : P.info? t with
  | none => simp [hi] at h
  | some i =>
    cases hz : i.zero with
    | none => simp [hi, hz] at h
    | some v => simp [hi, hz] at h; exact ⟨v, by simp [zeroValue, typeInfo, hi, hz], ofV_val v a h, i, rfl, hz⟩

/-! ### Worlds that grow, and a block that is written -/
def upd (ρ : Rho) (i : Nat) (x : Nat × Nat) : Rho := fun j => if j = i then some x else ρ j
theorem upd_le {i : Nat} {x : Nat × Nat} (h : ρ i = none) : ρ.le (upd ρ i x) := by
  intro j y hy
  unfold upd
  by_cases e : j = i
  · subst e; rw [h] at hy; simp at hy
  · rw [if_neg e]; exact hy
theorem upd_self {i : Nat} {x : Nat × Nat} : upd ρ i x i = some x := by simp [upd]

/-- A new block. -/
theorem Rel.push (h : Rel E ρ H w) (o : Obj) (B : ABlk) (m : Nat)
    (hB : blkRel E (upd ρ H.next (w.heap.size, m)) { w with heap := w.heap.push o } w.heap.size m B) :
    Rel E (upd ρ H.next (w.heap.size, m)) (H.push B) { w with heap := w.heap.push o } ∧
    Step ρ H w (upd ρ H.next (w.heap.size, m)) (H.push B) { w with heap := w.heap.push o } := by
  have hnone : ρ H.next = none := by
    cases e : ρ H.next with
    | none => rfl
    | some x => have := (h.dom _ x.1 x.2 e).1; omega
  have hold : ∀ b, b < w.heap.size → ({ w with heap := w.heap.push o } : World).heap[b]? = w.heap[b]? := by
    intro b hb
    show (w.heap.push o)[b]? = _
    rw [Array.getElem?_push, if_neg (by omega)]
  have hle := upd_le (x := (w.heap.size, m)) hnone
  have hnext : (H.push B).next = H.next + 1 := rfl
  refine ⟨⟨⟨?_, ?_⟩, ?_, ?_⟩, ?_⟩
  · intro i b m' C hi hg
    rw [Heap.get_push] at hg
    by_cases e : i = H.next
    · subst e
      rw [upd_self] at hi
      rw [if_pos rfl] at hg
      simp only [Option.some.injEq, Prod.mk.injEq] at hi hg
      obtain ⟨rfl, rfl⟩ := hi
      subst hg
      exact hB
    · rw [if_neg e] at hg
      unfold upd at hi
      rw [if_neg e] at hi
      exact blkRel_mono hle (hold b (h.dom i b m' hi).2) C (h.blk i b m' C hi hg)
  · intro i j b m1 m2 C D hi hj hg hk hC hD
    rw [Heap.get_push] at hg hk
    unfold upd at hi hj
    by_cases e : i = H.next
    · by_cases f : j = H.next
      · rw [e, f]
      · rw [if_pos e] at hi
        rw [if_neg f] at hj
        simp only [Option.some.injEq, Prod.mk.injEq] at hi
        have := (h.dom j b m2 hj).2
        omega
    · by_cases f : j = H.next
      · rw [if_neg e] at hi
        rw [if_pos f] at hj
        simp only [Option.some.injEq, Prod.mk.injEq] at hj
        have := (h.dom i b m1 hi).2
        omega
      · rw [if_neg e] at hi hg
        rw [if_neg f] at hj hk
        exact h.inj i j b m1 m2 C D hi hj hg hk hC hD
  · intro i b m' hi
    show i < H.next + 1 ∧ b < (w.heap.push o).size
    unfold upd at hi
    by_cases e : i = H.next
    · rw [if_pos e] at hi
      simp only [Option.some.injEq, Prod.mk.injEq] at hi
      rw [Array.size_push]
      omega
    · rw [if_neg e] at hi
      have := h.dom i b m' hi
      rw [Array.size_push]
      omega
  · intro b o' hp
    obtain ⟨p1, p2⟩ := h.pin b o' hp
    have hlt : b < w.heap.size := (Array.getElem?_eq_some_iff.1 p1).1
    refine ⟨(hold b hlt).trans p1, fun i m' hi => ?_⟩
    unfold upd at hi
    split at hi
    · simp only [Option.some.injEq, Prod.mk.injEq] at hi
      omega
    · exact p2 i m' hi
  · refine ⟨rfl, rfl, rfl, by show _ ≤ (w.heap.push o).size; rw [Array.size_push]; omega, hle, ?_, by rw [hnext]; omega, fun b hb _ => hold b hb, ?_⟩
    · intro i x hx
      unfold upd at hx
      by_cases e : i = H.next
      · exact .inr (by omega)
      · rw [if_neg e] at hx; exact .inl hx
    · rintro b hb ⟨i, m', C, hi, hg, h1, h2⟩
      rw [Heap.get_push] at hg
      unfold upd at hi
      by_cases e : i = H.next
      · rw [if_pos e] at hi
        simp only [Option.some.injEq, Prod.mk.injEq] at hi
        omega
      · rw [if_neg e] at hi hg
        exact ⟨i, m', C, hi, hg, h1, h2⟩

/-- A block that may be written turns into another one. -/
theorem Rel.set (h : Rel E ρ H w) {i b m : Nat} {B C : ABlk} (hi : ρ i = some (b, m)) (hg : H.get i = some B) (ha : B.alive = true) (hr : B.readOnly = false)
    (w' : World) (hw : w'.os = w.os ∧ w'.tape = w.tape ∧ w'.output = w.output ∧ w'.heap.size = w.heap.size ∧ ∀ j, j ≠ b → w'.heap[j]? = w.heap[j]?)
    (hC : blkRel E ρ w' b m C) : Rel E ρ (H.set i C) w' ∧ Step ρ H w ρ (H.set i C) w' := by
  have hlt := Heap.get_lt hg
  obtain ⟨h1, h2, h3, h4, h5⟩ := hw
  refine ⟨⟨⟨?_, ?_⟩, ?_, ?_⟩, ?_⟩
  · intro j b' m' D hj hd
    rw [Heap.get_set _ _ _ hlt] at hd
    by_cases e : j = i
    · subst e
      rw [if_pos rfl] at hd
      rw [hi] at hj
      simp only [Option.some.injEq, Prod.mk.injEq] at hd hj
      obtain ⟨rfl, rfl⟩ := hj
      subst hd
      exact hC
    · rw [if_neg e] at hd
      by_cases hb : b' = b
      · subst hb
        cases hal : D.alive with
        | true => exact absurd (h.inj j i b' m' m D B hj hi hd hg hal ha) e
        | false => cases D <;> simp [ABlk.alive] at hal; simp [blkRel]
      · exact blkRel_mono (Rho.le_refl ρ) (h5 b' hb) D (h.blk j b' m' D hj hd)
  · intro j k b' m1 m2 D F hj hk hd hf hD hF
    rw [Heap.get_set _ _ _ hlt] at hd hf
    have get : ∀ x (X : ABlk) mx, ρ x = some (b', mx) → (if x = i then some C else H.get x) = some X → X.alive = true →
        ∃ X', H.get x = some X' ∧ X'.alive = true := by
      intro x X mx hx hX hXa
      by_cases e : x = i
      · subst e; exact ⟨B, hg, ha⟩
      · rw [if_neg e] at hX; exact ⟨X, hX, hXa⟩
    obtain ⟨D', hd', hD'⟩ := get j D m1 hj hd hD
    obtain ⟨F', hf', hF'⟩ := get k F m2 hk hf hF
    exact h.inj j k b' m1 m2 D' F' hj hk hd' hf' hD' hF'
  · intro j b' m' hj
    have := h.dom j b' m' hj
    exact ⟨this.1, by rw [h4]; exact this.2⟩
  · intro b' o' hp
    obtain ⟨p1, p2⟩ := h.pin b' o' hp
    refine ⟨?_, p2⟩
    rw [h5 b' (fun e => p2 i m (by rw [e]; exact hi))]
    exact p1
  · refine ⟨h1, h2, h3, by rw [h4]; exact Nat.le_refl _, Rho.le_refl ρ, fun _ _ hx => .inl hx, Nat.le_refl _, ?_, ?_⟩
    · intro b' hb' hn
      by_cases e : b' = b
      · subst e; exact absurd ⟨i, m, B, hi, hg, ha, hr⟩ hn
      · exact h5 b' e
    · rintro b' hb' ⟨j, m', D, hj, hd, hD1, hD2⟩
      rw [Heap.get_set _ _ _ hlt] at hd
      by_cases e : j = i
      · subst e
        rw [hi] at hj
        simp only [Option.some.injEq, Prod.mk.injEq] at hj
        obtain ⟨rfl, rfl⟩ := hj
        exact ⟨j, m, B, hi, hg, ha, hr⟩
      · rw [if_neg e] at hd
        exact ⟨j, m', D, hj, hd, hD1, hD2⟩

/-- A draw. -/
theorem Rd.drew (h : Rd E ρ H w) (n : Nat) : Rd E ρ H { w with drawn := n } :=
  ⟨fun i b m B hi hg => blkRel_mono (Rho.le_refl ρ) (w := w) (by rfl) B (h.blk i b m B hi hg), h.inj⟩
theorem Rel.drew (h : Rel E ρ H w) (n : Nat) : Rel E ρ H { w with drawn := n } := ⟨h.toRd.drew n, h.dom, h.pin⟩
theorem Step.drew (ρ : Rho) (H : Heap) (w : World) (n : Nat) : Step ρ H w ρ H { w with drawn := n } :=
  ⟨rfl, rfl, rfl, Nat.le_refl _, Rho.le_refl ρ, fun _ _ h => .inl h, Nat.le_refl _, fun _ _ _ => rfl, fun _ _ h => h⟩

end
end Go.Ev

/- The operations that read alone: what the evaluator says holds of the model's run. -/
set_option linter.unusedVariables false
set_option linter.unusedSimpArgs false
namespace Go.Ev

structure FactsOk (E : Env) (P : Program) (F : Facts) : Prop where
  bin : ∀ op x y r, F.bin op x y = some r → ∀ (ρ : Rho) u v, val E ρ x u → val E ρ y v → ∃ z, val E ρ r z ∧ ∀ t a b w, (do eqGuard op t a b u v; binOp op t u v).run P w = .ok z w
  binEq : ∀ x y r, F.bin .eql x y = some (.bool r) → (∃ p, x = .str p) → ∀ (ρ : Rho) u v, val E ρ x u → val E ρ y v → ∃ s s', u = .string s ∧ v = .string s' ∧ (s == s') = r
  len : ∀ x r, F.len x = some r → ∀ (ρ : Rho) u, val E ρ x u → ∃ s, u = .string s ∧ val E ρ r (goInt s.size)
  lenS : ∀ i r, F.lenS i = some r → ∃ a n c, E.sym i = .slice a n c ∧ ∀ ρ, val E ρ r (goInt n)
  index : ∀ x i r, F.index x i = some r → ∀ (ρ : Rho) u k, val E ρ x u → val E ρ i k → ∃ s j n b, u = .string s ∧ k = .int j n ∧ 0 ≤ n ∧ s[n.toNat]? = some b ∧ val E ρ r (.int .u8 b.toNat)
  slice : ∀ x lo hi r, F.slice x lo hi = some r → ∀ (ρ : Rho) u, val E ρ x u → ∃ s l h, u = .string s ∧ l ≤ h ∧ h ≤ s.size ∧
      (match lo with | none => l = 0 | some a => ∀ v, val E ρ a v → ∃ j, v = .int j (l : Int)) ∧ (match hi with | none => h = s.size | some a => ∀ v, val E ρ a v → ∃ j, v = .int j (h : Int)) ∧ val E ρ r (.string (s.extract l h))
  call : ∀ f args H r H', F.call f args H = some (r, H') → ∀ (ρ : Rho) (w : World) (vs : Array Value), Rel E ρ H w → vals E ρ args vs.toList →
    Calls P f vs w fun e w' => ∃ ρ' v, e = .returned v ∧ val E ρ' r v ∧ Rel E ρ' H' w' ∧ Step ρ H w ρ' H' w'

section
variable {E : Env} {ρ : Rho} {P : Program} {F : Facts} {H : Heap} {w : World}

theorem bytes_toList (l : List UInt8) : (⟨l.toArray⟩ : ByteArray).toList = l := by
  rw [ByteArray.toList_eq]

theorem load_ok (h : Rd E ρ H w) {t : TypeId} {p a : AV} {v : Value} (hp : val E ρ p v) (ha : loadA P H t p = some a) :
    ∃ u, (Instr.loadAt t v).run P w = .ok u w ∧ val E ρ a u := by
  unfold loadA at ha
  split at ha
  · rename_i i o
    obtain ⟨b, m, hi, rfl⟩ := val_ptr hp
    split at ha
    · rename_i vs e lo ro hg
      split at ha
      · rename_i hagg
        simp only [Option.bind_eq_some_iff, Option.map_eq_some_iff] at ha
        obtain ⟨n, hn, l, hl, rfl⟩ := ha
        obtain ⟨us, h1, h2, h3⟩ := h.run hi hg hl
        refine ⟨.agg us.toArray, ?_, by simp only [val]; exact ⟨us.toArray, rfl, by simpa using h2⟩⟩
        have hc := run_loadCells_list (P := P) w ⟨b, o, none⟩ us h3
        rw [h1] at hc
        simp [Instr.loadAt, Instr.sureAddr, loadVar, isAggA_run hagg, sizeA_run hn, hc]
      · rename_i hagg
        obtain ⟨u, hu, hr⟩ := h.one hi hg ha
        exact ⟨u, by simp [Instr.loadAt, Instr.sureAddr, loadVar, isAggA_run hagg, hu], hr⟩
      · simp at ha
    · simp at ha
  · simp at ha

theorem fieldAddr_ok {s : TypeId} {p a : AV} {f : Nat} {v : Value} (hp : val E ρ p v) (ha : fieldAddrA P s p f = some a) :
    ∃ u, (Instr.fieldAt s v f).run P w = .ok u w ∧ val E ρ a u := by
  unfold fieldAddrA at ha
  split at ha
  · rename_i fields i o hu
    obtain ⟨b, m, hi, rfl⟩ := val_ptr hp
    split at ha
    · rename_i fd hf
      split at ha
      · rename_i n hn
        split at ha
        · simp at ha
        · rename_i hn0
          simp only [Option.some.injEq] at ha
          subst ha
          refine ⟨.pointer (some ⟨b, o + fd.offset, none⟩), ?_, by simp only [val]; exact ⟨b, m, hi, rfl⟩⟩
          simp [Instr.fieldAt, run_underlying hu, hf, Instr.sureAddr, fieldPlace, sizeA_run hn, hn0, Addr.add_lit]
      · simp at ha
    · simp at ha
  · simp at ha

theorem part_ok {t : TypeId} {cs : List AV} {us : Array Value} {off : Nat} {a : AV} (hv : vals E ρ cs us.toList) (ha : partA P t cs off = some a) :
    ∃ u, (part t us off).run P w = .ok u w ∧ val E ρ a u := by
  unfold partA at ha
  split at ha
  · rename_i hagg
    simp only [Option.bind_eq_some_iff, Option.map_eq_some_iff] at ha
    obtain ⟨n, hn, l, hl, rfl⟩ := ha
    obtain ⟨rfl, h1, h2⟩ := getCells_some hl
    refine ⟨.agg (us.extract off (off + n)), by simp [part, isAggA_run hagg, sizeA_run hn], ?_⟩
    simp only [val]
    refine ⟨_, rfl, ?_⟩
    have := vals_take (vals_drop hv off) n
    have e : (us.extract off (off + n)).toList = (us.toList.drop off).take n := by
      simp
    rw [e]
    exact this
  · rename_i hagg
    obtain ⟨u, hu, hr⟩ := vals_get hv ha
    have hu' : us[off]? = some u := by simpa using hu
    exact ⟨u, by simp [part, isAggA_run hagg, hu'], hr⟩
  · simp at ha

theorem field_ok {t : TypeId} {x a : AV} {f : Nat} {v : Value} (hp : val E ρ x v) (ha : fieldA P t x f = some a) :
    ∃ u, (Instr.field t v f).run P w = .ok u w ∧ val E ρ a u := by
  unfold fieldA at ha
  split at ha
  · rename_i fields cs hu
    obtain ⟨us, rfl, hus⟩ := val_agg hp
    split at ha
    · rename_i fd hf
      obtain ⟨u, h1, h2⟩ := part_ok (w := w) hus ha
      exact ⟨u, by simp [Instr.field, run_underlying hu, hf, asAgg, h1], h2⟩
    · simp at ha
  · simp at ha

theorem indexAddr_ok {t : TypeId} {x i a : AV} {v k : Value} (hp : val E ρ x v) (hk : val E ρ i k) (ha : indexAddrA P t x i = some a) :
    ∃ u, (Instr.indexAt t v k).run P w = .ok u w ∧ val E ρ a u := by
  unfold indexAddrA at ha
  split at ha
  · rename_i e i o n c ex z j q hu
    obtain ⟨b, m, c', hi, rfl, _⟩ := val_slice hp
    have hkk := val_int hk
    subst hkk
    split at ha
    · rename_i hq
      simp only [Option.map_eq_some_iff] at ha
      obtain ⟨sz, hs, rfl⟩ := ha
      refine ⟨.pointer (some ⟨b, o + q.toNat * sz, none⟩), ?_, by simp only [val]; exact ⟨b, m, hi, rfl⟩⟩
      simp [Instr.indexAt, asIntOf, run_underlying hu, hq.1, hq.2, sizeA_run hs, Addr.add_lit]
    · simp at ha
  · simp at ha

theorem index_ok (hF : FactsOk E P F) {t : TypeId} {x i a : AV} {v k : Value} (hp : val E ρ x v) (hk : val E ρ i k) (ha : indexA P F t x i = some a) :
    ∃ u, (Instr.index t v k).run P w = .ok u w ∧ val E ρ a u := by
  unfold indexA at ha
  split at ha
  · rename_i l j q hu
    have hv := val_str hp
    have hkk := val_int hk
    subst hv hkk
    split at ha
    · rename_i hq
      simp only [Option.map_eq_some_iff] at ha
      obtain ⟨c, hc, rfl⟩ := ha
      refine ⟨.int .u8 c.toNat, ?_, by simp [val]⟩
      have hlt := (List.getElem?_eq_some_iff.1 hc).1
      have hs : (⟨l.toArray⟩ : ByteArray)[q.toNat]? = some c := by
        rw [getElem?_pos _ _ (by show q.toNat < l.toArray.size; simpa using hlt)]
        congr 1
        show l.toArray[q.toNat] = c
        have := (List.getElem?_eq_some_iff.1 hc).2
        simpa using this
      simp [Instr.index, asIntOf, run_underlying hu, hq, hs]
    · simp at ha
  · rename_i i' j n hu
    obtain ⟨s, j', n', b, rfl, rfl, h0, hb, hr⟩ := hF.index _ _ _ ha ρ v k hp hk
    exact ⟨_, by simp [Instr.index, asIntOf, run_underlying hu, h0, hb], hr⟩
  · simp at ha

theorem len_ok (hF : FactsOk E P F) (h : Rd E ρ H w) {t : TypeId} {ts : Array TypeId} {x a : AV} {v : Value} {ty : TypeId} {vs : Array Value} (hts : ts[0]? = some t) (hvs : vs[0]? = some v)
    (hp : val E ρ x v) (ha : lenA P F H t x = some a) : ∃ u, (Builtin.len_ ts ty vs).run P w = .ok u w ∧ val E ρ a u := by
  unfold lenA at ha
  split at ha
  · rename_i l hu
    have hv := val_str hp
    subst hv
    simp only [Option.some.injEq] at ha
    subst ha
    exact ⟨_, by simp [Builtin.len_, hts, hvs, run_underlying hu]; rfl, by simp [val, goInt, ByteArray.size]⟩
  · rename_i i hu
    obtain ⟨s, rfl, hr⟩ := hF.len _ _ ha ρ v hp
    exact ⟨goInt s.size, by simp [Builtin.len_, hts, hvs, run_underlying hu], hr⟩
  · rename_i e p n c ex z hu
    simp only [Option.some.injEq] at ha
    subst ha
    cases p with
    | none =>
      simp only [val] at hp
      obtain ⟨rfl, rfl, rfl⟩ := hp
      exact ⟨_, by simp [Builtin.len_, hts, hvs, run_underlying hu]; rfl, by simp [val, goInt]⟩
    | some q =>
      obtain ⟨i, o⟩ := q
      obtain ⟨b, m, c', hi, rfl, _⟩ := val_slice hp
      exact ⟨_, by simp [Builtin.len_, hts, hvs, run_underlying hu]; rfl, by simp [val, goInt]⟩
  · rename_i e i hu
    obtain ⟨q, n, c, h1, h2⟩ := hF.lenS i a ha
    simp only [val] at hp
    rw [h1] at hp
    subst hp
    exact ⟨goInt n, by simp [Builtin.len_, hts, hvs, run_underlying hu], h2 ρ⟩
  · rename_i k e hu
    simp only [Option.some.injEq] at ha
    subst ha
    simp only [val] at hp
    subst hp
    exact ⟨_, by simp [Builtin.len_, hts, hvs, run_underlying hu]; rfl, by simp [val, goInt]⟩
  · rename_i k e i hu
    split at ha
    · rename_i es hg
      simp only [Option.some.injEq] at ha
      subst ha
      simp only [val] at hp
      obtain ⟨b, m, hi, rfl⟩ := hp
      have hb := h.blk i b m _ hi hg
      simp only [blkRel] at hb
      obtain ⟨ms, clock, hb, hr⟩ := hb
      have hlen : ∀ (es : List (AV × AV)) (ms : List MapEntry), entsRel E ρ es ms → ms.length = es.length := by
        intro es
        induction es with
        | nil => intro ms hm; simp [entsRel] at hm; simp [hm]
        | cons x es ih =>
          intro ms hm
          obtain ⟨k, y⟩ := x
          simp only [entsRel] at hm
          obtain ⟨m, r, rfl, _, _, h3⟩ := hm
          simp [ih _ h3]
      have hsz := hlen _ _ hr
      refine ⟨goInt ms.size, ?_, ?_⟩
      · simp [Builtin.len_, hts, hvs, run_underlying hu, getObj, Sem.run, hb]
      · simp only [val, goInt]
        congr 1
        rw [← hsz]
        simp
    · simp at ha
  · simp at ha

end
end Go.Ev

/- Slices, comparisons, conversions, structs, look-ups. -/
set_option linter.unusedVariables false
set_option linter.unusedSimpArgs false
namespace Go.Ev

def orel (E : Env) (ρ : Rho) : Option AV → Option Value → Prop
  | none, none => True
  | some a, some v => val E ρ a v
  | _, _ => False
theorem orel_map {E : Env} {ρ : Rho} {ts : List AV} {a : Act} (h : vals E ρ ts a.tmps.toList) (x : Option Operand) : orel E ρ (x.map (evA ts)) (x.map a.eval) := by
  cases x with
  | none => simp [orel]
  | some x => simpa [orel] using evA_val h x

section
variable {E : Env} {ρ : Rho} {P : Program} {F : Facts} {H : Heap} {w : World}

theorem bound_run {x : Option AV} {v : Option Value} {miss top top' r : Nat} {code : BoundsCode} (h : orel E ρ x v) (hb : boundA x miss top = some r) (ht : top ≤ top') :
    (match v with | some k => (Instr.sliceBound k top' code).run P w = .ok r w ∧ r ≤ top | none => r = miss) := by
  cases x with
  | none =>
    cases v with
    | none => simp [boundA] at hb; exact hb.symm
    | some k => simp [orel] at h
  | some a =>
    cases v with
    | none => simp [orel] at h
    | some k =>
      simp only [orel] at h
      cases a with
      | int j i =>
        simp only [boundA] at hb
        have hk := val_int h
        subst hk
        split at hb
        · rename_i hi
          simp only [Option.some.injEq] at hb
          subst hb
          exact ⟨run_sliceBound w j i top' code hi.1 (by omega), by omega⟩
        · simp at hb
      | _ => simp [boundA] at hb

theorem bounds_run {isS : Bool} {len cap cap' l h m : Nat} {lo hi mx : Option AV} {lo' hi' mx' : Option Value} (hlo : orel E ρ lo lo') (hhi : orel E ρ hi hi') (hmx : orel E ρ mx mx')
    (hc : cap ≤ cap') (hm : boundA mx cap cap = some m) (hh : boundA hi len m = some h) (hl : boundA lo 0 h = some l) (hx : ¬ (mx.isSome = true ∧ hi.isNone = true)) :
    (Instr.sliceBounds isS len cap' lo' hi' mx').run P w = .ok (l, h, if mx.isSome then m else cap') w ∧ m ≤ cap ∧ l ≤ h ∧ (hi.isSome = true → h ≤ m) := by
  have hmle : m ≤ cap := by
    cases mx with
    | none => simp [boundA] at hm; omega
    | some a =>
      cases mx' with
      | none => simp [orel] at hmx
      | some k => exact (bound_run (P := P) (w := w) (code := .slice3Acap) hmx hm (Nat.le_refl cap)).2
  have hhle : hi.isSome = true → h ≤ m := by
    intro hs
    cases hi with
    | none => simp at hs
    | some a =>
      cases hi' with
      | none => simp [orel] at hhi
      | some k => exact (bound_run (P := P) (w := w) (code := .slice3B) hhi hh (Nat.le_refl m)).2
  have hlle : l ≤ h := by
    cases lo with
    | none => simp [boundA] at hl; omega
    | some a =>
      cases lo' with
      | none => simp [orel] at hlo
      | some k => exact (bound_run (P := P) (w := w) (code := .slice3C) hlo hl (Nat.le_refl h)).2
  refine ⟨?_, hmle, hlle, hhle⟩
  have low : ∀ code, (match lo' with | some v => Instr.sliceBound v h code | none => pure 0 : Sem Nat).run P w = .ok l w := by
    intro code
    cases lo' with
    | none =>
      cases lo with
      | none => simp [boundA] at hl; subst hl; rfl
      | some a => simp [orel] at hlo
    | some k =>
      cases lo with
      | none => simp [orel] at hlo
      | some a => exact (bound_run (P := P) (w := w) (code := code) hlo hl (Nat.le_refl h)).1
  cases mx' with
  | none =>
    cases mx with
    | some a => simp [orel] at hmx
    | none =>
      simp only [boundA, Option.some.injEq] at hm
      subst hm
      cases hi' with
      | none =>
        cases hi with
        | some a => simp [orel] at hhi
        | none =>
          simp only [boundA, Option.some.injEq] at hh
          subst hh
          cases lo' with
          | none => have e := low .sliceB; simp at e; simp [Instr.sliceBounds, e]
          | some kl => simp only at low; simp [Instr.sliceBounds, low]
      | some k =>
        cases hi with
        | none => simp [orel] at hhi
        | some a =>
          have h1 := fun code => (bound_run (P := P) (w := w) (code := code) hhi hh hc).1
          cases lo' with
          | none => have e := low .sliceB; simp at e; simp [Instr.sliceBounds, e, h1]
          | some kl => simp only at low; simp [Instr.sliceBounds, low, h1]
  | some km =>
    cases mx with
    | none => simp [orel] at hmx
    | some am =>
      have hm1 := fun code => (bound_run (P := P) (w := w) (code := code) hmx hm hc).1
      cases hi' with
      | none =>
        cases hi with
        | some a => simp [orel] at hhi
        | none => simp at hx
      | some k =>
        cases hi with
        | none => simp [orel] at hhi
        | some a =>
          have h1 := fun code => (bound_run (P := P) (w := w) (code := code) hhi hh (Nat.le_refl m)).1
          cases lo' with
          | none => have e := low .sliceB; simp at e; simp [Instr.sliceBounds, e, h1, hm1]
          | some kl => simp only at low; simp [Instr.sliceBounds, low, h1, hm1]

theorem extract_mk (l : List UInt8) (a b : Nat) : (⟨l.toArray⟩ : ByteArray).extract a b = ⟨((l.take b).drop a).toArray⟩ := by
  apply ByteArray.ext
  rw [ByteArray.data_extract]
  apply Array.ext'
  simp [List.extract_eq_take_drop, List.drop_take]

theorem slice_ok (hF : FactsOk E P F) {t : TypeId} {x a : AV} {lo hi mx : Option AV} {lo' hi' mx' : Option Value} {v : Value} (hp : val E ρ x v)
    (hlo : orel E ρ lo lo') (hhi : orel E ρ hi hi') (hmx : orel E ρ mx mx') (ha : sliceA P F t x lo hi mx = some a) :
    ∃ u, (Instr.sliceAt t v lo' hi' mx').run P w = .ok u w ∧ val E ρ a u := by
  unfold sliceA at ha
  split at ha
  · rename_i l hu
    have hv := val_str hp
    subst hv
    split at ha
    · simp at ha
    · rename_i hmxn
      split at ha
      · simp at ha
      · rename_i h hh
        split at ha
        · simp at ha
        · rename_i a0 hl
          simp only [Option.some.injEq] at ha
          subst ha
          have hmx0 : mx = none := by simpa using hmxn
          have hmx0' : mx' = none := by subst hmx0; cases mx' <;> simp [orel] at hmx ⊢
          subst hmx0 hmx0'
          have hsz : (⟨l.toArray⟩ : ByteArray).size = l.length := by simp [ByteArray.size]
          have := (bounds_run (P := P) (w := w) (isS := false) (cap := l.length) (cap' := l.length) hlo hhi (mx := none) (mx' := none) (by simp [orel]) (Nat.le_refl _) (by simp [boundA]) hh hl (by simp)).1
          simp only [Option.isSome_none, Bool.false_eq_true, if_false] at this
          refine ⟨.string ⟨((l.take h).drop a0).toArray⟩, ?_, by simp [val, Env.bytes]⟩
          simp [Instr.sliceAt, Instr.slice, run_underlying hu, hsz, this, extract_mk]
  · rename_i i hu
    split at ha
    · simp at ha
    · rename_i hmxn
      have hmx0 : mx = none := by simpa using hmxn
      have hmx0' : mx' = none := by subst hmx0; cases mx' <;> simp [orel] at hmx ⊢
      subst hmx0 hmx0'
      obtain ⟨s, l, h, rfl, h1, h2, h3, h4, hr⟩ := hF.slice _ _ _ _ ha ρ v hp
      refine ⟨_, ?_, hr⟩
      have hlow : ∀ code, (match lo' with | some v => Instr.sliceBound v h code | none => pure 0 : Sem Nat).run P w = .ok l w := by
        intro code
        cases lo with
        | none => cases lo' <;> simp [orel] at hlo; subst h3; rfl
        | some b =>
          cases lo' with
          | none => simp [orel] at hlo
          | some k =>
            simp only [orel] at hlo
            obtain ⟨j, rfl⟩ := h3 k hlo
            have e := run_sliceBound (P := P) w j (l : Int) h code (by omega) (by omega)
            simpa using e
      have hhigh : ∀ code, (match hi' with | some v => Instr.sliceBound v s.size code | none => pure s.size : Sem Nat).run P w = .ok h w := by
        intro code
        cases hi with
        | none => cases hi' <;> simp [orel] at hhi; subst h4; rfl
        | some b =>
          cases hi' with
          | none => simp [orel] at hhi
          | some k =>
            simp only [orel] at hhi
            obtain ⟨j, rfl⟩ := h4 k hhi
            have e := run_sliceBound (P := P) w j (h : Int) s.size code (by omega) (by omega)
            simpa using e
      cases hi' with
      | none =>
        have e := hhigh .sliceAlen
        simp only [Sem.run_pure, Result.ok.injEq, and_true] at e
        subst e
        cases lo' with
        | none => have e := hlow .sliceB; simp at e; simp [Instr.sliceAt, Instr.slice, run_underlying hu, Instr.sliceBounds, e]
        | some kl => simp only at hlow; simp [Instr.sliceAt, Instr.slice, run_underlying hu, Instr.sliceBounds, hlow]
      | some k =>
        simp only at hhigh
        cases lo' with
        | none => have e := hlow .sliceB; simp at e; simp [Instr.sliceAt, Instr.slice, run_underlying hu, Instr.sliceBounds, e, hhigh]
        | some kl => simp only at hlow; simp [Instr.sliceAt, Instr.slice, run_underlying hu, Instr.sliceBounds, hlow, hhigh]
  · rename_i e p n c ex z hu
    split at ha
    · simp at ha
    · rename_i m hm
      split at ha
      · simp at ha
      · rename_i h hh
        split at ha
        · simp at ha
        · rename_i l hl
          split at ha
          · simp at ha
          · rename_i hx0
            have hx : ¬ (mx.isSome = true ∧ hi.isNone = true) := fun h => hx0 (.inl h)
            have hhm : h ≤ m := Classical.byContradiction fun h => hx0 (.inr h)
            have hu' : P.underlying t = some (.slice e) := hu
            cases hsz : sizeA P e with
            | none => cases p with
              | none => simp [hsz] at ha
              | some q => simp [hsz] at ha
            | some sz =>
            cases p with
            | none =>
              simp only [hsz] at ha
              split at ha
              · rename_i hz
                obtain ⟨hn0, hc0, _⟩ := hz
                simp only [Option.some.injEq] at ha
                subst ha
                simp only [val] at hp
                obtain ⟨_, _, rfl⟩ := hp
                obtain ⟨e1, e2, e3, e4⟩ := bounds_run (P := P) (w := w) (isS := true) (cap := c) (cap' := 0) hlo hhi hmx (by omega) hm hh hl hx
                have hh0 : h = 0 := by
                  cases hi with
                  | none => simp [boundA] at hh; omega
                  | some b => have := e4 rfl; omega
                have hl0 : l = 0 := by omega
                have hm0 : m = 0 := by omega
                subst hn0 hh0 hl0 hm0
                refine ⟨.slice none 0 0, ?_, by simp [val]⟩
                simp [Instr.sliceAt, Instr.slice, run_underlying hu', e1, sizeA_run hsz]
              · simp at ha
            | some q =>
              obtain ⟨i, o⟩ := q
              simp only [hsz] at ha
              obtain ⟨b, M, c', hib, rfl, hcc, hex, hroom⟩ := val_slice hp
              obtain ⟨e1, e2, e3, e4⟩ := bounds_run (P := P) (w := w) (isS := true) (cap := c) (cap' := c') hlo hhi hmx hcc hm hh hl hx
              have run : (Instr.sliceAt t (.slice (some ⟨b, o, none⟩) n c') lo' hi' mx').run P w =
                  .ok (sliced (some ⟨b, o, none⟩) l h (if mx.isSome then m else c') sz) w := by
                simp [Instr.sliceAt, Instr.slice, run_underlying hu', e1, sizeA_run hsz, sliced]
              split at ha
              · simp at ha
              · rename_i hz
                have hz' : z = sz := by simpa using hz
                subst hz'
                -- what the new slice is
                have fin : ∀ (o' : Nat), (sliced (some ⟨b, o, none⟩) l h (if mx.isSome then m else c') z = .slice (some ⟨b, o', none⟩) (h - l) ((if mx.isSome then m else c') - l)) →
                    o' ≤ o + l * z → l ≤ m →
                    val E ρ (.slice (some (i, o')) (h - l) (m - l) (ex || mx.isSome) z) (sliced (some ⟨b, o, none⟩) l h (if mx.isSome then m else c') z) := by
                  intro o' he ho' hlm
                  rw [he]
                  simp only [val]
                  have hmc : m ≤ (if mx.isSome then m else c') := by split <;> omega
                  have hcm : (if mx.isSome then m else c') ≤ c' := by split <;> omega
                  refine ⟨b, M, _, hib, rfl, by omega, ?_, ?_⟩
                  · intro hor
                    cases hms : mx.isSome with
                    | true => simp
                    | false =>
                      rw [hms] at hor
                      have hee := hex (by simpa using hor)
                      have : mx = none := by simpa using hms
                      subst this
                      simp only [boundA, Option.some.injEq] at hm
                      simp [hee, hm]
                  · generalize hq : (if mx.isSome = true then m else c') = q at *
                    have h1 : l ≤ q := by omega
                    have h2 : (q - l) * z + l * z = q * z := by rw [← Nat.add_mul]; congr 1; omega
                    have h3 : q * z ≤ c' * z := Nat.mul_le_mul_right z hcm
                    omega
                split at ha
                · rename_i hl0
                  simp only [Option.some.injEq] at ha
                  subst ha
                  subst hl0
                  refine ⟨_, run, ?_⟩
                  have := fin o (by simp only [sliced, Nat.zero_mul, Option.map_some, Addr.add_zero', ite_self]) (by omega) (by omega)
                  simpa using this
                · rename_i hl0
                  split at ha
                  · rename_i hlm
                    simp only [Option.some.injEq] at ha
                    subst ha
                    refine ⟨_, run, fin (o + l * z) ?_ (Nat.le_refl _) (by omega)⟩
                    have hne : (if mx.isSome = true then m else c') ≠ l := by split <;> omega
                    simp only [sliced, if_neg hne, Option.map_some, Addr.add_lit]
                  · rename_i hlm
                    split at ha
                    · rename_i hexx
                      simp only [Option.some.injEq] at ha
                      subst ha
                      have hlm' : l ≤ m := by omega
                      have hq : (if mx.isSome = true then m else c') = l := by
                        cases hms : mx.isSome with
                        | true => simp; omega
                        | false =>
                          have hee := hex (by simpa [hms] using hexx)
                          have : mx = none := by simpa using hms
                          subst this
                          simp only [boundA, Option.some.injEq] at hm
                          simp; omega
                      exact ⟨_, run, fin o (by simp only [sliced, if_pos hq]) (by omega) hlm'⟩
                    · simp at ha
  · simp at ha
end
end Go.Ev

/- Comparisons, conversions, structs, look-ups. -/
set_option linter.unusedVariables false
set_option linter.unusedSimpArgs false
namespace Go.Ev

section
variable {E : Env} {ρ : Rho} {P : Program} {F : Facts} {H : Heap} {w : World}

theorem strBin_ok {op : BinOp} {x y : List UInt8} {a : AV} {t : TypeId} {ox oy : Operand} (ha : strBin op x y = some a) :
    ∃ z, (do eqGuard op t ox oy (.string ⟨x.toArray⟩) (.string ⟨y.toArray⟩); binOp op t (.string ⟨x.toArray⟩) (.string ⟨y.toArray⟩)).run P w = .ok z w ∧ val E ρ a z := by
  have hb : ∀ p q : List UInt8, (p == q) = decide (p = q) := fun p q => by rw [Bool.eq_iff_iff]; simp
  cases op <;> simp only [strBin] at ha <;> try (simp at ha; done)
  case add =>
    split at ha
    · rename_i hl
      simp only [Option.some.injEq] at ha
      subst ha
      refine ⟨.string ⟨(x ++ y).toArray⟩, ?_, by simp [val, Env.bytes]⟩
      have hs : ¬ ((((⟨x.toArray⟩ : ByteArray).size + (⟨y.toArray⟩ : ByteArray).size : Nat) : Int) > IntKind.i64.max) := by
        rw [IntKind.max_i64]
        show ¬ (((x.toArray.size + y.toArray.size : Nat) : Int) > 9223372036854775807)
        simp only [List.size_toArray]
        omega
      have he : (⟨x.toArray⟩ ++ ⟨y.toArray⟩ : ByteArray) = ⟨(x ++ y).toArray⟩ := by
        apply ByteArray.ext
        rw [ByteArray.data_append]
        simp
      simp only [eqGuard_at_string, binOp_string_add, Op.stringOp, Sem.run_bind, Sem.run_pure, Result.andThen_ok]
      rw [if_neg hs, he]
      rfl
    · simp at ha
  all_goals
    simp only [Option.some.injEq] at ha
    subst ha
    refine ⟨_, ?_, by simp only [val]; rfl⟩
    simp [eqGuard_at_string, binOp, Op.stringOp, hb]

theorem sameAddr_ne {b b' o o' : Nat} {cs cs' : Array Value} {e e' : TypeId} (hb : w.heap[b]? = some (.cells cs e (0, 0))) (hb' : w.heap[b']? = some (.cells cs' e' (0, 0)))
    (hs : cs.size ≠ 0) (hs' : cs'.size ≠ 0) (hne : b ≠ b') : (sameAddr ⟨b, o, none⟩ ⟨b', o', none⟩).run P w = .ok false w := by
  have f1 : ∀ k, w.frozen? ⟨b, k, none⟩ = false := fun k => frozen_of_row w b k cs e hb
  have f2 : ∀ k, w.frozen? ⟨b', k, none⟩ = false := fun k => frozen_of_row w b' k cs' e' hb'
  have s1 : w.shape? b = some (e, cs.size) := by simp [World.shape?, hb]
  have s2 : w.shape? b' = some (e', cs'.size) := by simp [World.shape?, hb']
  have hn : (b == b') = false := by simpa using hne
  simp [sameAddr, hn, f1, f2, noView, viewAt, s1, s2, mayBeOne, stringish, hs, hs']

theorem sameAddr_eq {b o o' : Nat} : (sameAddr ⟨b, o, none⟩ ⟨b, o', none⟩).run P w = .ok (decide (o = o')) w := by
  simp [sameAddr]
  rw [Bool.eq_iff_iff]
  simp

theorem flatField_agg {f : Field} (h : flatField P f = true) : isAggA P f.type = some false ∧ f.name ≠ "_" := by
  simp only [flatField, Bool.and_eq_true] at h
  refine ⟨?_, by simpa using h.1⟩
  have hty := h.2
  unfold isAggA
  cases hd : P.underlying f.type with
  | none => simp [hd] at hty
  | some d => cases d <;> simp [hd] at hty ⊢

theorem eqOne_ok (hF : FactsOk E P F) {t : TypeId} {x y : AV} {u v : Value} {r : Bool} {d : Nat} (hx : val E ρ x u) (hy : val E ρ y v) (h : eqOne P F t x y = some r) :
    (Op.equalIn (d + 1) t u v).run P w = .ok r w := by
  unfold eqOne at h
  split at h
  · rename_i a b
    have e1 := val_bool hx
    have e2 := val_bool hy
    subst e1 e2
    split at h
    · rename_i hu
      simp only [Option.some.injEq] at h
      subst h
      exact run_equalIn_bool w d t a b hu
    · simp at h
  · rename_i j a k b
    have e1 := val_int hx
    have e2 := val_int hy
    subst e1 e2
    split at h
    · rename_i q hu
      split at h
      · rename_i hjk
        simp only [Option.some.injEq] at h
        subst h hjk
        rw [run_equalIn_int w d t j q a b hu]
        congr 1
      · simp at h
    · simp at h
  · rename_i a b
    have e1 := val_str hx
    have e2 := val_str hy
    subst e1 e2
    split at h
    · rename_i hu
      simp only [Option.some.injEq] at h
      subst h
      rw [run_equalIn_string w d t _ _ hu]
      congr 1
      rw [Bool.eq_iff_iff]
      simp
    · simp at h
  · rename_i a b _
    split at h
    · rename_i hu
      split at h
      · rename_i hab
        subst hab
        simp only [Option.some.injEq] at h
        subst h
        simp only [val] at hx hy
        subst hx hy
        rw [run_equalIn_string w d t _ _ hu]
        simp
      · split at h
        · rename_i q hq
          simp only [Option.some.injEq] at h
          subst h
          obtain ⟨s, s', rfl, rfl, e⟩ := hF.binEq _ _ _ hq ⟨_, rfl⟩ ρ u v hx hy
          rw [run_equalIn_string w d t _ _ hu, ← beq_toListBytes, e]
        · simp at h
    · simp at h
  · simp at h

theorem eqCells_ok (hF : FactsOk E P F) : ∀ (fs : List Field) (i : Nat) (xs ys : List AV) (us vs : Array Value) (r : Bool) (d : Nat),
    flatFields P fs i = true → vals E ρ xs (us.toList.drop i) → vals E ρ ys (vs.toList.drop i) → eqCells P F fs xs ys = some r →
    (Op.eqFields (d + 1) us vs fs).run P w = .ok r w
  | [], i, xs, ys, us, vs, r, d, hf, hx, hy, he => by
    simp only [eqCells, Option.some.injEq] at he
    subst he
    simp [Op.eqFields]
  | f :: fs, i, xs, ys, us, vs, r, d, hf, hx, hy, he => by
    cases xs with
    | nil => simp [eqCells] at he
    | cons x xs =>
      cases ys with
      | nil => simp [eqCells] at he
      | cons y ys =>
        simp only [flatFields, Bool.and_eq_true, beq_iff_eq] at hf
        obtain ⟨⟨hff, hoff⟩, hrest⟩ := hf
        obtain ⟨hag, hname⟩ := flatField_agg hff
        simp only [vals] at hx hy
        obtain ⟨u, ur, hu, hux, hur⟩ := hx
        obtain ⟨v, vr, hv, hvy, hvr⟩ := hy
        have hui : us[i]? = some u := by
          have := congrArg (fun l => l[0]?) hu
          simpa using this
        have hvi : vs[i]? = some v := by
          have := congrArg (fun l => l[0]?) hv
          simpa using this
        have hu1 : us.toList.drop (i + 1) = ur := by
          have := congrArg List.tail hu
          simpa using this
        have hv1 : vs.toList.drop (i + 1) = vr := by
          have := congrArg List.tail hv
          simpa using this
        have p1 : (part f.type us f.offset).run P w = .ok u w := by simp [part, isAggA_run hag, hoff, hui]
        have p2 : (part f.type vs f.offset).run P w = .ok v w := by simp [part, isAggA_run hag, hoff, hvi]
        simp only [eqCells] at he
        cases hq : eqOne P F f.type x y with
        | none => simp [hq] at he
        | some q =>
          have one := eqOne_ok (w := w) (d := d) hF hux hvy hq
          rw [hq] at he
          cases q with
          | false =>
            simp only [Option.some.injEq] at he
            subst he
            simp [Op.eqFields, hname, p1, p2, one]
          | true =>
            simp only at he
            have ih := eqCells_ok hF fs (i + 1) xs ys us vs r d hrest (by rw [hu1]; exact hur) (by rw [hv1]; exact hvr) he
            simp [Op.eqFields, hname, p1, p2, one, ih]

theorem maxDepth_succ : ∃ d, Op.maxDepth = d + 1 + 1 := ⟨9998, rfl⟩

set_option maxHeartbeats 4000000 in
/-- What a comparison by the type gives, and the test ahead of it. -/
theorem eqA_ok (hF : FactsOk E P F) (h : Rd E ρ H w) {op : BinOp} {t : TypeId} {x y : AV} {u v : Value} {r : Bool} {ox oy : Operand} (hop : op = .eql ∨ op = .neq)
    (hx : val E ρ x u) (hy : val E ρ y v) (he : eqA P F H t x y = some r) :
    (do eqGuard op t ox oy u v; binOp op t u v).run P w = .ok (.bool (if op = .eql then r else !r)) w := by
  have fin : (eqGuard op t ox oy u v).run P w = .ok () w → (∀ o : BinOp, o = .eql ∨ o = .neq → (binOp o t u v) = (if o = .eql then do pure (.bool (← Op.equal t u v)) else do pure (.bool (!(← Op.equal t u v))))) →
      (Op.equal t u v).run P w = .ok r w → (do eqGuard op t ox oy u v; binOp op t u v).run P w = .ok (.bool (if op = .eql then r else !r)) w := by
    intro h1 h2 h3
    rw [Sem.run_bind, h1, Result.andThen_ok, h2 op hop]
    rcases hop with rfl | rfl <;> simp [h3]
  obtain ⟨d, hd⟩ := maxDepth_succ
  unfold eqA at he
  split at he
  · rename_i e b hu
    simp only [val] at hx
    subst hx
    simp only [Option.some.injEq] at he
    subst he
    cases b with
    | none =>
      simp only [val] at hy
      subst hy
      refine fin (by rw [eqGuard_at_pointer]; rfl) (by rintro o (rfl | rfl) <;> simp [binOp]) ?_
      simp [Op.equal, hd, Op.equalIn, run_underlying hu]
    | some q =>
      obtain ⟨i, o⟩ := q
      obtain ⟨b, m, _, rfl⟩ := val_ptr hy
      refine fin (by rw [eqGuard_at_pointer]; rfl) (by rintro o (rfl | rfl) <;> simp [binOp]) ?_
      simp [Op.equal, hd, Op.equalIn, run_underlying hu]
  · rename_i e q hu
    obtain ⟨i, o⟩ := q
    obtain ⟨b, m, _, rfl⟩ := val_ptr hx
    simp only [val] at hy
    subst hy
    simp only [Option.some.injEq] at he
    subst he
    refine fin (by rw [eqGuard_at_pointer]; rfl) (by rintro o (rfl | rfl) <;> simp [binOp]) ?_
    simp [Op.equal, hd, Op.equalIn, run_underlying hu]
  · rename_i e i o j q hu
    obtain ⟨b, m, hi, rfl⟩ := val_ptr hx
    obtain ⟨b', m', hj, rfl⟩ := val_ptr hy
    split at he
    · rename_i n hn
      split at he
      · simp at he
      · rename_i hn0
        split at he
        · rename_i vs ta l1 r1 us tb l2 r2 hgi hgj
          split at he
          · rename_i hlt
            simp only [Option.some.injEq] at he
            subst he
            refine fin (by rw [eqGuard_at_pointer]; rfl) (by rintro o (rfl | rfl) <;> simp [binOp]) ?_
            have same : (sameAddr ⟨b, o, none⟩ ⟨b', q, none⟩).run P w = .ok (decide (i = j) && decide (o = q)) w := by
              by_cases hij : i = j
              · subst hij
                rw [hi] at hj
                simp only [Option.some.injEq, Prod.mk.injEq] at hj
                obtain ⟨rfl, rfl⟩ := hj
                rw [sameAddr_eq]
                simp
              · obtain ⟨cs, hb, hm, hle, _, hc⟩ := h.cells hi hgi
                obtain ⟨cs', hb', hm', hle', _, hc'⟩ := h.cells hj hgj
                have hbb : b ≠ b' := by
                  rintro rfl
                  exact hij (h.inj i j b m m' _ _ hi hj hgi hgj rfl rfl)
                rw [sameAddr_ne hb hb' (by omega) (by omega) hbb]
                simp [hij]
            simp [Op.equal, hd, Op.equalIn, run_underlying hu, sizeA_run hn, hn0, same]
          · simp at he
        · simp at he
    · simp at he
  · rename_i e n c ex z b n' c' ex' z' hu
    simp only [val] at hx
    obtain ⟨_, _, rfl⟩ := hx
    simp only [Option.some.injEq] at he
    subst he
    cases b with
    | none =>
      simp only [val] at hy
      obtain ⟨_, _, rfl⟩ := hy
      refine fin (by rw [eqGuard_at_slice]; rfl) (by rintro o (rfl | rfl) <;> simp [binOp]) ?_
      simp [Op.equal, hd, Op.equalIn, run_underlying hu]
    | some q =>
      obtain ⟨i, o⟩ := q
      obtain ⟨b, m, c', _, rfl, _⟩ := val_slice hy
      refine fin (by rw [eqGuard_at_slice]; rfl) (by rintro o (rfl | rfl) <;> simp [binOp]) ?_
      simp [Op.equal, hd, Op.equalIn, run_underlying hu]
  · rename_i e q n c ex z n' c' ex' z' hu
    obtain ⟨i, o⟩ := q
    obtain ⟨b, m, c', _, rfl, _⟩ := val_slice hx
    simp only [val] at hy
    obtain ⟨_, _, rfl⟩ := hy
    simp only [Option.some.injEq] at he
    subst he
    refine fin (by rw [eqGuard_at_slice]; rfl) (by rintro o (rfl | rfl) <;> simp [binOp]) ?_
    simp [Op.equal, hd, Op.equalIn, run_underlying hu]
  · rename_i kt et b hu
    simp only [val] at hx
    subst hx
    simp only [Option.some.injEq] at he
    subst he
    cases b with
    | none =>
      simp only [val] at hy
      subst hy
      refine fin (by rw [eqGuard_at_map]; rfl) (by rintro o (rfl | rfl) <;> simp [binOp]) ?_
      simp [Op.equal, hd, Op.equalIn, run_underlying hu]
    | some i =>
      simp only [val] at hy
      obtain ⟨b, m, _, rfl⟩ := hy
      refine fin (by rw [eqGuard_at_map]; rfl) (by rintro o (rfl | rfl) <;> simp [binOp]) ?_
      simp [Op.equal, hd, Op.equalIn, run_underlying hu]
  · rename_i kt et i hu
    simp only [val] at hx hy
    obtain ⟨b, m, _, rfl⟩ := hx
    subst hy
    simp only [Option.some.injEq] at he
    subst he
    refine fin (by rw [eqGuard_at_map]; rfl) (by rintro o (rfl | rfl) <;> simp [binOp]) ?_
    simp [Op.equal, hd, Op.equalIn, run_underlying hu]
  · rename_i a b c hu
    simp only [val] at hx hy
    subst hx hy
    simp only [Option.some.injEq] at he
    subst he
    refine fin (by rw [eqGuard_at_nilFunc]; rfl) (by rintro o (rfl | rfl) <;> simp [binOp]) ?_
    simp [Op.equal, hd, Op.equalIn, run_underlying hu]
  · rename_i a b c f xs ys hu
    simp only [val] at hx hy
    subst hx
    obtain ⟨us, ws, rfl, _⟩ := hy
    simp only [Option.some.injEq] at he
    subst he
    refine fin (by rw [eqGuard_at_nilFunc]; rfl) (by rintro o (rfl | rfl) <;> simp [binOp]) ?_
    simp [Op.equal, hd, Op.equalIn, run_underlying hu]
  · rename_i a b c f xs ys hu
    simp only [val] at hx hy
    obtain ⟨us, ws, rfl, _⟩ := hx
    subst hy
    simp only [Option.some.injEq] at he
    subst he
    refine fin (by rw [eqGuard_at_func]; rfl) (by rintro o (rfl | rfl) <;> simp [binOp]) ?_
    simp [Op.equal, hd, Op.equalIn, run_underlying hu]
  · rename_i ms t' x' hu
    simp only [val] at hx hy
    subst hx
    obtain ⟨q, rfl, _⟩ := hy
    simp only [Option.some.injEq] at he
    subst he
    refine fin (by rw [eqGuard_nil_iface]; rfl) (by rintro o (rfl | rfl) <;> simp [binOp]) ?_
    simp [Op.equal, hd, Op.equalIn, run_underlying hu]
  · rename_i ms t' x' hu
    simp only [val] at hx hy
    obtain ⟨q, rfl, _⟩ := hx
    subst hy
    simp only [Option.some.injEq] at he
    subst he
    refine fin (by rw [eqGuard_at_iface]; rfl) (by rintro o (rfl | rfl) <;> simp [binOp]) ?_
    simp [Op.equal, hd, Op.equalIn, run_underlying hu]
  · rename_i fs a b hu
    split at he
    · rename_i hfl
      obtain ⟨us, rfl, hus⟩ := val_agg hx
      obtain ⟨vs, rfl, hvs⟩ := val_agg hy
      simp only [flatType, hu, Bool.and_eq_true, Bool.not_eq_true'] at hfl
      obtain ⟨⟨h1, h2⟩, h3⟩ := hfl
      have hfo : P.fieldsOf t = fs := by simp [Program.fieldsOf, hu]
      have hc := eqCells_ok (w := w) hF fs.toList 0 a b us vs r d h1 (by simpa using hus) (by simpa using hvs) he
      refine fin (run_eqGuard_agg w op t ox oy us vs h2) (by rintro o (rfl | rfl) <;> simp [binOp]) ?_
      have := run_equalIn_struct (P := P) w (d + 1) t us vs (by rw [hfo]; exact hu) h3
      rw [hfo] at this
      simp only [Op.equal, hd]
      rw [this, hc]
    · simp at he
  · simp at he

theorem bin_ok (hF : FactsOk E P F) (h : Rd E ρ H w) {op : BinOp} {t : TypeId} {x y a : AV} {u v : Value} {ox oy : Operand}
    (hx : val E ρ x u) (hy : val E ρ y v) (he : binA P F H op t x y = some a) :
    ∃ z, (do eqGuard op t ox oy u v; binOp op t u v).run P w = .ok z w ∧ val E ρ a z := by
  have fact : F.bin op x y = some a → ∃ z, (do eqGuard op t ox oy u v; binOp op t u v).run P w = .ok z w ∧ val E ρ a z := by
    intro hb
    obtain ⟨z, h1, h2⟩ := hF.bin op x y a hb ρ u v hx hy
    exact ⟨z, h2 t ox oy w, h1⟩
  unfold binA at he
  split at he
  · have e1 := val_str hx
    have e2 := val_str hy
    subst e1 e2
    exact strBin_ok he
  · rename_i j p k q
    have e1 := val_int hx
    have e2 := val_int hy
    subst e1 e2
    split at he
    · rename_i z hz
      refine ⟨z, ?_, ofV_val z a he⟩
      rw [eqGuard_at_int]
      exact pureSem_run P _ z hz w
    · simp at he
  · rename_i p q
    have e1 := val_bool hx
    have e2 := val_bool hy
    subst e1 e2
    split at he
    · rename_i hu
      simp only [Option.some.injEq] at he
      subst he
      refine ⟨.bool (p == q), ?_, by simp [val]⟩
      rw [eqGuard_at_bool]
      exact run_eql_bool w t p q hu
    · rename_i hu
      simp only [Option.some.injEq] at he
      subst he
      refine ⟨.bool (!(p == q)), ?_, by simp [val]⟩
      rw [eqGuard_at_bool]
      exact run_neq_bool w t p q hu
    · simp at he
  · rename_i p q
    split at he
    · rename_i hpq
      obtain ⟨rfl, rfl⟩ := hpq
      simp only [Option.some.injEq] at he
      subst he
      simp only [val] at hx hy
      subst hx hy
      exact ⟨.bool true, by simp [eqGuard_at_string, binOp_string_eql], by simp [val]⟩
    · split at he
      · rename_i hpq
        obtain ⟨rfl, rfl⟩ := hpq
        simp only [Option.some.injEq] at he
        subst he
        simp only [val] at hx hy
        subst hx hy
        exact ⟨.bool false, by simp [eqGuard_at_string, binOp_string_neq], by simp [val]⟩
      · exact fact he
  · exact fact he
  · exact fact he
  · exact fact he
  · exact fact he
  · exact fact he
  · exact fact he
  · split at he
    · simp only [Option.map_eq_some_iff] at he
      obtain ⟨r, hr, rfl⟩ := he
      exact ⟨.bool r, by simpa using eqA_ok (ox := ox) (oy := oy) hF h (.inl rfl) hx hy hr, by simp [val]⟩
    · simp only [Option.map_eq_some_iff] at he
      obtain ⟨r, hr, rfl⟩ := he
      exact ⟨.bool (!r), by simpa using eqA_ok (ox := ox) (oy := oy) hF h (.inr rfl) hx hy hr, by simp [val]⟩
    · simp at he

end
end Go.Ev

/- Conversions, structs, look-ups, min and max. -/
set_option linter.unusedVariables false
set_option linter.unusedSimpArgs false
namespace Go.Ev

section
variable {E : Env} {ρ : Rho} {P : Program} {F : Facts} {H : Heap} {w : World}

theorem un_ok {op : UnOp} {x a : AV} {u : Value} (hx : val E ρ x u) (he : unA P op x = some a) : ∃ z, (Op.unary op u).run P w = .ok z w ∧ val E ρ a z := by
  unfold unA at he
  split at he
  · rename_i v hv
    have := toV_val x v u hv hx
    subst this
    split at he
    · rename_i r hr
      exact ⟨r, pureSem_run P _ r hr w, ofV_val r a he⟩
    · simp at he
  · simp at he

theorem mm_ok {b : Builtin} {xs : List AV} {vs : Array Value} {a : AV} {ts : Array TypeId} {t : TypeId} (hb : b = .max ∨ b = .min) (hx : vals E ρ xs vs.toList) (he : mm b xs = some a) :
    ∃ z, (if b = .max then Builtin.max_ ts t vs else Builtin.min_ ts t vs).run P w = .ok z w ∧ val E ρ a z := by
  unfold mm at he
  split at he
  · rename_i j p k q
    simp only [vals] at hx
    obtain ⟨v1, r1, h1, e1, v2, r2, rfl, e2, rfl⟩ := hx
    have e1 := val_int e1
    have e2 := val_int e2
    subst e1 e2
    have hv : vs = #[.int j p, .int k q] := by apply Array.ext'; simpa using h1
    subst hv
    split at he
    · simp only [Option.some.injEq] at he
      subst he
      exact ⟨_, by rw [if_pos rfl]; exact run_max_int2 (P := P) w ts t j k p q, by simp [val]⟩
    · simp only [Option.some.injEq] at he
      subst he
      exact ⟨_, by rw [if_neg (by simp)]; exact run_min_int2 (P := P) w ts t j k p q, by simp [val]⟩
    · simp at he
  · simp at he

theorem bytes_vals : ∀ (cs : List AV) (vs : List Value) (l : List UInt8), vals E ρ cs vs → bytesOf cs = some l →
    ∃ ns : List Int, vs = ns.map (Value.int .u8) ∧ l = ns.map fun n => UInt8.ofNat n.toNat
  | [], vs, l, h, hb => by
    simp only [bytesOf, Option.some.injEq] at hb
    subst hb
    rw [vals_nil_inv h]
    exact ⟨[], rfl, rfl⟩
  | c :: cs, vs, l, h, hb => by
    simp only [vals] at h
    obtain ⟨v, r, rfl, h1, h2⟩ := h
    unfold bytesOf at hb
    split at hb
    · rename_i heq
      simp at heq
    · rename_i n r' heq
      simp only [List.cons.injEq] at heq
      obtain ⟨rfl, rfl⟩ := heq
      simp only [Option.map_eq_some_iff] at hb
      obtain ⟨l', hl', rfl⟩ := hb
      have e := val_int h1
      subst e
      obtain ⟨ns, rfl, rfl⟩ := bytes_vals cs r l' h2 hl'
      exact ⟨n :: ns, rfl, rfl⟩
    · simp at hb

theorem foldl_bytes : ∀ (ns : List Int) (s : ByteArray), ns.foldl (fun r n => r.push (UInt8.ofNat n.toNat)) s = ⟨s.data ++ (ns.map fun n => UInt8.ofNat n.toNat).toArray⟩
  | [], s => by simp
  | n :: ns, s => by
    simp only [List.foldl_cons, List.map_cons]
    rw [foldl_bytes ns]
    apply ByteArray.ext
    show (s.push (UInt8.ofNat n.toNat)).data ++ _ = s.data ++ _
    rw [ByteArray.data_push]
    apply Array.ext'
    simp

theorem conv_ok (h : Rd E ρ H w) {s d : TypeId} {x a : AV} {u : Value} (hx : val E ρ x u) (he : convA P H s d x = some a) :
    ∃ z, (convert s d u).run P w = .ok z w ∧ val E ρ a z := by
  unfold convA at he
  split at he
  · rename_i d1 k j n h1 h2
    have e := val_int hx
    subst e
    simp only [Option.some.injEq] at he
    subst he
    refine ⟨.int k (k.wrap n), ?_, by simp [val]⟩
    cases d1 <;> simp [convert, run_underlying h1, run_underlying h2, Conv.intToInt]
  · rename_i d1 st h1 h2
    simp only [val] at hx
    subst hx
    simp only [Option.some.injEq] at he
    subst he
    refine ⟨.string ⟨(E.bytes st).toArray⟩, ?_, by simp [val]⟩
    cases d1 <;> simp [convert, run_underlying h1, run_underlying h2]
  · rename_i e p n c ex z h1 h2
    split at he
    · rename_i h3
      simp only [Option.some.injEq] at he
      subst he
      simp only [val] at hx
      obtain ⟨_, _, rfl⟩ := hx
      refine ⟨.string .empty, ?_, by simp [val, Env.bytes]; rfl⟩
      simp [convert, run_underlying h1, run_underlying h2, run_underlying h3, Conv.bytesToString]
    · rename_i i o h3
      split at he
      · rename_i vs t lo ro hg
        split at he
        · rename_i cs hcs
          simp only [Option.map_eq_some_iff] at he
          obtain ⟨l, hl, rfl⟩ := he
          obtain ⟨b, m, c', hi, rfl, _⟩ := val_slice hx
          obtain ⟨us, g1, g2, g3⟩ := h.run hi hg hcs
          have hc := run_loadCells_list (P := P) w ⟨b, o, none⟩ us g3
          rw [g1] at hc
          obtain ⟨ns, rfl, rfl⟩ := bytes_vals cs us l g2 hl
          refine ⟨.string ⟨(ns.map fun n => UInt8.ofNat n.toNat).toArray⟩, ?_, by simp [val, Env.bytes]⟩
          rw [run_convert_bytes_string w s d e _ n c' h1 h3 h2, run_bytesToString w ⟨b, o, none⟩ n c' ns hc, foldl_bytes]
          congr 2
          apply ByteArray.ext
          apply Array.ext'
          simp
        · simp at he
      · simp at he
    · simp at he
  · simp at he

theorem setL_all : ∀ (xs zs : List AV) (o : Nat), zs.all oneA = true → xs.all oneA = true → (setL zs o xs).all oneA = true
  | [], zs, o, h, _ => by simpa [setL] using h
  | x :: xs, zs, o, h, hx => by
    simp only [setL]
    simp only [List.all_cons, Bool.and_eq_true] at hx
    refine setL_all xs _ _ ?_ hx.2
    rw [List.all_eq_true] at h ⊢
    intro y hy
    rcases List.mem_or_eq_of_mem_set hy with hy | rfl
    · exact h y hy
    · exact hx.1
theorem setL_length : ∀ (xs zs : List AV) (o : Nat), (setL zs o xs).length = zs.length
  | [], zs, o => by simp [setL]
  | x :: xs, zs, o => by simp [setL, setL_length xs]

theorem fill_cells : ∀ (xs : List AV) (vs : List Value) (zs : List AV) (us : Array Value) (off k : Nat), vals E ρ xs vs → vals E ρ zs us.toList →
    vals E ρ (setL zs (off + k) xs) ((vs.zipIdx k).foldl (fun cs p => cs.setIfInBounds (off + p.2) p.1) us).toList
  | [], vs, zs, us, off, k, hx, hz => by rw [vals_nil_inv hx]; simpa [setL] using hz
  | x :: xs, vs, zs, us, off, k, hx, hz => by
    simp only [vals] at hx
    obtain ⟨v, r, rfl, h1, h2⟩ := hx
    simp only [List.zipIdx_cons, List.foldl_cons, setL]
    have := fill_cells xs r (zs.set (off + k) x) (us.setIfInBounds (off + k) v) off (k + 1) h2 (by
      rw [Array.toList_setIfInBounds]
      exact vals_set hz (off + k) h1)
    simpa [Nat.add_assoc] using this

theorem fill_ok (hE : E.Ok) {place : Nat → Option (Nat × Nat)} : ∀ (ps : List (Nat × AV)) (qs : List (Nat × Value)) (zs cs : List AV) (us : Array Value),
    qs.map (·.1) = ps.map (·.1) → vals E ρ (ps.map (·.2)) (qs.map (·.2)) → vals E ρ zs us.toList → zs.all oneA = true → fillA place zs ps = some cs →
    ∃ rs, Instr.fill place us qs = some rs ∧ vals E ρ cs rs.toList ∧ cs.all oneA = true ∧ cs.length = zs.length
  | [], qs, zs, cs, us, h1, h2, h3, h4, h5 => by
    simp only [fillA, Option.some.injEq] at h5
    subst h5
    have : qs = [] := by simpa using h1
    subst this
    exact ⟨us, by simp [Instr.fill], h3, h4, rfl⟩
  | (i, x) :: ps, qs, zs, cs, us, h1, h2, h3, h4, h5 => by
    cases qs with
    | nil => simp at h1
    | cons q qs =>
      obtain ⟨j, v⟩ := q
      simp only [List.map_cons, List.cons.injEq] at h1
      obtain ⟨rfl, h1⟩ := h1
      simp only [List.map_cons, vals] at h2
      obtain ⟨v', r', e, hv, hr⟩ := h2
      simp only [List.cons.injEq] at e
      obtain ⟨rfl, rfl⟩ := e
      simp only [fillA] at h5
      cases hp : place j with
      | none => simp [hp] at h5
      | some pl =>
        obtain ⟨off, size⟩ := pl
        cases hc : cellsA x with
        | none => simp [hp, hc] at h5
        | some xs =>
          simp only [hp, hc] at h5
          split at h5
          · rename_i hcond
            obtain ⟨hsz, hroom⟩ := hcond
            obtain ⟨g1, g2⟩ := cellsA_val hE hc hv
            have hlen := vals_length g1
            have hul := vals_length h3
            have hul' : us.size = us.toList.length := by simp
            have hvs' : v.cells.size = v.cells.toList.length := by simp
            have hvs : v.cells.size = size := by omega
            have hcnd : (v.cells.size ≠ size || decide (off + v.cells.size > us.size)) = false := by
              have : ¬ (off + v.cells.size > us.size) := by omega
              simp only [hvs, ne_eq, not_true_eq_false, decide_false, Bool.false_or, decide_eq_false_iff_not]
              omega
            have e : v.cells.zipIdx.foldl (fun cs (p : Value × Nat) => cs.setIfInBounds (off + p.2) p.1) us = (v.cells.toList.zipIdx 0).foldl (fun cs p => cs.setIfInBounds (off + p.2) p.1) us := by
              rw [← Array.foldl_toList]
              simp
            have g3 := fill_cells xs v.cells.toList zs us off 0 g1 h3
            rw [← e, Nat.add_zero] at g3
            obtain ⟨rs, k1, k2, k3, k4⟩ := fill_ok hE ps qs (setL zs off xs) cs _ h1 hr g3 (setL_all xs zs off h4 g2) h5
            refine ⟨rs, ?_, k2, k3, by rw [k4, setL_length]⟩
            simp only [Instr.fill, hp, hcnd, Bool.false_eq_true, if_false]
            exact k1
          · simp at h5

theorem places_ok : ∀ (fs : List Field) (pl : List (Nat × Nat)), placesA P fs = some pl → fs.mapM (fun f => (P.info? f.type).map fun i => (f.offset, i.size)) = some pl
  | [], pl, h => by simp [placesA] at h; subst h; simp
  | f :: fs, pl, h => by
    simp only [placesA, Option.bind_eq_some_iff, Option.map_eq_some_iff, sizeA] at h
    obtain ⟨n, ⟨i, hi, rfl⟩, r, hr, rfl⟩ := h
    simp [List.mapM_cons, hi, places_ok fs r hr]

/-- The parts of a literal beside the evaluator's. -/
def partsV (ev : Operand → Value) (ps : Array (Nat × Operand)) : Array (Nat × Value) := ps.map fun (i, x) => (i, ev x)
theorem parts_rel {ts : List AV} {a : Act} (h : vals E ρ ts a.tmps.toList) (ps : Array (Nat × Operand)) :
    (partsV a.eval ps).toList.map (·.1) = (parts (evA ts) ps).map (·.1) ∧ vals E ρ ((parts (evA ts) ps).map (·.2)) ((partsV a.eval ps).toList.map (·.2)) := by
  obtain ⟨l⟩ := ps
  simp only [partsV, parts]
  refine ⟨by simp [Function.comp_def], ?_⟩
  simp only [List.map_toArray, List.map_map, Function.comp_def]
  induction l with
  | nil => exact vals_nil
  | cons p l ih => simp only [List.map_cons]; exact vals_cons (evA_val h _) ih

theorem zero_cells (hE : E.Ok) {t : TypeId} {zs : List AV} (h : (zeroA P t).bind cellsA = some zs) :
    ∃ z i, (zeroValue t).run P w = .ok z w ∧ P.info? t = some i ∧ i.zero = some z ∧ vals E ρ zs z.cells.toList ∧ zs.all oneA = true := by
  simp only [Option.bind_eq_some_iff] at h
  obtain ⟨a, ha, hc⟩ := h
  obtain ⟨v, h1, h2, i, h3, h4⟩ := zeroA_run (P := P) (E := E) (ρ := ρ) (w := w) ha
  obtain ⟨h5, h6⟩ := cellsA_val hE hc h2
  exact ⟨v, i, h1, h3, h4, h5, h6⟩

theorem build_ok (hE : E.Ok) {t : TypeId} {ps : Array (Nat × Operand)} {ts : List AV} {a : Act} {r : AV} (h : vals E ρ ts a.tmps.toList) (he : buildA P t (parts (evA ts) ps) = some r) :
    ∃ z, (Instr.build t (partsV a.eval ps)).run P w = .ok z w ∧ val E ρ r z := by
  unfold buildA at he
  split at he
  · rename_i fields zs hu hz
    split at he
    · rename_i pl hpl
      simp only [Option.map_eq_some_iff] at he
      obtain ⟨cs, hcs, rfl⟩ := he
      obtain ⟨z, i, h1, h2, h3, h4, h5⟩ := zero_cells (w := w) hE hz
      obtain ⟨p1, p2⟩ := parts_rel h ps
      obtain ⟨rs, g1, g2, g3, _⟩ := fill_ok hE _ _ zs cs z.cells p1 p2 h4 h5 hcs
      refine ⟨.agg rs, run_build (P := P) w t _ rs ?_, by simp only [val]; exact ⟨rs, rfl, g2⟩⟩
      unfold Program.built
      simp only [h2, hu, h3, places_ok _ _ hpl]
      have e : (fun x : Nat => pl.toArray[x]?) = (fun x => pl[x]?) := by funext x; simp
      rw [e]
      exact g1
    · simp at he
  · simp at he

/-! ### Maps -/
theorem keyEq_same {k k' : AV} {b : Bool} (h : keyEq k k' = some b) : b = true → k = k' := by
  intro hb
  subst hb
  unfold keyEq at h
  split at h <;> simp_all

theorem key_equal (h : Rd E ρ H w) {t : TypeId} {k k' : AV} {v v' : Value} {b : Bool} (hk : keyOk P H t k = true) (hk' : keyOk P H t k' = true) (hv : val E ρ k v) (hv' : val E ρ k' v')
    (he : keyEq k k' = some b) : (Op.equal t v v').run P w = .ok b w ∧ (match P.underlying t with | some (.pointer _) => True | some d => Instr.sameNow d v v' = some b | none => True) := by
  obtain ⟨d, hd⟩ := maxDepth_succ
  unfold keyEq at he
  split at he
  · rename_i p q
    have e1 := val_str hv
    have e2 := val_str hv'
    subst e1 e2
    simp only [Option.some.injEq] at he
    subst he
    cases hu : P.underlying t with
    | none => simp [keyOk, hu] at hk
    | some dd =>
      cases dd <;> simp [keyOk, hu] at hk
      have e : ((⟨p.toArray⟩ : ByteArray) == ⟨q.toArray⟩) = decide (p = q) := by
        rw [beq_toListBytes, Bool.eq_iff_iff]; simp
      refine ⟨?_, by simp [Instr.sameNow, e]⟩
      simp only [Op.equal, hd]
      rw [run_equalIn_string w (d + 1) t _ _ hu, ← beq_toListBytes, e]
  · rename_i j p k q
    have e1 := val_int hv
    have e2 := val_int hv'
    subst e1 e2
    split at he
    · rename_i hjk
      subst hjk
      simp only [Option.some.injEq] at he
      subst he
      cases hu : P.underlying t with
      | none => simp [keyOk, hu] at hk
      | some dd =>
        cases dd <;> simp [keyOk, hu] at hk
        rename_i kk
        have e : (p == q) = decide (p = q) := by rw [Bool.eq_iff_iff]; simp
        refine ⟨?_, by simp [Instr.sameNow, e]⟩
        simp only [Op.equal, hd]
        rw [run_equalIn_int w (d + 1) t j kk p q hu, e]
    · simp at he
  · rename_i p q
    obtain ⟨i, o⟩ := p
    obtain ⟨j, o'⟩ := q
    simp only [Option.some.injEq] at he
    subst he
    obtain ⟨b, m, hi, rfl⟩ := val_ptr hv
    obtain ⟨b', m', hj, rfl⟩ := val_ptr hv'
    simp only [keyOk, Bool.and_eq_true] at hk hk'
    cases hu : P.underlying t with
    | none => simp [hu] at hk
    | some dd =>
      cases dd <;> simp [hu] at hk
      rename_i e
      refine ⟨?_, trivial⟩
      cases hs : sizeA P e with
      | none => simp [hs] at hk
      | some n =>
        simp only [hs] at hk
        have hn0 : n ≠ 0 := by have := hk.1; simp at this; omega
        cases hgi : H.get i with
        | none => simp [hgi] at hk
        | some B =>
          cases hgj : H.get j with
          | none => simp [hgj] at hk'
          | some C =>
            cases B with
            | dead => simp [hgi] at hk
            | map es => simp [hgi] at hk
            | cells vs ta l1 r1 =>
              cases C with
              | dead => simp [hgj] at hk'
              | map es => simp [hgj] at hk'
              | cells us tb l2 r2 =>
                simp only [hgi, hgj] at hk hk'
                have h1 : o < vs.length := by simpa using hk.2
                have h2 : o' < us.length := by simpa using hk'.2
                have same : (sameAddr ⟨b, o, none⟩ ⟨b', o', none⟩).run P w = .ok (decide ((i, o) = (j, o'))) w := by
                  by_cases hij : i = j
                  · subst hij
                    rw [hi] at hj
                    simp only [Option.some.injEq, Prod.mk.injEq] at hj
                    obtain ⟨rfl, rfl⟩ := hj
                    rw [sameAddr_eq]
                    simp
                  · obtain ⟨cs, hb, hm, hle, _, hc⟩ := h.cells hi hgi
                    obtain ⟨cs', hb', hm', hle', _, hc'⟩ := h.cells hj hgj
                    have hbb : b ≠ b' := by
                      rintro rfl
                      exact hij (h.inj i j b m m' _ _ hi hj hgi hgj rfl rfl)
                    rw [sameAddr_ne hb hb' (by omega) (by omega) hbb]
                    simp [hij]
                simp [Op.equal, hd, Op.equalIn, run_underlying hu, sizeA_run hs, hn0, same]
  · simp at he

end
end Go.Ev

/- Maps. -/
set_option linter.unusedVariables false
set_option linter.unusedSimpArgs false
namespace Go.Ev

section
variable {E : Env} {ρ : Rho} {P : Program} {F : Facts} {H : Heap} {w : World}

theorem checkKey_succ {t : TypeId} {k : AV} {v : Value} {em : Bool} {n : Nat} (hk : keyOk P H t k = true) (hv : val E ρ k v) : (Instr.checkKey em (n + 1) t v).run P w = .ok () w := by
  unfold keyOk at hk
  split at hk
  · have e := val_str hv
    subst e
    cases hu : P.underlying t with
    | none => simp [hu] at hk
    | some d => cases d <;> simp [hu] at hk; simp [Instr.checkKey, run_underlying hu]
  · have e := val_int hv
    subst e
    cases hu : P.underlying t with
    | none => simp [hu] at hk
    | some d => cases d <;> simp [hu] at hk; simp [Instr.checkKey, run_underlying hu]
  · obtain ⟨b, m, _, rfl⟩ := val_ptr hv
    cases hu : P.underlying t with
    | none => simp [hu] at hk
    | some d => cases d <;> simp [hu] at hk; simp [Instr.checkKey, run_underlying hu]
  · simp at hk
theorem checkKey_run {t : TypeId} {k : AV} {v : Value} {em : Bool} (hk : keyOk P H t k = true) (hv : val E ρ k v) : (Instr.checkKey em 10000 t v).run P w = .ok () w :=
  checkKey_succ (n := 9999) hk hv

theorem key_unique {t : TypeId} {k : AV} {u v : Value} (hk : keyOk P H t k = true) (hu : val E ρ k u) (hv : val E ρ k v) : u = v := by
  unfold keyOk at hk
  split at hk
  · rw [val_str hu, val_str hv]
  · rw [val_int hu, val_int hv]
  · obtain ⟨b, m, h1, rfl⟩ := val_ptr hu
    obtain ⟨b', m', h2, rfl⟩ := val_ptr hv
    rw [h1] at h2
    simp only [Option.some.injEq, Prod.mk.injEq] at h2
    rw [h2.1]
  · simp at hk

theorem sameBits_key {t : TypeId} {k : AV} {v : Value} (hk : keyOk P H t k = true) (hv : val E ρ k v) : Instr.sameBits 10000 v v = true := by
  unfold keyOk at hk
  split at hk
  · rw [val_str hv]; simp [Instr.sameBits, beq_toListBytes]
  · rw [val_int hv]; simp [Instr.sameBits]
  · obtain ⟨b, m, h1, rfl⟩ := val_ptr hv; simp [Instr.sameBits]
  · simp at hk

/-- What the search in the model's list comes to. -/
def found (E : Env) (ρ : Rho) : Option (Nat × AV) → Option (Nat × Value) → Prop
  | none, none => True
  | some (i, a), some (j, v) => i = j ∧ val E ρ a v
  | _, _ => False

theorem find_run (h : Rd E ρ H w) {t : TypeId} {k : AV} {v : Value} (hk : keyOk P H t k = true) (hv : val E ρ k v) :
    ∀ (es : List (AV × AV)) (ms : List MapEntry) (i : Nat) (r : Option (Nat × AV)), entsRel E ρ es ms → es.all (fun e => keyOk P H t e.1) = true → findA k es i = some r →
    ∃ r', found E ρ r r' ∧ (Instr.findAsking t v ms i).run P w = .ok r' w ∧
      (∀ d, P.underlying t = some d → (∀ e, d ≠ .pointer e) → Instr.findNow d v ms i = some r')
  | [], ms, i, r, hr, ha, hf => by
    simp only [entsRel] at hr
    subst hr
    simp only [findA, Option.some.injEq] at hf
    subst hf
    exact ⟨none, by simp [found], by simp [Instr.findAsking], by intro d _ _; simp [Instr.findNow]⟩
  | (k', x) :: es, ms, i, r, hr, ha, hf => by
    simp only [entsRel] at hr
    obtain ⟨m, rest, rfl, h1, h2, h3⟩ := hr
    simp only [List.all_cons, Bool.and_eq_true] at ha
    simp only [findA] at hf
    cases hq : keyEq k k' with
    | none => simp [hq] at hf
    | some q =>
      obtain ⟨e1, e2⟩ := key_equal h hk ha.1 hv h1 hq
      rw [hq] at hf
      cases q with
      | true =>
        simp only [Option.some.injEq] at hf
        subst hf
        refine ⟨some (i, m.val), ⟨rfl, h2⟩, by simp [Instr.findAsking, e1], ?_⟩
        intro d hd hp
        rw [hd] at e2
        cases d <;> simp only at e2 <;> first | (exact absurd rfl (hp _)) | (simp [Instr.findNow, e2])
      | false =>
        simp only at hf
        obtain ⟨r', g1, g2, g3⟩ := find_run h hk hv es rest (i + 1) r h3 ha.2 hf
        refine ⟨r', g1, by simp [Instr.findAsking, e1, g2], ?_⟩
        intro d hd hp
        rw [hd] at e2
        have g := g3 d hd hp
        cases d <;> simp only at e2 <;> first | (exact absurd rfl (hp _)) | (simp [Instr.findNow, e2, g])

theorem findKey_run (h : Rd E ρ H w) {t : TypeId} {k : AV} {v : Value} {es : List (AV × AV)} {ms : List MapEntry} {r : Option (Nat × AV)} (hk : keyOk P H t k = true) (hv : val E ρ k v)
    (hr : entsRel E ρ es ms) (ha : es.all (fun e => keyOk P H t e.1) = true) (hf : findA k es 0 = some r) :
    ∃ r', found E ρ r r' ∧ (Instr.findKey t v ms).run P w = .ok r' w := by
  obtain ⟨r', g1, g2, g3⟩ := find_run h hk hv es ms 0 r hr ha hf
  refine ⟨r', g1, ?_⟩
  cases hu : P.underlying t with
  | none =>
    unfold keyOk at hk
    split at hk <;> simp [hu] at hk
  | some d =>
    simp only [Instr.findKey, Sem.run_bind, run_underlying hu, Result.andThen_ok]
    by_cases hp : ∃ e, d = .pointer e
    · obtain ⟨e, rfl⟩ := hp
      cases ms with
      | nil =>
        simp only [Instr.findNow]
        simpa [Instr.findAsking] using g2
      | cons m ms =>
        simp only [Instr.findNow, Instr.sameNow]
        exact g2
    · rw [g3 d hu (fun e he => hp ⟨e, he⟩)]
      simp

theorem findA_at {k : AV} : ∀ (es : List (AV × AV)) (i j : Nat) (a : AV), findA k es i = some (some (j, a)) → i ≤ j ∧ ∃ k', es[j - i]? = some (k', a) ∧ keyEq k k' = some true
  | [], i, j, a, h => by simp [findA] at h
  | (k', x) :: es, i, j, a, h => by
    simp only [findA] at h
    cases hq : keyEq k k' with
    | none => simp [hq] at h
    | some q =>
      rw [hq] at h
      cases q with
      | true =>
        simp only [Option.some.injEq, Prod.mk.injEq] at h
        obtain ⟨rfl, rfl⟩ := h
        exact ⟨Nat.le_refl _, k', by simp, hq⟩
      | false =>
        obtain ⟨h1, k2, h2, h3⟩ := findA_at es (i + 1) j a h
        refine ⟨by omega, k2, ?_, h3⟩
        have : j - i = (j - (i + 1)) + 1 := by omega
        rw [this]
        simpa using h2

/-- A look-up, the entries at hand. -/
def lookRest (kT eT : TypeId) (v : Value) (ok : Bool) (es : Array MapEntry) : Sem Value := do
  Instr.checkKey es.isEmpty 10000 kT v
  let (x, ok') ← match ← Instr.findKey kT v es.toList with
    | some (_, x) => pure (x, true)
    | none => pure (← zeroValue eT, false)
  pure (if ok then .tuple #[x, .bool ok'] else x)

theorem lookRest_ok (h : Rd E ρ H w) {kT eT : TypeId} {k a : AV} {v : Value} {ok : Bool} {es : List (AV × AV)} {ms : Array MapEntry} (hk : val E ρ k v) (hr : entsRel E ρ es ms.toList)
    (h1 : keyOk P H kT k = true) (h2 : es.all (fun e => keyOk P H kT e.1) = true)
    (he : (match findA k es 0 with
        | none => none
        | some (some (_, v)) => some (if ok then .tuple [v, .bool true] else v)
        | some none => (zeroA P eT).map fun z => if ok then AV.tuple [z, .bool false] else z) = some a) :
    ∃ z, (lookRest kT eT v ok ms).run P w = .ok z w ∧ val E ρ a z := by
  have hck : (Instr.checkKey ms.isEmpty 10000 kT v).run P w = .ok () w := checkKey_run h1 hk
  split at he
  · simp at he
  · rename_i j v' hf
    simp only [Option.some.injEq] at he
    subst he
    obtain ⟨r', g1, g2⟩ := findKey_run h h1 hk hr h2 hf
    cases r' with
    | none => simp [found] at g1
    | some q =>
      obtain ⟨j', z⟩ := q
      simp only [found] at g1
      refine ⟨if ok then .tuple #[z, .bool true] else z, by simp [lookRest, hck, g2], ?_⟩
      cases ok with
      | true =>
        simp only [if_true, val]
        exact ⟨_, rfl, vals_cons g1.2 (vals_cons (by simp [val]) vals_nil)⟩
      | false => simpa using g1.2
  · rename_i hf
    simp only [Option.map_eq_some_iff] at he
    obtain ⟨zz, hz, rfl⟩ := he
    obtain ⟨zv, z1, z2, _⟩ := zeroA_run (P := P) (E := E) (ρ := ρ) (w := w) hz
    obtain ⟨r', g1, g2⟩ := findKey_run h h1 hk hr h2 hf
    cases r' with
    | some q => simp [found] at g1
    | none =>
      refine ⟨if ok then .tuple #[zv, .bool false] else zv, by simp [lookRest, hck, g2, z1], ?_⟩
      cases ok with
      | true =>
        simp only [if_true, val]
        exact ⟨_, rfl, vals_cons z2 (vals_cons (by simp [val]) vals_nil)⟩
      | false => simpa using z2

theorem lookup_ok (h : Rd E ρ H w) {t : TypeId} {x k a : AV} {u v : Value} {ok : Bool} (hx : val E ρ x u) (hk : val E ρ k v) (he : lookupA P H t x k ok = some a) :
    ∃ z, (Instr.lookup t u v ok).run P w = .ok z w ∧ val E ρ a z := by
  unfold lookupA at he
  split at he
  · rename_i kT eT r hu
    cases r with
    | none =>
      simp only at he
      split at he
      · rename_i hko
        simp only [List.all_nil, Bool.and_true] at hko
        simp only [val] at hx
        subst hx
        obtain ⟨z, g1, g2⟩ := lookRest_ok (w := w) (es := []) (ms := #[]) h hk (by simp [entsRel]) hko (by simp) he
        refine ⟨z, ?_, g2⟩
        rw [← g1]
        simp [Instr.lookup, lookRest, run_underlying hu]
        rfl
      · simp at he
    | some i =>
      simp only at he
      cases hg : H.get i with
      | none => simp [hg] at he
      | some B =>
        cases B with
        | dead => simp [hg] at he
        | cells vs t' lo ro => simp [hg] at he
        | map es =>
          simp only [hg] at he
          split at he
          · rename_i hko
            simp only [Bool.and_eq_true] at hko
            simp only [val] at hx
            obtain ⟨b, m, hi, rfl⟩ := hx
            have hb := h.blk i b m _ hi hg
            simp only [blkRel] at hb
            obtain ⟨ms, clock, hb, hr⟩ := hb
            obtain ⟨z, g1, g2⟩ := lookRest_ok (w := w) h hk hr hko.1 hko.2 he
            refine ⟨z, ?_, g2⟩
            rw [← g1]
            simp only [Instr.lookup, lookRest, Sem.run_bind, run_underlying hu, Result.andThen_ok]
            have hobj : (getObj b).run P w = .ok (.map ms clock) w := by simp [getObj, Sem.run, hb]
            simp [hobj]
            rfl
          · simp at he
  · simp at he

end
end Go.Ev

/- New blocks. -/
set_option linter.unusedVariables false
set_option linter.unusedSimpArgs false
namespace Go.Ev

/-- What a new block comes to. -/
def NewOk (E : Env) (P : Program) (ρ : Rho) (mk : Nat → AV) (B : ABlk) (s : Sem Value) : Prop :=
  ∃ (o : Obj) (m : Nat) (v : Nat → Value), (∀ w, s.run P w = .ok (v w.heap.size) (w.alloc o)) ∧
    ∀ (ρ' : Rho) (w : World) (n b : Nat), ρ.le ρ' → ρ' n = some (b, m) → w.heap[b]? = some o → val E ρ' (mk n) (v b) ∧ blkRel E ρ' w b m B

section
variable {E : Env} {ρ : Rho} {P : Program} {F : Facts} {H : Heap} {w : World}

theorem blk_cells {ρ' : Rho} {cs : List AV} {us : Array Value} {t : TypeId} {lo ro : Bool} {b m : Nat} (hv : vals E ρ' cs us.toList) (hb : w.heap[b]? = some (.cells us t (0, 0))) (hm : us.size = m) :
    blkRel E ρ' w b m (.cells cs t lo ro) := by
  simp only [blkRel]
  have hl := vals_length hv
  have hl' : us.size = us.toList.length := by simp
  refine ⟨us, hb, hm, by omega, fun _ => by omega, fun k a hk => ?_⟩
  obtain ⟨v, h1, h2⟩ := vals_get hv hk
  exact ⟨v, by simpa using h1, h2⟩

theorem alloc_ok (hE : E.Ok) {t : TypeId} {mk : Nat → AV} {B : ABlk} (he : allocA P t = some (mk, B)) : NewOk E P ρ mk B (Instr.alloc t true (.tuple #[])) := by
  unfold allocA at he
  split at he
  · rename_i zs hz
    simp only [Option.some.injEq, Prod.mk.injEq] at he
    obtain ⟨rfl, rfl⟩ := he
    obtain ⟨z, i, h1, h2, h3, h4, h5⟩ := zero_cells (P := P) (ρ := ρ) (w := default) hE hz
    refine ⟨.cells z.cells t, z.cells.size, fun b => .pointer (some ⟨b, 0, none⟩), fun w => ?_, fun ρ' w n b hle hn hb => ⟨by simp [val, hn], blk_cells (vals_mono hle _ _ h4) hb rfl⟩⟩
    simp [Instr.alloc, zeroValue, typeInfo, h2, h3, newVar, newRow]
  · simp at he

theorem box_ok (hE : E.Ok) {t : TypeId} {x : AV} {u : Value} {mk : Nat → AV} {B : ABlk} (hx : val E ρ x u) (he : boxA t x = some (mk, B)) : NewOk E P ρ mk B (Instr.box t u) := by
  unfold boxA at he
  split at he
  · rename_i cs hc
    simp only [Option.some.injEq, Prod.mk.injEq] at he
    obtain ⟨rfl, rfl⟩ := he
    obtain ⟨h1, h2⟩ := cellsA_val hE hc hx
    refine ⟨.cells u.cells t, u.cells.size, fun b => .pointer (some ⟨b, 0, none⟩), fun w => ?_, fun ρ' w n b hle hn hb => ⟨by simp [val, hn], blk_cells (vals_mono hle _ _ h1) hb rfl⟩⟩
    simp [Instr.box, newVar, newRow]
  · simp at he

theorem makeMap_ok {t : TypeId} {r : Option AV} {r' : Option Value} {mk : Nat → AV} {B : ABlk} (hr : orel E ρ r r') (he : makeMapA r = some (mk, B)) : NewOk E P ρ mk B (Instr.makeMap t r') := by
  unfold makeMapA at he
  split at he
  · simp only [Option.some.injEq, Prod.mk.injEq] at he
    obtain ⟨rfl, rfl⟩ := he
    cases r' with
    | some v => simp [orel] at hr
    | none =>
      refine ⟨.map #[] 0, 0, fun b => .map (some b), fun w => ?_, fun ρ' w n b hle hn hb => ⟨by simp [val, hn], by simp only [blkRel]; exact ⟨#[], 0, hb, by simp [entsRel]⟩⟩⟩
      simp [Instr.makeMap]
  · simp at he

theorem zeros_vals {zs : List AV} {us : Array Value} (h : vals E ρ zs us.toList) (n : Nat) (hp : n = 0 ∨ 0 < zs.length) :
    vals E ρ (zerosA zs n) ((Array.range n).map (us[· % us.size]!)).toList := by
  have hl := vals_length h
  have hl' : us.size = us.toList.length := by simp
  refine vals_of_get (by simp [zerosA]) fun k a hk => ?_
  have hkn : k < n := by
    have := (List.getElem?_eq_some_iff.1 hk).1
    simpa [zerosA] using this
  have hpos : 0 < zs.length := by omega
  have hlt : k % zs.length < zs.length := Nat.mod_lt _ hpos
  have ha : zs[k % zs.length]? = some a := by
    simp [zerosA, hkn] at hk
    rw [List.getElem?_eq_getElem hlt]
    simp [List.getElem?_eq_getElem hlt] at hk
    rw [hk]
  obtain ⟨v, hv, hr⟩ := vals_get h ha
  refine ⟨v, ?_, hr⟩
  have hs : us.size = zs.length := by omega
  have hlt' : k % us.size < us.size := by rw [hs]; exact hlt
  rw [← hs] at hv
  simp [hkn, getElem!_def]
  simp at hv
  rw [hv]

theorem zeros_all {zs : List AV} (h : zs.all oneA = true) (n : Nat) (hp : n = 0 ∨ 0 < zs.length) : (zerosA zs n).all oneA = true := by
  rw [List.all_eq_true] at h ⊢
  intro x hx
  simp only [zerosA, List.mem_map, List.mem_range] at hx
  obtain ⟨k, hk, rfl⟩ := hx
  have hpos : 0 < zs.length := by omega
  have hlt : k % zs.length < zs.length := Nat.mod_lt _ hpos
  have e : zs.getD (k % zs.length) .any = zs[k % zs.length] := by simp [List.getD, List.getElem?_eq_getElem hlt]
  rw [e]
  exact h _ (List.getElem_mem _)

theorem buildSlice_ok (hE : E.Ok) {t : TypeId} {len : Nat} {ps : Array (Nat × Operand)} {ts : List AV} {a : Act} {mk : Nat → AV} {B : ABlk} (h : vals E ρ ts a.tmps.toList)
    (he : buildSliceA P t len (parts (evA ts) ps) = some (mk, B)) : NewOk E P ρ mk B (Instr.buildSlice t len (partsV a.eval ps)) := by
  unfold buildSliceA at he
  split at he
  · rename_i e hu
    split at he
    · rename_i sz zs hsz hz
      split at he
      · simp at he
      · rename_i hbig
        split at he
        · rename_i cs hcs
          simp only [Option.some.injEq, Prod.mk.injEq] at he
          obtain ⟨rfl, rfl⟩ := he
          simp only [not_or, Nat.not_lt, ne_eq, Decidable.not_not] at hbig
          obtain ⟨z, i, h1, h2, h3, h4, h5⟩ := zero_cells (P := P) (ρ := ρ) (w := default) hE hz
          have hi : i.size = sz := by simpa [sizeA, h2] using hsz
          have hpos : len * sz = 0 ∨ 0 < zs.length := by
            rcases Nat.eq_zero_or_pos sz with e | e
            · left; simp [e]
            · right; omega
          obtain ⟨p1, p2⟩ := parts_rel h ps
          have hzz : vals E ρ (zerosA zs (len * sz)) ((Array.range (len * sz)).map ((if len * sz = 0 then #[] else z.cells)[· % (if len * sz = 0 then #[] else z.cells).size]!)).toList := by
            by_cases e0 : len * sz = 0
            · simp [e0, zerosA, vals]
            · simp only [if_neg e0]; exact zeros_vals h4 _ hpos
          obtain ⟨rs, g1, g2, g3, g4⟩ := fill_ok hE _ _ _ cs _ p1 p2 hzz (zeros_all h5 _ hpos) hcs
          have hlen : cs.length = len * sz := by rw [g4]; simp [zerosA]
          have hrs : rs.size = len * sz := by have := vals_length g2; simp at this; omega
          refine ⟨.cells rs e, rs.size, fun b => .slice (some ⟨b, 0, none⟩) len len, fun w => ?_, fun ρ' w n b hle hn hb => ⟨by simp only [val]; exact ⟨b, rs.size, len, hn, rfl, Nat.le_refl _, fun _ => rfl, by omega⟩, blk_cells (vals_mono hle _ _ g2) hb rfl⟩⟩
          have hnb : ¬ (len * i.size > 16777216) := by rw [hi]; omega
          by_cases e0 : len * sz = 0
          · simp only [e0, if_true] at g1
            rw [← hi] at g1 e0
            simp [Instr.buildSlice, run_underlying hu, sizeOf, typeInfo, zeroValue, h2, h3, newRow, e0]
            simp at g1
            rw [g1]
            simp
          · simp only [if_neg e0] at g1
            rw [← hi] at g1 e0
            have e0' : ¬ (len = 0 ∨ i.size = 0) := by
              intro hh; exact e0 (by rcases hh with hh | hh <;> simp [hh])
            simp [Instr.buildSlice, run_underlying hu, sizeOf, typeInfo, zeroValue, h2, h3, newRow, hnb, e0']
            rw [g1]
            simp
            exact fun hh => absurd hh e0
        · simp at he
    · simp at he
  · simp at he

theorem makeSlice_ok (hE : E.Ok) {t : TypeId} {l c : AV} {u v : Value} {mk : Nat → AV} {B : ABlk} (hl : val E ρ l u) (hc : val E ρ c v) (he : makeSliceA P t l c = some (mk, B)) :
    NewOk E P ρ mk B (Instr.makeSlice t u v) := by
  unfold makeSliceA at he
  split at he
  · rename_i e k l k' c hu
    split at he
    · rename_i i zs hi hz
      split at he
      · rename_i hcond
        simp only [Option.some.injEq, Prod.mk.injEq] at he
        obtain ⟨rfl, rfl⟩ := he
        obtain ⟨c1, c2, c3, c4, c5⟩ := hcond
        rw [val_int hl, val_int hc]
        obtain ⟨z, i', h1, h2, h3, h4, h5⟩ := zero_cells (P := P) (ρ := ρ) (w := default) hE hz
        rw [hi] at h2
        simp only [Option.some.injEq] at h2
        subst h2
        have w1 : IntKind.i64.wrap l = l := by simp [IntKind.wrap, IntKind.bits, IntKind.signed]; omega
        have w2 : IntKind.i64.wrap c = c := by simp [IntKind.wrap, IntKind.bits, IntKind.signed]; omega
        have hb : (i.bytes : Int) * c ≤ 68719476736 := by
          have h0 : (i.bytes : Int) ≤ 4096 := by omega
          calc (i.bytes : Int) * c ≤ 4096 * c := Int.mul_le_mul_of_nonneg_right h0 (by omega)
            _ ≤ 68719476736 := by omega
        have hbad : ¬ (((c < 0 ∨ 281474976710656 < (i.bytes : Int) * c) ∨ l < 0) ∨ c < l) := by omega
        have hroom : ¬ (roomBytes < c.toNat * i.bytes) := by
          have : ((c.toNat * i.bytes : Nat) : Int) = (i.bytes : Int) * c := by
            rw [Int.natCast_mul, Int.toNat_of_nonneg (by omega), Int.mul_comm]
          simp only [roomBytes]
          omega
        have hpos : c.toNat * i.size = 0 ∨ 0 < zs.length := by
          rcases Nat.eq_zero_or_pos i.size with e | e
          · left; simp [e]
          · right; omega
        have hzz := zeros_vals h4 (c.toNat * i.size) hpos
        have hlen : ((Array.range (c.toNat * i.size)).map (z.cells[· % z.cells.size]!)).size = c.toNat * i.size := by simp
        refine ⟨.cells ((Array.range (c.toNat * i.size)).map (z.cells[· % z.cells.size]!)) e, c.toNat * i.size, fun b => .slice (some ⟨b, 0, none⟩) l.toNat c.toNat, fun w => ?_,
          fun ρ' w n b hle hn hb => ⟨by simp only [val]; exact ⟨b, _, c.toNat, hn, rfl, Nat.le_refl _, fun _ => rfl, by omega⟩, blk_cells (vals_mono hle _ _ hzz) hb hlen⟩⟩
        have ha : ∀ (k : IntKind) (n : Int) (w : World), (asInt (.int k n)).run P w = .ok n w := fun _ _ _ => rfl
        by_cases e0 : c.toNat * i.size = 0
        · simp only [e0]
          have e1 : c.toNat = 0 ∨ i.size = 0 := Nat.mul_eq_zero.1 e0
          simp [Instr.makeSlice, run_underlying hu, typeInfo, sizeOf, zeroValue, h3, hi, ha, w1, w2, hbad, askRoom, hroom, newRow, e1, e0]
          simp [Array.range]
        · have e1 : ¬ (c.toNat = 0 ∨ i.size = 0) := fun hh => e0 (Nat.mul_eq_zero.2 hh)
          simp [Instr.makeSlice, run_underlying hu, typeInfo, sizeOf, zeroValue, h3, hi, ha, w1, w2, hbad, askRoom, hroom, newRow, e1]
          exact fun hh => absurd hh e0
      · simp at he
    · simp at he
  · simp at he

end
end Go.Ev

/- Stores. -/
set_option linter.unusedVariables false
set_option linter.unusedSimpArgs false
namespace Go.Ev

section
variable {E : Env} {ρ : Rho} {P : Program} {F : Facts} {H : Heap} {w : World}

theorem setL_get : ∀ (xs vs : List AV) (o k : Nat), o + xs.length ≤ vs.length → (setL vs o xs)[k]? = if o ≤ k ∧ k < o + xs.length then xs[k - o]? else vs[k]?
  | [], vs, o, k, h => by
    simp only [setL, List.length_nil, Nat.add_zero]
    rw [if_neg (by omega)]
  | x :: xs, vs, o, k, h => by
    simp only [List.length_cons] at h
    simp only [setL, List.length_cons]
    rw [setL_get xs (vs.set o x) (o + 1) k (by simp; omega)]
    by_cases e : k = o
    · subst e
      rw [if_neg (by omega), if_pos (by omega)]
      simp
      rw [List.getElem?_set_self (by omega)]
    · by_cases hk : o ≤ k ∧ k < o + (xs.length + 1)
      · rw [if_pos (by omega), if_pos hk]
        have : k - o = (k - (o + 1)) + 1 := by omega
        rw [this]
        simp
      · rw [if_neg (by omega), if_neg hk]
        rw [List.getElem?_set_ne (by omega)]

theorem row_get (cur us : List Value) (o k : Nat) (h : o + us.length ≤ cur.length) :
    (cur.take o ++ us ++ cur.drop (o + us.length))[k]? = if o ≤ k ∧ k < o + us.length then us[k - o]? else cur[k]? := by
  have hl : (cur.take o).length = o := by simp; omega
  have hl2 : (cur.take o ++ us).length = o + us.length := by simp; omega
  by_cases h1 : k < o
  · rw [if_neg (by omega), List.getElem?_append_left (by omega), List.getElem?_append_left (by omega), List.getElem?_take, if_pos h1]
  · by_cases h2 : k < o + us.length
    · rw [if_pos (by omega), List.getElem?_append_left (by omega), List.getElem?_append_right (by omega), hl]
    · rw [if_neg (by omega), List.getElem?_append_right (by omega), hl2, List.getElem?_drop]
      congr 1
      omega

theorem write_ok (h : Rel E ρ H w) {i b m : Nat} {vs xs : List AV} {us : List Value} {t : TypeId} {lo : Bool} {o : Nat} (hi : ρ i = some (b, m)) (hg : H.get i = some (.cells vs t lo false))
    (hx : vals E ρ xs us) (h1 : ∀ u ∈ us, u.oneCell' = true) (hroom : o + xs.length ≤ vs.length) :
    ∃ w', (storeCells ⟨b, o, none⟩ us).run P w = .ok () w' ∧ Rel E ρ (H.set i (.cells (setL vs o xs) t lo false)) w' ∧ Step ρ H w ρ (H.set i (.cells (setL vs o xs) t lo false)) w' := by
  obtain ⟨cs, hb, hm, hle, hlo, hc⟩ := h.toRd.cells hi hg
  have hlen := vals_length hx
  have hst := run_storeCells_at P b o t us 0 cs w hb (by omega) h1
  simp only [Nat.add_zero] at hst
  refine ⟨_, hst, ?_⟩
  have hrow := setRow_heap w b cs (cs.toList.take o ++ us ++ cs.toList.drop (o + us.length)).toArray t (0, 0) hb
  have hcl : cs.toList.length = cs.size := by simp
  refine h.set hi hg rfl rfl _ ⟨rfl, rfl, rfl, by simp, fun j hj => setRow_other w b j _ hj⟩ ?_
  simp only [blkRel]
  refine ⟨_, hrow, by simp; omega, by rw [setL_length]; exact hle, fun hl => by rw [setL_length]; exact hlo hl, fun k a hk => ?_⟩
  rw [setL_get _ _ _ _ hroom] at hk
  have hr := row_get cs.toList us o k (by omega)
  simp only [List.getElem?_toArray]
  rw [hr, hlen]
  split at hk
  · rename_i hkk
    rw [if_pos hkk]
    exact vals_get hx hk
  · rename_i hkk
    rw [if_neg hkk]
    obtain ⟨v, hv, hr⟩ := hc k a hk
    exact ⟨v, by simpa using hv, hr⟩

theorem store_ok (hE : E.Ok) (h : Rel E ρ H w) {t : TypeId} {p x : AV} {u v : Value} {H' : Heap} (hp : val E ρ p u) (hx : val E ρ x v) (he : storeA P H t p x = some H') :
    ∃ w', (Instr.storeAt t u v).run P w = .ok () w' ∧ Rel E ρ H' w' ∧ Step ρ H w ρ H' w' := by
  unfold storeA at he
  split at he
  · rename_i i o
    split at he
    · rename_i vs e lo hg
      split at he
      · rename_i cs n hcs hn
        split at he
        · rename_i hcond
          simp only [Option.some.injEq] at he
          subst he
          obtain ⟨b, m, hi, rfl⟩ := val_ptr hp
          obtain ⟨g1, g2⟩ := cellsA_val hE hcs hx
          have hone := vals_one hE g2 g1
          obtain ⟨w', k1, k2, k3⟩ := write_ok (P := P) h hi hg g1 hone (o := o) (by omega)
          refine ⟨w', ?_, k2, k3⟩
          have hl := vals_length g1
          have hsz : v.cells.size = n := by have : v.cells.size = v.cells.toList.length := by simp
                                            omega
          simp [Instr.storeAt, Instr.sureAddr, storeVar, sizeA_run hn, hsz, k1]
        · simp at he
      · simp at he
    · simp at he
  · simp at he

end
end Go.Ev
