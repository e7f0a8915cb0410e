/- A Builder that lies inside a struct. -/
import Derived.Test.YtdbaglgkbfjbnaaGreatProg
import Derived.Lib.Strings
import Derived.Lib.Slices
import Derived.Lib.Walk
import Derived.Lib.Builder
import Derived.Lib.AppendStr
import Derived.Lib.UnsafeStr
import Derived.WalkKit
import Derived.Laws.Externs
import Derived.KernelRfl
import Derived.Deep.RegionWith
import Derived.Shelf.RegionOpenPlain
import Derived.Lib.MakeNoZero
import Derived.Laws.IdiomCopy
import Derived.Laws.BitsLemmas
import Derived.Shelf.Strings.Search3

set_option linter.unusedVariables false
namespace Go.Proofs
open Go.RowKit

set_option maxHeartbeats 1000000 in
set_option maxRecDepth 100000 in
theorem X.copyCheck (b : Nat) (w : World) (p v q : Value) (hb : w.heap[b]? = some (.cells #[p, .pointer none, v, q] 331 (0, 0))) :
    Calls Tryz.prog 153 #[.pointer (some ⟨b, 1, none⟩)] w fun e w' => e = .returned (.tuple #[]) ∧ w' = w.setCell ⟨b, 1, none⟩ (.pointer (some ⟨b, 1, none⟩)) := by
  have h0 : w.cell? ⟨b, 1, none⟩ = some (.pointer none) := by rw [Lib.cell_of_heap hb]; rfl
  have hfz : w.frozen? ⟨b, 1, none⟩ = false := Lib.frozen_of_heap hb 1
  have hsh : w.shape? b = some (331, 4) := by simp [World.shape?, hb]
  go_enter Tryz.func153, Tryz.ntmps153
  go_wp2
  rw [Lib.run_to_unsafe (t := 143) (j := Tryz.t143) w ⟨b, 1, none⟩ Tryz.underlying141 Tryz.underlying245 (by kernel_rfl) (by rw [show Tryz.t143.size = 2 from by kernel_rfl]; decide) hsh (show (1 : Nat) < 4 from by decide)]
  simp only [Result.andThen]
  rw [Oper.upon_value]
  go_wp2
  rw [run_callFunc_extern Tryz.func200 (by kernel_rfl) (by kernel_rfl) (by kernel_rfl) (e := Extern.AbiNoEscape.same) (by kernel_rfl)]
  rw [Lib.run_noEscape]
  simp only [Result.andThen]
  rw [Oper.upon_value]
  go_wp2
  rw [Lib.run_from_unsafe (u := 143) (j := Tryz.t143) w ⟨b, 1, none⟩ Tryz.underlying245 Tryz.underlying141 (by kernel_rfl) hsh (by kernel_rfl)]
  simp only [Result.andThen]
  rw [Oper.upon_value]
  go_wp2
  go_end0
  exact ⟨rfl, rfl⟩

set_option maxHeartbeats 2000000 in
set_option maxRecDepth 100000 in
theorem X.write (B b : Nat) (s : ByteArray) (w : World) (p q : Value) (hB : B ≤ b) (hBw : B ≤ w.heap.size) (hs : s.size ≤ 140737488355328) (hb : w.heap[b]? = some (.cells #[p, .pointer none, .slice none 0 0, q] 331 (0, 0))) :
    Calls Tryz.prog 101 #[.pointer (some ⟨b, 1, none⟩), .string s] w fun e w' => e = .returned (.tuple #[.int .i64 s.size, .nilIface]) ∧
      ∃ v, w'.heap[b]? = some (.cells #[p, .pointer (some ⟨b, 1, none⟩), v, q] 331 (0, 0)) ∧ w'.ownsRow B 5 1 v s.size (Lib.strCells s) ∧ Below B w w' ∧ (s.size = 0 → v = .slice none 0 0) := by
  go_enter Tryz.func101, Tryz.ntmps101
  go_wp2_with (go_at_call 153; refine (X.copyCheck b _ p (.slice none 0 0) q hb).mono ?_)
  rintro e w1 ⟨rfl, rfl⟩
  have hbk : (w.setCell ⟨b, 1, none⟩ (.pointer (some ⟨b, 1, none⟩))).heap[b]? = some (.cells #[p, .pointer (some ⟨b, 1, none⟩), .slice none 0 0, q] 331 (0, 0)) := by
    rw [heap_setCell_same w b 1 _ _ _ hb]
    rfl
  have hsz : (w.setCell ⟨b, 1, none⟩ (.pointer (some ⟨b, 1, none⟩))).heap.size = w.heap.size := by simp [World.setCell]
  have hb1 : Below B w (w.setCell ⟨b, 1, none⟩ (.pointer (some ⟨b, 1, none⟩))) := (Below.refl B w).setCell (p := ⟨b, 1, none⟩) hB _
  generalize w.setCell ⟨b, 1, none⟩ (.pointer (some ⟨b, 1, none⟩)) = w1 at hbk hsz hb1
  have c1 : w1.cell? ⟨b, 2, none⟩ = some (.slice none 0 0) := by rw [Lib.cell_of_heap hbk]; rfl
  go_wp2_with (at_builtin; refine Lib.wpList_append_own_string _ rfl _ _ 22 9 rfl B 5 Tryz.t5 Tryz.underlying22 Tryz.underlying9 (by kernel_rfl) (by kernel_rfl) (by kernel_rfl) (by kernel_rfl) _ _ _ rfl (World.ownsRow_nil w1 B 5 1) s rfl ?c3 ?c4 ?c5 ?_)
  case c3 => unfold maxLen; omega
  case c4 => omega
  case c5 => omega
  intro v' w2 hown' hgrow hnil
  have hz : s.size = 0 → v' = .slice none 0 0 := fun h => hnil.2 (by first | exact h | (simpa using h) | exact ⟨rfl, h⟩)
  clear hnil
  have hlt : b < w1.heap.size := (Array.getElem?_eq_some_iff.1 hbk).1
  have hb2 : w2.heap[b]? = some (.cells #[p, .pointer (some ⟨b, 1, none⟩), .slice none 0 0, q] 331 (0, 0)) := by
    rw [hgrow.block b hlt (by simp [Value.ownBlock])]
    exact hbk
  have d1 : w2.cell? ⟨b, 2, none⟩ = some (.slice none 0 0) := by rw [Lib.cell_of_heap hb2]; rfl
  have f1 : w2.frozen? ⟨b, 2, none⟩ = false := Lib.frozen_of_heap hb2 2
  obtain ⟨ao, n', cap, rfl⟩ : ∃ ao n' cap, v' = .slice ao n' cap := by
    rcases hown'.2 with ⟨hv, _⟩ | ⟨g, cap, cur, hv, _⟩
    · exact ⟨_, _, _, hv⟩
    · exact ⟨_, _, _, hv⟩
  go_wp2
  go_ret2
  have hne := Lib.ownBlock_ne hown' hb2 (by decide)
  refine ⟨rfl, .slice ao n' cap, ?_, ?_, ?_, hz⟩
  · rw [heap_setCell_same w2 b 2 _ _ _ hb2]
    rfl
  · refine hown'.kept (row := some b) ⟨rfl, rfl, rfl, by simp [World.setCell], fun k hk hkb => heap_setCell_other w2 ⟨b, 2, none⟩ k _ (fun e => hkb (by rw [e]))⟩ (.inr hne)
  · exact (hb1.grown hgrow (by omega) (fun k hk => by simp [Value.ownBlock] at hk)).setCell (p := ⟨b, 2, none⟩) hB _

/-- The text that a Builder of a struct holds. -/
theorem X.sliceData (l : List UInt8) (W : World) (g cap : Nat) (cur : Array Value) (hl0 : l ≠ []) (hg : W.heap[g]? = some (.cells cur 5 (0, 0))) (hnc : l.length ≤ cap) (hcm : cap ≤ maxLen) (hcs : cur.size = cap * 1)
    (htake : cur.toList.take (l.length * 1) = Lib.byteCells l) :
    (Builtin.unsafeSliceData_ #[22] 202 #[.slice (some ⟨g, 0, none⟩) l.length cap]).run Tryz.prog W = .ok (.pointer (some ⟨g, 0, none⟩)) W ∧
    (Builtin.unsafeString_ #[202, 3] 9 #[.pointer (some ⟨g, 0, none⟩), .int .i64 l.length]).run Tryz.prog W = .ok (.string ⟨l.toArray⟩) (W.freeze ⟨g, 0, none⟩ l.length) := by
  have hl : l.length ≠ 0 := by simpa using hl0
  refine ⟨Lib.run_unsafeSliceData_row _ _ _ _ _ _ (by omega), ?_⟩
  refine Lib.run_unsafeString_row W 202 3 9 5 Tryz.underlying202 (by kernel_rfl) g cur.size (by simp [World.shape?, hg]) l hl0 (by omega) (by unfold maxLen at hcm; omega) ?_
  intro j x hx
  have hj : j < l.length := (List.getElem?_eq_some_iff.1 hx).1
  have : (cur.toList.take (l.length * 1))[j]? = some (.int .u8 x.toNat) := by rw [htake]; simp [Lib.byteCells, hx]
  rw [List.getElem?_take, if_pos (by omega)] at this
  rw [Addr.add_lit, cell_of_row W g (0 + j) cur 5 (0, 0) hg, Nat.zero_add]
  simpa using this

set_option maxHeartbeats 2000000 in
set_option maxRecDepth 100000 in
theorem X.string (B b : Nat) (l : List UInt8) (w : World) (p p1 v q : Value) (hB : B ≤ b) (hBw : B ≤ w.heap.size) (hb : w.heap[b]? = some (.cells #[p, p1, v, q] 331 (0, 0))) (hown : w.ownsRow B 5 1 v l.length (Lib.byteCells l)) (h0 : l ≠ []) :
    Calls Tryz.prog 103 #[.pointer (some ⟨b, 1, none⟩)] w fun e w' => e = .returned (.string ⟨l.toArray⟩) ∧ Below B w w' := by
  have hl0 : l.length ≠ 0 := fun h => h0 (List.length_eq_zero_iff.1 h)
  obtain ⟨g, cap, cur, rfl, hbg, hg, hnc, hcm, hcs, htake⟩ : ∃ g cap cur, v = .slice (some ⟨g, 0, none⟩) l.length cap ∧ B ≤ g ∧ w.heap[g]? = some (.cells cur 5 (0, 0)) ∧ l.length ≤ cap ∧ cap ≤ maxLen ∧ cur.size = cap * 1 ∧
      cur.toList.take (l.length * 1) = Lib.byteCells l := by
    rcases hown.2 with ⟨_, hz⟩ | ⟨g, cap, cur, hv, r⟩
    · exact absurd hz hl0
    · exact ⟨g, cap, cur, hv, r⟩
  have c1 : w.drew.cell? ⟨b, 2, none⟩ = some (.slice (some ⟨g, 0, none⟩) l.length cap) := by
    have : w.drew.heap[b]? = some (.cells #[p, p1, .slice (some ⟨g, 0, none⟩) l.length cap, q] 331 (0, 0)) := hb
    rw [Lib.cell_of_heap this]; rfl
  obtain ⟨hSD, hUS⟩ := X.sliceData l w.drew g cap cur h0 hg hnc hcm hcs htake
  have mixed : Tryz.prog.follows .mixedOrders = true := by kernel_rfl
  go_enter Tryz.func103, Tryz.ntmps103
  go_wp2
  go_region_o
  all_goals (go_wp2; go_ret; exact ⟨rfl, Lib.below_freeze (Below.drew (Below.refl B w)) (p := ⟨g, 0, none⟩) hbg _⟩)

set_option maxHeartbeats 2000000 in
set_option maxRecDepth 100000 in
theorem X.string_nil (B b : Nat) (w : World) (p p1 q : Value) (hb : w.heap[b]? = some (.cells #[p, p1, .slice none 0 0, q] 331 (0, 0))) :
    Calls Tryz.prog 103 #[.pointer (some ⟨b, 1, none⟩)] w fun e w' => e = .returned (.string ⟨#[]⟩) ∧ Below B w w' := by
  have hUS : (Builtin.unsafeString_ #[202, 3] 9 #[.pointer none, .int .i64 0]).run Tryz.prog w.drew = .ok (.string .empty) w.drew := Lib.run_unsafeString_none w.drew _ _ _ none
  have c1 : w.drew.cell? ⟨b, 2, none⟩ = some (.slice none 0 0) := by
    have : w.drew.heap[b]? = some (.cells #[p, p1, .slice none 0 0, q] 331 (0, 0)) := hb
    rw [Lib.cell_of_heap this]; rfl
  have hSD : (Builtin.unsafeSliceData_ #[22] 202 #[.slice none 0 0]).run Tryz.prog w.drew = .ok (.pointer none) w.drew := rfl
  have mixed : Tryz.prog.follows .mixedOrders = true := by kernel_rfl
  go_enter Tryz.func103, Tryz.ntmps103
  go_wp2
  go_region_o
  all_goals (go_wp2; go_ret; exact ⟨rfl, Below.drew (Below.refl B w)⟩)

set_option maxHeartbeats 1000000 in
set_option maxRecDepth 100000 in
theorem X.len (b : Nat) (w : World) (h : w.cell? ⟨b, 2, none⟩ = some (.slice none 0 0)) :
    Calls Tryz.prog 102 #[.pointer (some ⟨b, 1, none⟩)] w fun e w' => e = .returned (.int .i64 0) ∧ w' = w := by
  go_enter Tryz.func102, Tryz.ntmps102
  go_wp2
  go_ret
  exact ⟨rfl, rfl⟩

/-- The text of a value that is no object. -/
def X.textOf (k r : Int) (t : ByteArray) : ByteArray :=
  if k = 0 then ⟨#[78, 111, 110, 101]⟩ else if k = 1 then (if r = 0 then ⟨#[70, 97, 108, 115, 101]⟩ else ⟨#[84, 114, 117, 101]⟩) else t

set_option maxHeartbeats 4000000 in
set_option maxRecDepth 100000 in
theorem X.value3 (B b : Nat) (r : Int) (t : ByteArray) (w : World) (p q : Value) (hB : B ≤ b) (hBw : B ≤ w.heap.size) (ht : t.size ≤ 140737488355328) (hb : w.heap[b]? = some (.cells #[p, .pointer none, .slice none 0 0, q] 331 (0, 0))) :
    Calls Tryz.prog 303 #[.pointer (some ⟨b, 0, none⟩), .agg #[.int .i64 3, .string t, .int .i64 r], .bool false] w fun e w' => e = .returned (.tuple #[]) ∧
      ∃ v, w'.heap[b]? = some (.cells #[p, .pointer (some ⟨b, 1, none⟩), v, q] 331 (0, 0)) ∧ w'.ownsRow B 5 1 v t.size (Lib.strCells t) ∧ Below B w w' ∧ (t.size = 0 → v = .slice none 0 0) := by
  have mixed : Tryz.prog.follows .mixedOrders = true := by kernel_rfl
  have hlt : b < w.heap.size := (Array.getElem?_eq_some_iff.1 hb).1
  go_enter Tryz.func303, Tryz.ntmps303
  go_wp2_with (go_at_call 102; refine (X.len b _ ?hl).mono ?_)
  case hl =>
    rw [Lib.cell_of_heap (cs := #[p, .pointer none, .slice none 0 0, q]) (T := 331) (fr := (0, 0))]
    · rfl
    · show (w.heap.push _)[b]? = _
      rw [Array.getElem?_push, if_neg (by omega)]
      exact hb
  rintro e w' ⟨rfl, rfl⟩
  go_wp2
  have hb' : (w.alloc (.cells #[.int .i64 3, .string t, .int .i64 r] 97)).drew.heap[b]? = some (.cells #[p, .pointer none, .slice none 0 0, q] 331 (0, 0)) := by
    show (w.heap.push _)[b]? = _
    rw [Array.getElem?_push, if_neg (by omega)]
    exact hb
  have hBw' : B ≤ (w.alloc (.cells #[.int .i64 3, .string t, .int .i64 r] 97)).drew.heap.size := by
    show B ≤ (w.heap.push _).size
    rw [Array.size_push]
    omega
  go_region_with (go_at_call 101; refine (X.write B b t _ p q hB hBw' ht hb').mono ?_; rintro e w' ⟨rfl, hw'⟩; go_wp2)
  all_goals
    go_wp2
    go_end0
    obtain ⟨v, g1, g2, g3, g4⟩ := hw'
    exact ⟨rfl, v, g1, g2, (((Below.refl B w).alloc hBw _).drew).trans g3, g4⟩

theorem X.string_all (B b : Nat) (t : ByteArray) (w : World) (p p1 v q : Value) (hB : B ≤ b) (hBw : B ≤ w.heap.size) (hb : w.heap[b]? = some (.cells #[p, p1, v, q] 331 (0, 0))) (hown : w.ownsRow B 5 1 v t.size (Lib.strCells t))
    (hz : t.size = 0 → v = .slice none 0 0) :
    Calls Tryz.prog 103 #[.pointer (some ⟨b, 1, none⟩)] w fun e w' => e = .returned (.string t) ∧ Below B w w' := by
  obtain ⟨⟨l⟩⟩ := t
  by_cases h0 : l = []
  · subst h0
    rw [hz rfl] at hb
    refine (X.string_nil B b w p p1 q hb).mono ?_
    rintro e w' ⟨rfl, h⟩
    exact ⟨rfl, h⟩
  · refine (X.string B b l w p p1 v q hB hBw hb ?_ h0).mono ?_
    · simpa [ByteArray.size, Lib.strCells_eq] using hown
    · rintro e w' ⟨rfl, h⟩
      exact ⟨rfl, h⟩

set_option maxHeartbeats 4000000 in
set_option maxRecDepth 100000 in
theorem X.show3 (w : World) (ao : Option Addr) (n c : Nat) (r : Int) (t : ByteArray) (ht : t.size ≤ 400) :
    Calls Tryz.prog 291 #[.agg #[.slice ao n c], .agg #[.int .i64 3, .string t, .int .i64 r]] w fun e w' => e = .returned (.string t) ∧ Below w.heap.size w w' := by
  have mixed : Tryz.prog.follows .mixedOrders = true := by kernel_rfl
  go_enter Tryz.func291, Tryz.ntmps291
  go_wp2_with (go_at_call 303; refine (X.value3 w.heap.size (w.heap.size + 2) r t _ (.slice ao n c) (.slice none 0 0) ?_ ?_ ?_ ?_).mono ?_)
  · omega
  · show w.heap.size ≤ (((w.heap.push _).push _).push _).size
    simp only [Array.size_push]
    omega
  · omega
  · show (((w.heap.push _).push _).push _)[w.heap.size + 2]? = _
    rw [Array.getElem?_push, if_pos (by simp only [Array.size_push])]
  · rintro e w' ⟨rfl, v, g1, g2, g3, g4⟩
    have gs := g3.size
    have hsz : w.heap.size ≤ w'.heap.size := by
      refine Nat.le_trans ?_ gs
      show w.heap.size ≤ (((w.heap.push _).push _).push _).size
      simp only [Array.size_push]
      omega
    go_wp2_with (go_at_call 103; refine (X.string_all w.heap.size (w.heap.size + 2) t _ _ _ v _ (by omega) hsz g1 g2 g4).mono ?_)
    rintro e w'' ⟨rfl, h2⟩
    go_wp2
    go_ret
    refine ⟨?_, ?_⟩
    · show Ending.returned (.string (t.extract 0 (min (t.size : Int) 400).toNat)) = _
      have e : (min (t.size : Int) 400).toNat = t.size := by omega
      rw [e]
      congr 2
      apply ByteArray.ext
      simp
    · exact ((((Below.refl w.heap.size w).alloc (Nat.le_refl _) _).alloc (by simp) _).alloc (by simp; omega) _).trans (g3.trans h2)
end Go.Proofs

/- strings.Index and IndexByte, off the shelf. -/
set_option linter.unusedVariables false
namespace Go.Proofs
open Go.Shelf Go.RowKit Go.Lib

def X.ren : Ren where
  f := fun n => if n = 143 then 52 else if n = 217 then 123 else if n = 219 then 82 else if n = 224 then 125 else if n = 225 then 124 else if n = 266 then 157 else if n = 267 then 126 else if n = 314 then 158 else 0
  t := fun n => if n = 46 then 137 else if n = 51 then 196 else if n = 146 then 197 else n
  g := fun _ => 0

theorem X.lay : Lays.n143 Tryz.prog X.ren where
  mixed := by kernel_rfl
  f143 := by kernel_rfl
  f217 := by kernel_rfl
  f219 := by kernel_rfl
  f224 := by kernel_rfl
  f225 := by kernel_rfl
  f266 := by kernel_rfl
  f267 := by kernel_rfl
  f314 := by kernel_rfl
  t3 := by kernel_rfl
  a3 := fun w => Tryz.isAgg3 w
  z3 := fun w => Tryz.sizeOf3 w
  v3 := fun w => Tryz.zeroValue3 w
  t4 := by kernel_rfl
  a4 := fun w => Tryz.isAgg4 w
  z4 := fun w => Tryz.sizeOf4 w
  v4 := fun w => Tryz.zeroValue4 w
  t5 := by kernel_rfl
  a5 := fun w => Tryz.isAgg5 w
  z5 := fun w => Tryz.sizeOf5 w
  v5 := fun w => Tryz.zeroValue5 w
  t9 := by kernel_rfl
  a9 := fun w => Tryz.isAgg9 w
  z9 := fun w => Tryz.sizeOf9 w
  v9 := fun w => Tryz.zeroValue9 w
  t46 := by kernel_rfl
  a46 := fun w => Tryz.isAgg137 w
  z46 := fun w => Tryz.sizeOf137 w
  v46 := fun w => Tryz.zeroValue137 w
  t51 := by kernel_rfl
  a51 := fun w => Tryz.isAgg196 w
  z51 := fun w => Tryz.sizeOf196 w
  v51 := fun w => Tryz.zeroValue196 w
  t146 := by kernel_rfl
  a146 := fun w => Tryz.isAgg197 w
  z146 := fun w => Tryz.sizeOf197 w
  v146 := fun w => Tryz.zeroValue197 w
  g1 := by kernel_rfl

theorem X.index (s sub : ByteArray) (m : Int) (w : World) (hs : s.size < 4294967281) (hm : w.cell? ⟨0, 0, none⟩ = some (.int .i64 m)) :
    Calls Tryz.prog 52 #[.string s, .string sub] w fun e w' => e = .returned (.int .i64 (Lib.index s.data.toList sub.data.toList)) ∧ w' = w :=
  Any.strings_Index X.lay s sub m w hs hm

theorem X.indexByte (s : ByteArray) (c : Int) (w : World) :
    Calls Tryz.prog 123 #[.string s, .int .u8 c] w fun e w' => e = .returned (.int .i64 (Lib.indexByte s.data.toList c.toNat.toUInt8)) ∧ w' = w :=
  Any.stringslite_IndexByte (ρ := X.ren) { X.lay with } s c w
end Go.Proofs
