/- A Builder that lies inside a struct. -/
import Derived.Test.YtdbaglgkbfjbnaaGreatProg
import Derived.Lib.Strings
import Derived.Lib.Slices
import Derived.Lib.Walk
import Derived.Lib.Builder
import Derived.Lib.AppendStr
import Derived.Lib.UnsafeStr
import Derived.WalkKit
import Derived.Laws.Externs
import Derived.KernelRfl
import Derived.Deep.RegionWith
import Derived.Shelf.RegionOpenPlain
import Derived.Lib.MakeNoZero
import Derived.Laws.IdiomCopy
import Derived.Laws.BitsLemmas
import Derived.Shelf.Strings.Search3
import Derived.Test.YtdbaglgkbfjbnaaGreatEvB
import Derived.Test.YtdbaglgkbfjbnaaGreatEvP
import Derived.Test.YtdbaglgkbfjbnaaGreatEvQ

set_option linter.unusedVariables false
namespace Go.Proofs
open Go.RowKit

set_option maxHeartbeats 1000000 in
set_option maxRecDepth 100000 in
theorem X.copyCheck (b : Nat) (w : World) (p v q : Value) (hb : w.heap[b]? = some (.cells #[p, .pointer none, v, q] 331 (0, 0))) :
    Calls Tryz.prog 153 #[.pointer (some ⟨b, 1, none⟩)] w fun e w' => e = .returned (.tuple #[]) ∧ w' = w.setCell ⟨b, 1, none⟩ (.pointer (some ⟨b, 1, none⟩)) := by
  have h0 : w.cell? ⟨b, 1, none⟩ = some (.pointer none) := by rw [Lib.cell_of_heap hb]; rfl
  have hfz : w.frozen? ⟨b, 1, none⟩ = false := Lib.frozen_of_heap hb 1
  have hsh : w.shape? b = some (331, 4) := by simp [World.shape?, hb]
  go_enter Tryz.func153, Tryz.ntmps153
  go_wp2
  rw [Lib.run_to_unsafe (t := 143) (j := Tryz.t143) w ⟨b, 1, none⟩ Tryz.underlying141 Tryz.underlying245 (by kernel_rfl) (by rw [show Tryz.t143.size = 2 from by kernel_rfl]; decide) hsh (show (1 : Nat) < 4 from by decide)]
  simp only [Result.andThen]
  rw [Oper.upon_value]
  go_wp2
  rw [run_callFunc_extern Tryz.func200 (by kernel_rfl) (by kernel_rfl) (by kernel_rfl) (e := Extern.AbiNoEscape.same) (by kernel_rfl)]
  rw [Lib.run_noEscape]
  simp only [Result.andThen]
  rw [Oper.upon_value]
  go_wp2
  rw [Lib.run_from_unsafe (u := 143) (j := Tryz.t143) w ⟨b, 1, none⟩ Tryz.underlying245 Tryz.underlying141 (by kernel_rfl) hsh (by kernel_rfl)]
  simp only [Result.andThen]
  rw [Oper.upon_value]
  go_wp2
  go_end0
  exact ⟨rfl, rfl⟩

set_option maxHeartbeats 2000000 in
set_option maxRecDepth 100000 in
theorem X.write (B b : Nat) (s : ByteArray) (w : World) (p q : Value) (hB : B ≤ b) (hBw : B ≤ w.heap.size) (hs : s.size ≤ 140737488355328) (hb : w.heap[b]? = some (.cells #[p, .pointer none, .slice none 0 0, q] 331 (0, 0))) :
    Calls Tryz.prog 101 #[.pointer (some ⟨b, 1, none⟩), .string s] w fun e w' => e = .returned (.tuple #[.int .i64 s.size, .nilIface]) ∧
      ∃ v, w'.heap[b]? = some (.cells #[p, .pointer (some ⟨b, 1, none⟩), v, q] 331 (0, 0)) ∧ w'.ownsRow B 5 1 v s.size (Lib.strCells s) ∧ Below B w w' ∧ (s.size = 0 → v = .slice none 0 0) := by
  go_enter Tryz.func101, Tryz.ntmps101
  go_wp2_with (go_at_call 153; refine (X.copyCheck b _ p (.slice none 0 0) q hb).mono ?_)
  rintro e w1 ⟨rfl, rfl⟩
  have hbk : (w.setCell ⟨b, 1, none⟩ (.pointer (some ⟨b, 1, none⟩))).heap[b]? = some (.cells #[p, .pointer (some ⟨b, 1, none⟩), .slice none 0 0, q] 331 (0, 0)) := by
    rw [heap_setCell_same w b 1 _ _ _ hb]
    rfl
  have hsz : (w.setCell ⟨b, 1, none⟩ (.pointer (some ⟨b, 1, none⟩))).heap.size = w.heap.size := by simp [World.setCell]
  have hb1 : Below B w (w.setCell ⟨b, 1, none⟩ (.pointer (some ⟨b, 1, none⟩))) := (Below.refl B w).setCell (p := ⟨b, 1, none⟩) hB _
  generalize w.setCell ⟨b, 1, none⟩ (.pointer (some ⟨b, 1, none⟩)) = w1 at hbk hsz hb1
  have c1 : w1.cell? ⟨b, 2, none⟩ = some (.slice none 0 0) := by rw [Lib.cell_of_heap hbk]; rfl
  go_wp2_with (at_builtin; refine Lib.wpList_append_own_string _ rfl _ _ 22 9 rfl B 5 Tryz.t5 Tryz.underlying22 Tryz.underlying9 (by kernel_rfl) (by kernel_rfl) (by kernel_rfl) (by kernel_rfl) _ _ _ rfl (World.ownsRow_nil w1 B 5 1) s rfl ?c3 ?c4 ?c5 ?_)
  case c3 => unfold maxLen; omega
  case c4 => omega
  case c5 => omega
  intro v' w2 hown' hgrow hnil
  have hz : s.size = 0 → v' = .slice none 0 0 := fun h => hnil.2 (by first | exact h | (simpa using h) | exact ⟨rfl, h⟩)
  clear hnil
  have hlt : b < w1.heap.size := (Array.getElem?_eq_some_iff.1 hbk).1
  have hb2 : w2.heap[b]? = some (.cells #[p, .pointer (some ⟨b, 1, none⟩), .slice none 0 0, q] 331 (0, 0)) := by
    rw [hgrow.block b hlt (by simp [Value.ownBlock])]
    exact hbk
  have d1 : w2.cell? ⟨b, 2, none⟩ = some (.slice none 0 0) := by rw [Lib.cell_of_heap hb2]; rfl
  have f1 : w2.frozen? ⟨b, 2, none⟩ = false := Lib.frozen_of_heap hb2 2
  obtain ⟨ao, n', cap, rfl⟩ : ∃ ao n' cap, v' = .slice ao n' cap := by
    rcases hown'.2 with ⟨hv, _⟩ | ⟨g, cap, cur, hv, _⟩
    · exact ⟨_, _, _, hv⟩
    · exact ⟨_, _, _, hv⟩
  go_wp2
  go_ret2
  have hne := Lib.ownBlock_ne hown' hb2 (by decide)
  refine ⟨rfl, .slice ao n' cap, ?_, ?_, ?_, hz⟩
  · rw [heap_setCell_same w2 b 2 _ _ _ hb2]
    rfl
  · refine hown'.kept (row := some b) ⟨rfl, rfl, rfl, by simp [World.setCell], fun k hk hkb => heap_setCell_other w2 ⟨b, 2, none⟩ k _ (fun e => hkb (by rw [e]))⟩ (.inr hne)
  · exact (hb1.grown hgrow (by omega) (fun k hk => by simp [Value.ownBlock] at hk)).setCell (p := ⟨b, 2, none⟩) hB _

/-- The text that a Builder of a struct holds. -/
theorem X.sliceData (l : List UInt8) (W : World) (g cap : Nat) (cur : Array Value) (hl0 : l ≠ []) (hg : W.heap[g]? = some (.cells cur 5 (0, 0))) (hnc : l.length ≤ cap) (hcm : cap ≤ maxLen) (hcs : cur.size = cap * 1)
    (htake : cur.toList.take (l.length * 1) = Lib.byteCells l) :
    (Builtin.unsafeSliceData_ #[22] 202 #[.slice (some ⟨g, 0, none⟩) l.length cap]).run Tryz.prog W = .ok (.pointer (some ⟨g, 0, none⟩)) W ∧
    (Builtin.unsafeString_ #[202, 3] 9 #[.pointer (some ⟨g, 0, none⟩), .int .i64 l.length]).run Tryz.prog W = .ok (.string ⟨l.toArray⟩) (W.freeze ⟨g, 0, none⟩ l.length) := by
  have hl : l.length ≠ 0 := by simpa using hl0
  refine ⟨Lib.run_unsafeSliceData_row _ _ _ _ _ _ (by omega), ?_⟩
  refine Lib.run_unsafeString_row W 202 3 9 5 Tryz.underlying202 (by kernel_rfl) g cur.size (by simp [World.shape?, hg]) l hl0 (by omega) (by unfold maxLen at hcm; omega) ?_
  intro j x hx
  have hj : j < l.length := (List.getElem?_eq_some_iff.1 hx).1
  have : (cur.toList.take (l.length * 1))[j]? = some (.int .u8 x.toNat) := by rw [htake]; simp [Lib.byteCells, hx]
  rw [List.getElem?_take, if_pos (by omega)] at this
  rw [Addr.add_lit, cell_of_row W g (0 + j) cur 5 (0, 0) hg, Nat.zero_add]
  simpa using this

set_option maxHeartbeats 2000000 in
set_option maxRecDepth 100000 in
theorem X.string (B b : Nat) (l : List UInt8) (w : World) (p p1 v q : Value) (hB : B ≤ b) (hBw : B ≤ w.heap.size) (hb : w.heap[b]? = some (.cells #[p, p1, v, q] 331 (0, 0))) (hown : w.ownsRow B 5 1 v l.length (Lib.byteCells l)) (h0 : l ≠ []) :
    Calls Tryz.prog 103 #[.pointer (some ⟨b, 1, none⟩)] w fun e w' => e = .returned (.string ⟨l.toArray⟩) ∧ Below B w w' := by
  have hl0 : l.length ≠ 0 := fun h => h0 (List.length_eq_zero_iff.1 h)
  obtain ⟨g, cap, cur, rfl, hbg, hg, hnc, hcm, hcs, htake⟩ : ∃ g cap cur, v = .slice (some ⟨g, 0, none⟩) l.length cap ∧ B ≤ g ∧ w.heap[g]? = some (.cells cur 5 (0, 0)) ∧ l.length ≤ cap ∧ cap ≤ maxLen ∧ cur.size = cap * 1 ∧
      cur.toList.take (l.length * 1) = Lib.byteCells l := by
    rcases hown.2 with ⟨_, hz⟩ | ⟨g, cap, cur, hv, r⟩
    · exact absurd hz hl0
    · exact ⟨g, cap, cur, hv, r⟩
  have c1 : w.drew.cell? ⟨b, 2, none⟩ = some (.slice (some ⟨g, 0, none⟩) l.length cap) := by
    have : w.drew.heap[b]? = some (.cells #[p, p1, .slice (some ⟨g, 0, none⟩) l.length cap, q] 331 (0, 0)) := hb
    rw [Lib.cell_of_heap this]; rfl
  obtain ⟨hSD, hUS⟩ := X.sliceData l w.drew g cap cur h0 hg hnc hcm hcs htake
  have mixed : Tryz.prog.follows .mixedOrders = true := by kernel_rfl
  go_enter Tryz.func103, Tryz.ntmps103
  go_wp2
  go_region_o
  all_goals (go_wp2; go_ret; exact ⟨rfl, Lib.below_freeze (Below.drew (Below.refl B w)) (p := ⟨g, 0, none⟩) hbg _⟩)

set_option maxHeartbeats 2000000 in
set_option maxRecDepth 100000 in
theorem X.string_nil (B b : Nat) (w : World) (p p1 q : Value) (hb : w.heap[b]? = some (.cells #[p, p1, .slice none 0 0, q] 331 (0, 0))) :
    Calls Tryz.prog 103 #[.pointer (some ⟨b, 1, none⟩)] w fun e w' => e = .returned (.string ⟨#[]⟩) ∧ Below B w w' := by
  have hUS : (Builtin.unsafeString_ #[202, 3] 9 #[.pointer none, .int .i64 0]).run Tryz.prog w.drew = .ok (.string .empty) w.drew := Lib.run_unsafeString_none w.drew _ _ _ none
  have c1 : w.drew.cell? ⟨b, 2, none⟩ = some (.slice none 0 0) := by
    have : w.drew.heap[b]? = some (.cells #[p, p1, .slice none 0 0, q] 331 (0, 0)) := hb
    rw [Lib.cell_of_heap this]; rfl
  have hSD : (Builtin.unsafeSliceData_ #[22] 202 #[.slice none 0 0]).run Tryz.prog w.drew = .ok (.pointer none) w.drew := rfl
  have mixed : Tryz.prog.follows .mixedOrders = true := by kernel_rfl
  go_enter Tryz.func103, Tryz.ntmps103
  go_wp2
  go_region_o
  all_goals (go_wp2; go_ret; exact ⟨rfl, Below.drew (Below.refl B w)⟩)

set_option maxHeartbeats 1000000 in
set_option maxRecDepth 100000 in
theorem X.len (b : Nat) (w : World) (h : w.cell? ⟨b, 2, none⟩ = some (.slice none 0 0)) :
    Calls Tryz.prog 102 #[.pointer (some ⟨b, 1, none⟩)] w fun e w' => e = .returned (.int .i64 0) ∧ w' = w := by
  go_enter Tryz.func102, Tryz.ntmps102
  go_wp2
  go_ret
  exact ⟨rfl, rfl⟩

/-- The text of a value that is no object. -/
def X.textOf (k r : Int) (t : ByteArray) : ByteArray :=
  if k = 0 then ⟨#[78, 111, 110, 101]⟩ else if k = 1 then (if r = 0 then ⟨#[70, 97, 108, 115, 101]⟩ else ⟨#[84, 114, 117, 101]⟩) else t

set_option maxHeartbeats 4000000 in
set_option maxRecDepth 100000 in
theorem X.value3 (B b : Nat) (r : Int) (t : ByteArray) (w : World) (p q : Value) (hB : B ≤ b) (hBw : B ≤ w.heap.size) (ht : t.size ≤ 140737488355328) (hb : w.heap[b]? = some (.cells #[p, .pointer none, .slice none 0 0, q] 331 (0, 0))) :
    Calls Tryz.prog 303 #[.pointer (some ⟨b, 0, none⟩), .agg #[.int .i64 3, .string t, .int .i64 r], .bool false] w fun e w' => e = .returned (.tuple #[]) ∧
      ∃ v, w'.heap[b]? = some (.cells #[p, .pointer (some ⟨b, 1, none⟩), v, q] 331 (0, 0)) ∧ w'.ownsRow B 5 1 v t.size (Lib.strCells t) ∧ Below B w w' ∧ (t.size = 0 → v = .slice none 0 0) := by
  have mixed : Tryz.prog.follows .mixedOrders = true := by kernel_rfl
  have hlt : b < w.heap.size := (Array.getElem?_eq_some_iff.1 hb).1
  go_enter Tryz.func303, Tryz.ntmps303
  go_wp2_with (go_at_call 102; refine (X.len b _ ?hl).mono ?_)
  case hl =>
    rw [Lib.cell_of_heap (cs := #[p, .pointer none, .slice none 0 0, q]) (T := 331) (fr := (0, 0))]
    · rfl
    · show (w.heap.push _)[b]? = _
      rw [Array.getElem?_push, if_neg (by omega)]
      exact hb
  rintro e w' ⟨rfl, rfl⟩
  go_wp2
  have hb' : (w.alloc (.cells #[.int .i64 3, .string t, .int .i64 r] 97)).drew.heap[b]? = some (.cells #[p, .pointer none, .slice none 0 0, q] 331 (0, 0)) := by
    show (w.heap.push _)[b]? = _
    rw [Array.getElem?_push, if_neg (by omega)]
    exact hb
  have hBw' : B ≤ (w.alloc (.cells #[.int .i64 3, .string t, .int .i64 r] 97)).drew.heap.size := by
    show B ≤ (w.heap.push _).size
    rw [Array.size_push]
    omega
  go_region_with (go_at_call 101; refine (X.write B b t _ p q hB hBw' ht hb').mono ?_; rintro e w' ⟨rfl, hw'⟩; go_wp2)
  all_goals
    go_wp2
    go_end0
    obtain ⟨v, g1, g2, g3, g4⟩ := hw'
    exact ⟨rfl, v, g1, g2, (((Below.refl B w).alloc hBw _).drew).trans g3, g4⟩

theorem X.string_all (B b : Nat) (t : ByteArray) (w : World) (p p1 v q : Value) (hB : B ≤ b) (hBw : B ≤ w.heap.size) (hb : w.heap[b]? = some (.cells #[p, p1, v, q] 331 (0, 0))) (hown : w.ownsRow B 5 1 v t.size (Lib.strCells t))
    (hz : t.size = 0 → v = .slice none 0 0) :
    Calls Tryz.prog 103 #[.pointer (some ⟨b, 1, none⟩)] w fun e w' => e = .returned (.string t) ∧ Below B w w' := by
  obtain ⟨⟨l⟩⟩ := t
  by_cases h0 : l = []
  · subst h0
    rw [hz rfl] at hb
    refine (X.string_nil B b w p p1 q hb).mono ?_
    rintro e w' ⟨rfl, h⟩
    exact ⟨rfl, h⟩
  · refine (X.string B b l w p p1 v q hB hBw hb ?_ h0).mono ?_
    · simpa [ByteArray.size, Lib.strCells_eq] using hown
    · rintro e w' ⟨rfl, h⟩
      exact ⟨rfl, h⟩

set_option maxHeartbeats 4000000 in
set_option maxRecDepth 100000 in
theorem X.show3 (w : World) (ao : Option Addr) (n c : Nat) (r : Int) (t : ByteArray) (ht : t.size ≤ 400) :
    Calls Tryz.prog 291 #[.agg #[.slice ao n c], .agg #[.int .i64 3, .string t, .int .i64 r]] w fun e w' => e = .returned (.string t) ∧ Below w.heap.size w w' := by
  have mixed : Tryz.prog.follows .mixedOrders = true := by kernel_rfl
  go_enter Tryz.func291, Tryz.ntmps291
  go_wp2_with (go_at_call 303; refine (X.value3 w.heap.size (w.heap.size + 2) r t _ (.slice ao n c) (.slice none 0 0) ?_ ?_ ?_ ?_).mono ?_)
  · omega
  · show w.heap.size ≤ (((w.heap.push _).push _).push _).size
    simp only [Array.size_push]
    omega
  · omega
  · show (((w.heap.push _).push _).push _)[w.heap.size + 2]? = _
    rw [Array.getElem?_push, if_pos (by simp only [Array.size_push])]
  · rintro e w' ⟨rfl, v, g1, g2, g3, g4⟩
    have gs := g3.size
    have hsz : w.heap.size ≤ w'.heap.size := by
      refine Nat.le_trans ?_ gs
      show w.heap.size ≤ (((w.heap.push _).push _).push _).size
      simp only [Array.size_push]
      omega
    go_wp2_with (go_at_call 103; refine (X.string_all w.heap.size (w.heap.size + 2) t _ _ _ v _ (by omega) hsz g1 g2 g4).mono ?_)
    rintro e w'' ⟨rfl, h2⟩
    go_wp2
    go_ret
    refine ⟨?_, ?_⟩
    · show Ending.returned (.string (t.extract 0 (min (t.size : Int) 400).toNat)) = _
      have e : (min (t.size : Int) 400).toNat = t.size := by omega
      rw [e]
      congr 2
      apply ByteArray.ext
      simp
    · exact ((((Below.refl w.heap.size w).alloc (Nat.le_refl _) _).alloc (by simp) _).alloc (by simp; omega) _).trans (g3.trans h2)
end Go.Proofs

/- strings.Index and IndexByte, off the shelf. -/
set_option linter.unusedVariables false
namespace Go.Proofs
open Go.Shelf Go.RowKit Go.Lib

def X.ren : Ren where
  f := fun n => if n = 143 then 52 else if n = 217 then 123 else if n = 219 then 82 else if n = 224 then 125 else if n = 225 then 124 else if n = 266 then 157 else if n = 267 then 126 else if n = 314 then 158 else 0
  t := fun n => if n = 46 then 137 else if n = 51 then 196 else if n = 146 then 197 else n
  g := fun _ => 0

theorem X.lay : Lays.n143 Tryz.prog X.ren where
  mixed := by kernel_rfl
  f143 := by kernel_rfl
  f217 := by kernel_rfl
  f219 := by kernel_rfl
  f224 := by kernel_rfl
  f225 := by kernel_rfl
  f266 := by kernel_rfl
  f267 := by kernel_rfl
  f314 := by kernel_rfl
  t3 := by kernel_rfl
  a3 := fun w => Tryz.isAgg3 w
  z3 := fun w => Tryz.sizeOf3 w
  v3 := fun w => Tryz.zeroValue3 w
  t4 := by kernel_rfl
  a4 := fun w => Tryz.isAgg4 w
  z4 := fun w => Tryz.sizeOf4 w
  v4 := fun w => Tryz.zeroValue4 w
  t5 := by kernel_rfl
  a5 := fun w => Tryz.isAgg5 w
  z5 := fun w => Tryz.sizeOf5 w
  v5 := fun w => Tryz.zeroValue5 w
  t9 := by kernel_rfl
  a9 := fun w => Tryz.isAgg9 w
  z9 := fun w => Tryz.sizeOf9 w
  v9 := fun w => Tryz.zeroValue9 w
  t46 := by kernel_rfl
  a46 := fun w => Tryz.isAgg137 w
  z46 := fun w => Tryz.sizeOf137 w
  v46 := fun w => Tryz.zeroValue137 w
  t51 := by kernel_rfl
  a51 := fun w => Tryz.isAgg196 w
  z51 := fun w => Tryz.sizeOf196 w
  v51 := fun w => Tryz.zeroValue196 w
  t146 := by kernel_rfl
  a146 := fun w => Tryz.isAgg197 w
  z146 := fun w => Tryz.sizeOf197 w
  v146 := fun w => Tryz.zeroValue197 w
  g1 := by kernel_rfl

theorem X.index (s sub : ByteArray) (m : Int) (w : World) (hs : s.size < 4294967281) (hm : w.cell? ⟨0, 0, none⟩ = some (.int .i64 m)) :
    Calls Tryz.prog 52 #[.string s, .string sub] w fun e w' => e = .returned (.int .i64 (Lib.index s.data.toList sub.data.toList)) ∧ w' = w :=
  Any.strings_Index X.lay s sub m w hs hm

theorem X.indexByte (s : ByteArray) (c : Int) (w : World) :
    Calls Tryz.prog 123 #[.string s, .int .u8 c] w fun e w' => e = .returned (.int .i64 (Lib.indexByte s.data.toList c.toNat.toUInt8)) ∧ w' = w :=
  Any.stringslite_IndexByte (ρ := X.ren) { X.lay with } s c w
end Go.Proofs

/- A Builder in a struct, to the evaluator: copyCheck and String. -/
set_option linter.unusedVariables false
set_option linter.unusedSimpArgs false
namespace Go.Proofs
open Go.RowKit

theorem X.sliceData' (l : List UInt8) (W : World) (g cap : Nat) (cur : Array Value) (hl0 : l ≠ []) (hg : W.heap[g]? = some (.cells cur 5 (0, 0))) (hnc : l.length ≤ cur.size) (hcm : l.length ≤ 400) (hcap : 0 < cap)
    (htake : ∀ (j : Nat) (x : UInt8), l[j]? = some x → cur[j]? = some (Value.int .u8 x.toNat)) :
    (Builtin.unsafeSliceData_ #[22] 202 #[.slice (some ⟨g, 0, none⟩) l.length cap]).run Tryz.prog W = .ok (.pointer (some ⟨g, 0, none⟩)) W ∧
    (Builtin.unsafeString_ #[202, 3] 9 #[.pointer (some ⟨g, 0, none⟩), .int .i64 l.length]).run Tryz.prog W = .ok (.string ⟨l.toArray⟩) (W.freeze ⟨g, 0, none⟩ l.length) := by
  have hl : l.length ≠ 0 := by simpa using hl0
  refine ⟨Lib.run_unsafeSliceData_row _ _ _ _ _ _ (by omega), ?_⟩
  refine Lib.run_unsafeString_row W 202 3 9 5 Tryz.underlying202 (by kernel_rfl) g cur.size (by simp [World.shape?, hg]) l hl0 (by omega) (by omega) ?_
  intro j x hx
  have := htake j x hx
  rw [Addr.add_lit, cell_of_row W g (0 + j) cur 5 (0, 0) hg, Nat.zero_add]
  exact this

set_option maxHeartbeats 2000000 in
set_option maxRecDepth 100000 in
theorem X.string' (b g cap : Nat) (l : List UInt8) (w : World) (p p1 q : Value) (cur : Array Value) (hb : w.heap[b]? = some (.cells #[p, p1, .slice (some ⟨g, 0, none⟩) l.length cap, q] 331 (0, 0))) (hcap : 0 < cap) (h0 : l ≠ [])
    (hg : w.heap[g]? = some (.cells cur 5 (0, 0))) (hnc : l.length ≤ cur.size) (hcm : l.length ≤ 400) (htake : ∀ (j : Nat) (x : UInt8), l[j]? = some x → cur[j]? = some (Value.int .u8 x.toNat)) :
    Calls Tryz.prog 103 #[.pointer (some ⟨b, 1, none⟩)] w fun e w' => e = .returned (.string ⟨l.toArray⟩) ∧ w' = w.drew.freeze ⟨g, 0, none⟩ l.length := by
  have hl0 : l.length ≠ 0 := fun h => h0 (List.length_eq_zero_iff.1 h)
  have c1 : w.drew.cell? ⟨b, 2, none⟩ = some (.slice (some ⟨g, 0, none⟩) l.length cap) := by
    have : w.drew.heap[b]? = some (.cells #[p, p1, .slice (some ⟨g, 0, none⟩) l.length cap, q] 331 (0, 0)) := hb
    rw [Lib.cell_of_heap this]; rfl
  obtain ⟨hSD, hUS⟩ := X.sliceData' l w.drew g cap cur h0 hg hnc hcm hcap htake
  have mixed : Tryz.prog.follows .mixedOrders = true := by kernel_rfl
  go_enter Tryz.func103, Tryz.ntmps103
  go_wp2
  go_region_o
  all_goals (go_wp2; go_ret; exact ⟨rfl, rfl⟩)
end Go.Proofs

namespace Go.Ev
open Go.Proofs Go.RowKit

/-- copyCheck of a Builder that lies at 1 of a struct. -/
def bCopy (i : Nat) (H : Heap) : Option (AV × Heap) :=
  match H.get i with
  | some (.cells [p, .ptr none, v, q] 331 false false) => some (.tuple [], H.set i (.cells [p, .ptr (some (i, 1)), v, q] 331 false false))
  | _ => none
def byteList : List AV → Option (List UInt8)
  | [] => some []
  | .int .u8 n :: r => if 0 ≤ n ∧ n < 256 then (byteList r).map (UInt8.ofNat n.toNat :: ·) else none
  | _ :: _ => none
def bText (H : Heap) (j n : Nat) : Option (AV × Heap) :=
  match H.get j with
  | some (.cells bs 5 _ false) =>
    match getCells bs 0 n with
    | some cs => match byteList cs with
      | some (x :: l) => if n ≤ 400 then some (.str (.con (x :: l)), H.set j .dead) else none
      | _ => none
    | none => none
  | _ => none
def bString (i : Nat) (H : Heap) : Option (AV × Heap) :=
  match H.get i with
  | some (.cells [_, _, .slice (some (j, 0)) n c _ 1, _] 331 false false) => if 0 < c then bText H j n else none
  | _ => none

section
variable {E : Env} {ρ : Rho} {H : Heap} {w : World}

theorem four {a b c d : AV} {cs : Array Value} (hm : cs.size = 4) (h : ∀ (k : Nat) (x : AV), [a, b, c, d][k]? = some x → ∃ v : Value, cs[k]? = some v ∧ val E ρ x v) :
    ∃ u v x y, cs = #[u, v, x, y] ∧ val E ρ a u ∧ val E ρ b v ∧ val E ρ c x ∧ val E ρ d y := by
  obtain ⟨u, e0, h0⟩ := h 0 a rfl
  obtain ⟨v, e1, h1⟩ := h 1 b rfl
  obtain ⟨x, e2, h2⟩ := h 2 c rfl
  obtain ⟨y, e3, h3⟩ := h 3 d rfl
  refine ⟨u, v, x, y, ?_, h0, h1, h2, h3⟩
  apply Array.ext'
  apply List.ext_getElem?
  intro k
  rw [Array.getElem?_toList]
  match k with
  | 0 => rw [e0]; rfl
  | 1 => rw [e1]; rfl
  | 2 => rw [e2]; rfl
  | 3 => rw [e3]; rfl
  | k + 4 => rw [Array.getElem?_eq_none (by omega)]; rfl

theorem bCopy_ok {i : Nat} {r : AV} {H' : Heap} (h : bCopy i H = some (r, H')) (hr : Rel E ρ H w) {u : Value} (hu : val E ρ (.ptr (some (i, 1))) u) :
    Calls Tryz.prog 153 #[u] w fun e w' => ∃ ρ' v, e = .returned v ∧ val E ρ' r v ∧ Rel E ρ' H' w' ∧ Step ρ H w ρ' H' w' := by
  unfold bCopy at h
  split at h
  · rename_i p v q hg
    simp only [Option.some.injEq, Prod.mk.injEq] at h
    obtain ⟨rfl, rfl⟩ := h
    obtain ⟨b, m, hi, rfl⟩ := val_ptr hu
    obtain ⟨cs, hb, hm, hle, hlo, hc⟩ := hr.toRd.cells hi hg
    have hm4 : cs.size = 4 := by rw [hm, hlo rfl]; rfl
    obtain ⟨x0, x1, x2, x3, rfl, h0, h1, h2, h3⟩ := four hm4 hc
    have e1 : x1 = .pointer none := by simpa [val] using h1
    subst e1
    refine (X.copyCheck b w x0 x2 x3 hb).mono ?_
    rintro e w' ⟨rfl, rfl⟩
    have hw := heap_setCell_same w b 1 _ _ (.pointer (some ⟨b, 1, none⟩)) hb
    obtain ⟨g1, g2⟩ := hr.set (C := .cells [p, .ptr (some (i, 1)), v, q] 331 false false) hi hg rfl rfl (w.setCell ⟨b, 1, none⟩ (.pointer (some ⟨b, 1, none⟩)))
      ⟨rfl, rfl, rfl, by simp [World.setCell], fun j hj => heap_setCell_other w ⟨b, 1, none⟩ j _ hj⟩
      ⟨#[x0, .pointer (some ⟨b, 1, none⟩), x2, x3], by rw [hw]; rfl, by rw [← hm, hm4]; rfl, by rw [← hm, hm4]; exact Nat.le_refl _, fun _ => by rw [← hm, hm4]; rfl, fun k a hk => by
        match k, hk with
        | 0, hk => simp at hk; subst hk; exact ⟨_, rfl, h0⟩
        | 1, hk => simp at hk; subst hk; exact ⟨_, rfl, by simp only [val]; exact ⟨b, m, hi, rfl⟩⟩
        | 2, hk => simp at hk; subst hk; exact ⟨_, rfl, h2⟩
        | 3, hk => simp at hk; subst hk; exact ⟨_, rfl, h3⟩
        | k + 4, hk => simp at hk⟩
    exact ⟨ρ, _, rfl, by simp [val, vals], g1, g2⟩
  · simp at h

theorem byteList_get : ∀ (cs : List AV) (l : List UInt8), byteList cs = some l → cs.length = l.length ∧ ∀ (j : Nat) (x : UInt8), l[j]? = some x → cs[j]? = some (.int .u8 x.toNat)
  | [], l, h => by simp [byteList] at h; subst h; simp
  | c :: cs, l, h => by
    cases c with
    | int k n =>
      cases k <;> simp only [byteList] at h
      case u8 =>
        split at h
        · rename_i hn
          simp only [Option.map_eq_some_iff] at h
          obtain ⟨l', h1, rfl⟩ := h
          obtain ⟨h2, h3⟩ := byteList_get cs l' h1
          refine ⟨by simp [h2], fun j x hj => ?_⟩
          cases j with
          | zero =>
            simp at hj
            subst hj
            simp
            omega
          | succ j => simpa using h3 j x (by simpa using hj)
        · simp at h
      all_goals simp at h
    | _ => simp [byteList] at h

theorem bString_ok {i : Nat} {r : AV} {H' : Heap} (h : bString i H = some (r, H')) (hr : Rel E ρ H w) {u : Value} (hu : val E ρ (.ptr (some (i, 1))) u) :
    Calls Tryz.prog 103 #[u] w fun e w' => ∃ ρ' v, e = .returned v ∧ val E ρ' r v ∧ Rel E ρ' H' w' ∧ Step ρ H w ρ' H' w' := by
  unfold bString at h
  split at h
  · rename_i a0 a1 j n c ex a3 hg
    split at h
    · rename_i hc0
      unfold bText at h
      split at h
      · rename_i bs lo hgj
        split at h
        · rename_i cs hcs
          split at h
          · rename_i x l hl
            split at h
            · rename_i hn
              simp only [Option.some.injEq, Prod.mk.injEq] at h
              obtain ⟨rfl, rfl⟩ := h
              obtain ⟨b, m, hi, rfl⟩ := val_ptr hu
              obtain ⟨ws, hb, hm, hle, hlo, hc⟩ := hr.toRd.cells hi hg
              have hm4 : ws.size = 4 := by rw [hm, hlo rfl]; rfl
              obtain ⟨x0, x1, x2, x3, rfl, h0, h1, h2, h3⟩ := four hm4 hc
              obtain ⟨g, mg, c', hj, rfl, hcc, _, hcm⟩ := val_slice h2
              obtain ⟨cur, hbg, hmg, hleg, _, hcg⟩ := hr.toRd.cells hj hgj
              obtain ⟨k1, k2⟩ := byteList_get cs _ hl
              have hcs' : cs = (bs.drop 0).take n ∧ cs.length = n := by
                unfold getCells at hcs
                simp only at hcs
                split at hcs
                · rename_i hlen
                  simp only [Option.some.injEq] at hcs
                  rw [← hcs]
                  exact ⟨rfl, hlen⟩
                · simp at hcs
              have hnl : n = (x :: l).length := by rw [← k1]; exact hcs'.2.symm
              have hbsn : n ≤ bs.length := by
                have := hcs'.2
                rw [hcs'.1] at this
                simp at this
                omega
              have hget : ∀ (j : Nat) (y : UInt8), (x :: l)[j]? = some y → cur[j]? = some (Value.int .u8 y.toNat) := by
                intro jj y hy
                have hcj := k2 jj y hy
                rw [hcs'.1, List.drop_zero, List.getElem?_take] at hcj
                split at hcj
                · obtain ⟨v, e1, e2⟩ := hcg jj _ hcj
                  rw [e1, val_int e2]
                · simp at hcj
              rw [hnl] at hb
              refine (X.string' b g c' (x :: l) w x0 x1 x3 cur hb (by omega) (by simp) hbg (by rw [← hnl, hmg]; omega) (by rw [← hnl]; exact hn) hget).mono ?_
              rintro e w' ⟨rfl, rfl⟩
              have hd := hr.drew (w.drawn + 1)
              have hfr : ∀ k, k ≠ g → (w.drew.freeze ⟨g, 0, none⟩ (x :: l).length).heap[k]? = w.drew.heap[k]? := by
                intro k hk
                unfold World.freeze
                simp only [List.length_cons, Nat.add_eq_zero_iff, Nat.one_ne_zero, and_false, if_false]
                rw [Array.getElem?_modify]
                rw [if_neg (fun e => hk e.symm)]
              obtain ⟨q1, q2⟩ := hd.set (C := .dead) hj hgj rfl rfl (w.drew.freeze ⟨g, 0, none⟩ (x :: l).length)
                ⟨rfl, rfl, rfl, by unfold World.freeze; simp only [List.length_cons, Nat.add_eq_zero_iff, Nat.one_ne_zero, and_false, if_false, Array.size_modify]; rfl, hfr⟩ trivial
              exact ⟨ρ, _, rfl, by simp [val, Env.bytes], q1, (Step.drew ρ H w (w.drawn + 1)).trans q2⟩
            · simp at h
          · simp at h
        · simp at h
      · simp at h
    · simp at h
  · simp at h
end
end Go.Ev

/- A Builder alone in its block, to the evaluator: copyCheck and String. -/
set_option linter.unusedVariables false
set_option linter.unusedSimpArgs false
namespace Go.Proofs
open Go.RowKit

set_option maxHeartbeats 1000000 in
set_option maxRecDepth 100000 in
theorem X.copyCheck0 (b : Nat) (w : World) (v : Value) (hb : w.heap[b]? = some (.cells #[.pointer none, v] 143 (0, 0))) :
    Calls Tryz.prog 153 #[.pointer (some ⟨b, 0, none⟩)] w fun e w' => e = .returned (.tuple #[]) ∧ w' = w.setCell ⟨b, 0, none⟩ (.pointer (some ⟨b, 0, none⟩)) := by
  have h0 : w.cell? ⟨b, 0, none⟩ = some (.pointer none) := by rw [Lib.cell_of_heap hb]; rfl
  have hfz : w.frozen? ⟨b, 0, none⟩ = false := Lib.frozen_of_heap hb 0
  have hsh : w.shape? b = some (143, 2) := by simp [World.shape?, hb]
  go_enter Tryz.func153, Tryz.ntmps153
  go_wp2
  rw [Lib.run_to_unsafe (t := 143) (j := Tryz.t143) w ⟨b, 0, none⟩ Tryz.underlying141 Tryz.underlying245 (by kernel_rfl) (by rw [show Tryz.t143.size = 2 from by kernel_rfl]; decide) hsh (show (0 : Nat) < 2 from by decide)]
  simp only [Result.andThen]
  rw [Oper.upon_value]
  go_wp2
  rw [run_callFunc_extern Tryz.func200 (by kernel_rfl) (by kernel_rfl) (by kernel_rfl) (e := Extern.AbiNoEscape.same) (by kernel_rfl)]
  rw [Lib.run_noEscape]
  simp only [Result.andThen]
  rw [Oper.upon_value]
  go_wp2
  rw [Lib.run_from_unsafe (u := 143) (j := Tryz.t143) w ⟨b, 0, none⟩ Tryz.underlying245 Tryz.underlying141 (by kernel_rfl) hsh (by kernel_rfl)]
  simp only [Result.andThen]
  rw [Oper.upon_value]
  go_wp2
  go_end0
  exact ⟨rfl, rfl⟩

set_option maxHeartbeats 2000000 in
set_option maxRecDepth 100000 in
theorem X.string0 (b g cap : Nat) (l : List UInt8) (w : World) (p1 : Value) (cur : Array Value) (hb : w.heap[b]? = some (.cells #[p1, .slice (some ⟨g, 0, none⟩) l.length cap] 143 (0, 0))) (hcap : 0 < cap) (h0 : l ≠ [])
    (hg : w.heap[g]? = some (.cells cur 5 (0, 0))) (hnc : l.length ≤ cur.size) (hcm : l.length ≤ 400) (htake : ∀ (j : Nat) (x : UInt8), l[j]? = some x → cur[j]? = some (Value.int .u8 x.toNat)) :
    Calls Tryz.prog 103 #[.pointer (some ⟨b, 0, none⟩)] w fun e w' => e = .returned (.string ⟨l.toArray⟩) ∧ w' = w.drew.freeze ⟨g, 0, none⟩ l.length := by
  have hl0 : l.length ≠ 0 := fun h => h0 (List.length_eq_zero_iff.1 h)
  have c1 : w.drew.cell? ⟨b, 1, none⟩ = some (.slice (some ⟨g, 0, none⟩) l.length cap) := by
    have : w.drew.heap[b]? = some (.cells #[p1, .slice (some ⟨g, 0, none⟩) l.length cap] 143 (0, 0)) := hb
    rw [Lib.cell_of_heap this]; rfl
  obtain ⟨hSD, hUS⟩ := X.sliceData' l w.drew g cap cur h0 hg hnc hcm hcap htake
  have mixed : Tryz.prog.follows .mixedOrders = true := by kernel_rfl
  go_enter Tryz.func103, Tryz.ntmps103
  go_wp2
  go_region_o
  all_goals (go_wp2; go_ret; exact ⟨rfl, rfl⟩)
end Go.Proofs

namespace Go.Ev
open Go.Proofs Go.RowKit

/-- copyCheck of a Builder alone in its block. -/
def bCopy0 (i : Nat) (H : Heap) : Option (AV × Heap) :=
  match H.get i with
  | some (.cells [.ptr none, v] 143 false false) => some (.tuple [], H.set i (.cells [.ptr (some (i, 0)), v] 143 false false))
  | _ => none
def bString0 (i : Nat) (H : Heap) : Option (AV × Heap) :=
  match H.get i with
  | some (.cells [_, .slice (some (j, 0)) n c _ 1] 143 false false) => if 0 < c then bText H j n else none
  | _ => none

section
variable {E : Env} {ρ : Rho} {H : Heap} {w : World}

theorem two2 {a b : AV} {cs : Array Value} (hm : cs.size = 2) (h : ∀ (k : Nat) (x : AV), [a, b][k]? = some x → ∃ v : Value, cs[k]? = some v ∧ val E ρ x v) :
    ∃ u v, cs = #[u, v] ∧ val E ρ a u ∧ val E ρ b v := by
  obtain ⟨u, e0, h0⟩ := h 0 a rfl
  obtain ⟨v, e1, h1⟩ := h 1 b rfl
  refine ⟨u, v, ?_, h0, h1⟩
  apply Array.ext'
  apply List.ext_getElem?
  intro k
  rw [Array.getElem?_toList]
  match k with
  | 0 => rw [e0]; rfl
  | 1 => rw [e1]; rfl
  | k + 2 => rw [Array.getElem?_eq_none (by omega)]; rfl

theorem bCopy0_ok {i : Nat} {r : AV} {H' : Heap} (h : bCopy0 i H = some (r, H')) (hr : Rel E ρ H w) {u : Value} (hu : val E ρ (.ptr (some (i, 0))) u) :
    Calls Tryz.prog 153 #[u] w fun e w' => ∃ ρ' v, e = .returned v ∧ val E ρ' r v ∧ Rel E ρ' H' w' ∧ Step ρ H w ρ' H' w' := by
  unfold bCopy0 at h
  split at h
  · rename_i v hg
    simp only [Option.some.injEq, Prod.mk.injEq] at h
    obtain ⟨rfl, rfl⟩ := h
    obtain ⟨b, m, hi, rfl⟩ := val_ptr hu
    obtain ⟨cs, hb, hm, hle, hlo, hc⟩ := hr.toRd.cells hi hg
    have hm4 : cs.size = 2 := by rw [hm, hlo rfl]; rfl
    obtain ⟨x1, x2, rfl, h1, h2⟩ := two2 hm4 hc
    have e1 : x1 = .pointer none := by simpa [val] using h1
    subst e1
    refine (X.copyCheck0 b w x2 hb).mono ?_
    rintro e w' ⟨rfl, rfl⟩
    have hw := heap_setCell_same w b 0 _ _ (.pointer (some ⟨b, 0, none⟩)) hb
    obtain ⟨g1, g2⟩ := hr.set (C := .cells [.ptr (some (i, 0)), v] 143 false false) hi hg rfl rfl (w.setCell ⟨b, 0, none⟩ (.pointer (some ⟨b, 0, none⟩)))
      ⟨rfl, rfl, rfl, by simp [World.setCell], fun j hj => heap_setCell_other w ⟨b, 0, none⟩ j _ hj⟩
      ⟨#[.pointer (some ⟨b, 0, none⟩), x2], by rw [hw]; rfl, by rw [← hm, hm4]; rfl, by rw [← hm, hm4]; exact Nat.le_refl _, fun _ => by rw [← hm, hm4]; rfl, fun k a hk => by
        match k, hk with
        | 0, hk => simp at hk; subst hk; exact ⟨_, rfl, by simp only [val]; exact ⟨b, m, hi, rfl⟩⟩
        | 1, hk => simp at hk; subst hk; exact ⟨_, rfl, h2⟩
        | k + 2, hk => simp at hk⟩
    exact ⟨ρ, _, rfl, by simp [val, vals], g1, g2⟩
  · simp at h

theorem bString0_ok {i : Nat} {r : AV} {H' : Heap} (h : bString0 i H = some (r, H')) (hr : Rel E ρ H w) {u : Value} (hu : val E ρ (.ptr (some (i, 0))) u) :
    Calls Tryz.prog 103 #[u] w fun e w' => ∃ ρ' v, e = .returned v ∧ val E ρ' r v ∧ Rel E ρ' H' w' ∧ Step ρ H w ρ' H' w' := by
  unfold bString0 at h
  split at h
  · rename_i a1 j n c ex hg
    split at h
    · rename_i hc0
      unfold bText at h
      split at h
      · rename_i bs lo hgj
        split at h
        · rename_i cs hcs
          split at h
          · rename_i x l hl
            split at h
            · rename_i hn
              simp only [Option.some.injEq, Prod.mk.injEq] at h
              obtain ⟨rfl, rfl⟩ := h
              obtain ⟨b, m, hi, rfl⟩ := val_ptr hu
              obtain ⟨ws, hb, hm, hle, hlo, hc⟩ := hr.toRd.cells hi hg
              have hm4 : ws.size = 2 := by rw [hm, hlo rfl]; rfl
              obtain ⟨x1, x2, rfl, h1, h2⟩ := two2 hm4 hc
              obtain ⟨g, mg, c', hj, rfl, hcc, _, hcm⟩ := val_slice h2
              obtain ⟨cur, hbg, hmg, hleg, _, hcg⟩ := hr.toRd.cells hj hgj
              obtain ⟨k1, k2⟩ := byteList_get cs _ hl
              have hcs' : cs = (bs.drop 0).take n ∧ cs.length = n := by
                unfold getCells at hcs
                simp only at hcs
                split at hcs
                · rename_i hlen
                  simp only [Option.some.injEq] at hcs
                  rw [← hcs]
                  exact ⟨rfl, hlen⟩
                · simp at hcs
              have hnl : n = (x :: l).length := by rw [← k1]; exact hcs'.2.symm
              have hbsn : n ≤ bs.length := by
                have := hcs'.2
                rw [hcs'.1] at this
                simp at this
                omega
              have hget : ∀ (j : Nat) (y : UInt8), (x :: l)[j]? = some y → cur[j]? = some (Value.int .u8 y.toNat) := by
                intro jj y hy
                have hcj := k2 jj y hy
                rw [hcs'.1, List.drop_zero, List.getElem?_take] at hcj
                split at hcj
                · obtain ⟨v, e1, e2⟩ := hcg jj _ hcj
                  rw [e1, val_int e2]
                · simp at hcj
              rw [hnl] at hb
              refine (X.string0 b g c' (x :: l) w x1 cur hb (by omega) (by simp) hbg (by rw [← hnl, hmg]; omega) (by rw [← hnl]; exact hn) hget).mono ?_
              rintro e w' ⟨rfl, rfl⟩
              have hd := hr.drew (w.drawn + 1)
              have hfr : ∀ k, k ≠ g → (w.drew.freeze ⟨g, 0, none⟩ (x :: l).length).heap[k]? = w.drew.heap[k]? := by
                intro k hk
                unfold World.freeze
                simp only [List.length_cons, Nat.add_eq_zero_iff, Nat.one_ne_zero, and_false, if_false]
                rw [Array.getElem?_modify]
                rw [if_neg (fun e => hk e.symm)]
              obtain ⟨q1, q2⟩ := hd.set (C := .dead) hj hgj rfl rfl (w.drew.freeze ⟨g, 0, none⟩ (x :: l).length)
                ⟨rfl, rfl, rfl, by unfold World.freeze; simp only [List.length_cons, Nat.add_eq_zero_iff, Nat.one_ne_zero, and_false, if_false, Array.size_modify]; rfl, hfr⟩ trivial
              exact ⟨ρ, _, rfl, by simp [val, Env.bytes], q1, (Step.drew ρ H w (w.drawn + 1)).trans q2⟩
            · simp at h
          · simp at h
        · simp at h
      · simp at h
    · simp at h
  · simp at h
end
end Go.Ev

/- (Heap).show of an integer. -/
set_option linter.unusedVariables false
set_option linter.unusedSimpArgs false
namespace Go.Proofs
open Go.RowKit

set_option maxHeartbeats 4000000 in
set_option maxRecDepth 100000 in
theorem X.value2 (B b : Nat) (r : Int) (t : ByteArray) (w : World) (p q : Value) (hB : B ≤ b) (hBw : B ≤ w.heap.size) (ht : t.size ≤ 140737488355328) (hb : w.heap[b]? = some (.cells #[p, .pointer none, .slice none 0 0, q] 331 (0, 0))) :
    Calls Tryz.prog 303 #[.pointer (some ⟨b, 0, none⟩), .agg #[.int .i64 2, .string t, .int .i64 r], .bool false] w fun e w' => e = .returned (.tuple #[]) ∧
      ∃ v, w'.heap[b]? = some (.cells #[p, .pointer (some ⟨b, 1, none⟩), v, q] 331 (0, 0)) ∧ w'.ownsRow B 5 1 v t.size (Lib.strCells t) ∧ Below B w w' ∧ (t.size = 0 → v = .slice none 0 0) := by
  have mixed : Tryz.prog.follows .mixedOrders = true := by kernel_rfl
  have hlt : b < w.heap.size := (Array.getElem?_eq_some_iff.1 hb).1
  go_enter Tryz.func303, Tryz.ntmps303
  go_wp2_with (go_at_call 102; refine (X.len b _ ?hl).mono ?_)
  case hl =>
    rw [Lib.cell_of_heap (cs := #[p, .pointer none, .slice none 0 0, q]) (T := 331) (fr := (0, 0))]
    · rfl
    · show (w.heap.push _)[b]? = _
      rw [Array.getElem?_push, if_neg (by omega)]
      exact hb
  rintro e w' ⟨rfl, rfl⟩
  go_wp2
  have hb' : (w.alloc (.cells #[.int .i64 2, .string t, .int .i64 r] 97)).drew.heap[b]? = some (.cells #[p, .pointer none, .slice none 0 0, q] 331 (0, 0)) := by
    show (w.heap.push _)[b]? = _
    rw [Array.getElem?_push, if_neg (by omega)]
    exact hb
  have hBw' : B ≤ (w.alloc (.cells #[.int .i64 2, .string t, .int .i64 r] 97)).drew.heap.size := by
    show B ≤ (w.heap.push _).size
    rw [Array.size_push]
    omega
  go_region_with (go_at_call 101; refine (X.write B b t _ p q hB hBw' ht hb').mono ?_; rintro e w' ⟨rfl, hw'⟩; go_wp2)
  all_goals
    go_wp2
    go_end0
    obtain ⟨v, g1, g2, g3, g4⟩ := hw'
    exact ⟨rfl, v, g1, g2, (((Below.refl B w).alloc hBw _).drew).trans g3, g4⟩

set_option maxHeartbeats 4000000 in
set_option maxRecDepth 100000 in
theorem X.show2 (w : World) (ao : Option Addr) (n c : Nat) (r : Int) (t : ByteArray) (ht : t.size ≤ 400) :
    Calls Tryz.prog 291 #[.agg #[.slice ao n c], .agg #[.int .i64 2, .string t, .int .i64 r]] w fun e w' => e = .returned (.string t) ∧ Below w.heap.size w w' := by
  have mixed : Tryz.prog.follows .mixedOrders = true := by kernel_rfl
  go_enter Tryz.func291, Tryz.ntmps291
  go_wp2_with (go_at_call 303; refine (X.value2 w.heap.size (w.heap.size + 2) r t _ (.slice ao n c) (.slice none 0 0) ?_ ?_ ?_ ?_).mono ?_)
  · omega
  · show w.heap.size ≤ (((w.heap.push _).push _).push _).size
    simp only [Array.size_push]
    omega
  · omega
  · show (((w.heap.push _).push _).push _)[w.heap.size + 2]? = _
    rw [Array.getElem?_push, if_pos (by simp only [Array.size_push])]
  · rintro e w' ⟨rfl, v, g1, g2, g3, g4⟩
    have gs := g3.size
    have hsz : w.heap.size ≤ w'.heap.size := by
      refine Nat.le_trans ?_ gs
      show w.heap.size ≤ (((w.heap.push _).push _).push _).size
      simp only [Array.size_push]
      omega
    go_wp2_with (go_at_call 103; refine (X.string_all w.heap.size (w.heap.size + 2) t _ _ _ v _ (by omega) hsz g1 g2 g4).mono ?_)
    rintro e w'' ⟨rfl, h2⟩
    go_wp2
    go_ret
    refine ⟨?_, ?_⟩
    · show Ending.returned (.string (t.extract 0 (min (t.size : Int) 400).toNat)) = _
      have e : (min (t.size : Int) 400).toNat = t.size := by omega
      rw [e]
      congr 2
      apply ByteArray.ext
      simp
    · exact ((((Below.refl w.heap.size w).alloc (Nat.le_refl _) _).alloc (by simp) _).alloc (by simp; omega) _).trans (g3.trans h2)
end Go.Proofs

/- From the kernel's run to the call; what the facts of laws have in common. -/
set_option linter.unusedVariables false
set_option linter.unusedSimpArgs false
namespace Go.Ev
open Go.Proofs Go.RowKit

def pinsOf (W : World) : Nat → Option Obj := fun b => W.heap[b]?
theorem bytes_back (s : ByteArray) : (⟨s.data.toList.toArray⟩ : ByteArray) = s := by
  cases s; simp

theorem pinned_cell {W w : World} (h : ∀ (b : Nat) (o : Obj), W.heap[b]? = some o → w.heap[b]? = some o) {a : Addr} {v : Value} (hv : W.cell? a = some v) : w.cell? a = some v := by
  unfold World.cell? at hv ⊢
  cases hb : W.heap[a.block]? with
  | none => rw [hb] at hv; simp at hv
  | some o => rw [h _ _ hb]; rw [hb] at hv; exact hv

def emptyH : Heap := { next := 0, low := 0, tr := .nil }

theorem mixed : Tryz.prog.follows .mixedOrders = true := by kernel_rfl

theorem rel_empty (E : Env) (W : World) (h : ∀ b o, E.pins b = some o → W.heap[b]? = some o) : Rel E (fun _ => none) emptyH W where
  blk := by intro i b m B hi; cases hi
  inj := by intro i j b m m' B C hi; cases hi
  dom := by intro i b m hi; cases hi
  pin := fun b o hb => ⟨h b o hb, fun i m hi => by cases hi⟩

theorem below_of_step {ρ : Rho} {H : Heap} {w w' : World} (h : Step (fun _ => none) emptyH w ρ H w') : Below w.heap.size w w' where
  os := h.os
  tape := h.tape
  output := h.output
  size := h.size
  block := fun k hk => h.keep k hk (by rintro ⟨i, m, B, hi, _⟩; cases hi)

/-- A run of the evaluator from the empty heap to true: the call returns true, and nothing that was there has changed. -/
theorem run_true {E : Env} {F : Facts} {f : FuncId} {args : List AV} {vs : Array Value} {W : World} (hE : E.Ok) (hF : FactsOk E Tryz.prog F) (hrun : Q.callK Tryz.prog F plansT 1000 60 f args emptyH (fun r _ => Q.eqV r (.bool true)) = true)
    (hp : ∀ b o, E.pins b = some o → W.heap[b]? = some o) (hv : vals E (fun _ => none) args vs.toList) : Calls Tryz.prog f vs W fun e w' => e = .returned (.bool true) ∧ Below W.heap.size W w' := by
  obtain ⟨r, H', h1, h2⟩ := Q.call_ok plans_ok 1000 60 f args emptyH _ hrun
  have hr := Q.eqV_ok _ _ h2
  subst hr
  refine (ev_ok hE hF plans_ok mixed 1000 60 f args emptyH _ H' h1 _ W vs (rel_empty E W hp) hv).mono ?_
  rintro e w' ⟨ρ', v, rfl, hb, _, hs⟩
  rw [val_bool hb]
  exact ⟨rfl, below_of_step hs⟩

theorem sym_valE {E : Env} {ρ : Rho} {i : Nat} {v : Value} (h : val E ρ (.sym i) v) : v = E.sym i := by simpa [val] using h
theorem twoE {E : Env} {ρ : Rho} {a b : AV} {vs : Array Value} (h : vals E ρ [a, b] vs.toList) : ∃ u v, vs = #[u, v] ∧ val E ρ a u ∧ val E ρ b v := by
  simp only [vals] at h
  obtain ⟨u, r, hu, h1, v, r', hr, h2, rfl⟩ := h
  subst hr
  exact ⟨u, v, Array.ext' hu, h1, h2⟩
theorem oneE {E : Env} {ρ : Rho} {a : AV} {vs : Array Value} (h : vals E ρ [a] vs.toList) : ∃ u, vs = #[u] ∧ val E ρ a u := by
  simp only [vals] at h
  obtain ⟨u, r, hu, h1, rfl⟩ := h
  exact ⟨u, Array.ext' hu, h1⟩
theorem cmp_ok {E : Env} {ρ : Rho} {P : Program} {op : BinOp} {x y : Int} {r : Bool} (h : ∀ t a b w, (do eqGuard op t a b (.int .i64 x) (.int .i64 y); binOp op t (.int .i64 x) (.int .i64 y)).run P w = .ok (.bool r) w) :
    ∃ z, val E ρ (.bool r) z ∧ ∀ t a b w, (do eqGuard op t a b (.int .i64 x) (.int .i64 y); binOp op t (.int .i64 x) (.int .i64 y)).run P w = .ok z w := ⟨.bool r, by simp [val], h⟩

theorem str_self_eq {E : Env} {ρ : Rho} {P : Program} (s : ByteArray) : ∃ z, val E ρ (.bool true) z ∧ ∀ t a b w, (do eqGuard .eql t a b (.string s) (.string s); binOp .eql t (.string s) (.string s)).run P w = .ok z w := by
  refine ⟨.bool true, by simp [val], fun t a b w => ?_⟩
  obtain ⟨z, h1, h2⟩ := strBin_ok (P := P) (w := w) (E := E) (ρ := ρ) (ox := a) (oy := b) (t := t) (a := .bool (decide (s.data.toList = s.data.toList))) (op := .eql) (x := s.data.toList) (y := s.data.toList) rfl
  have := val_bool h2
  subst this
  simpa [bytes_back] using h1
theorem str_self_ne {E : Env} {ρ : Rho} {P : Program} (s : ByteArray) : ∃ z, val E ρ (.bool false) z ∧ ∀ t a b w, (do eqGuard .neq t a b (.string s) (.string s); binOp .neq t (.string s) (.string s)).run P w = .ok z w := by
  refine ⟨.bool false, by simp [val], fun t a b w => ?_⟩
  obtain ⟨z, h1, h2⟩ := strBin_ok (P := P) (w := w) (E := E) (ρ := ρ) (ox := a) (oy := b) (t := t) (a := .bool (!decide (s.data.toList = s.data.toList))) (op := .neq) (x := s.data.toList) (y := s.data.toList) rfl
  have := val_bool h2
  subst this
  simpa [bytes_back] using h1

end Go.Ev
