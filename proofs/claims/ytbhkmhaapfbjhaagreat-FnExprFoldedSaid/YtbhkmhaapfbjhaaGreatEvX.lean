/- strings.Index and IndexByte, off the shelf. -/
import Derived.Test.YtbhkmhaapfbjhaaGreatProg
import Derived.Shelf.Strings.Search3
import Derived.KernelRfl

set_option linter.unusedVariables false
namespace Go.Proofs
open Go.Shelf Go.RowKit Go.Lib

def X.ren : Ren where
  f := fun n => if n = 143 then 102 else if n = 217 then 138 else if n = 219 then 123 else if n = 224 then 140 else if n = 225 then 139 else if n = 266 then 149 else if n = 267 then 141 else if n = 314 then 150 else 0
  t := fun n => if n = 46 then 114 else if n = 51 then 118 else if n = 146 then 119 else n
  g := fun _ => 0

theorem X.lay : Lays.n143 Tryz.prog X.ren where
  mixed := by kernel_rfl
  f143 := by kernel_rfl
  f217 := by kernel_rfl
  f219 := by kernel_rfl
  f224 := by kernel_rfl
  f225 := by kernel_rfl
  f266 := by kernel_rfl
  f267 := by kernel_rfl
  f314 := by kernel_rfl
  t3 := by kernel_rfl
  a3 := fun w => Tryz.isAgg3 w
  z3 := fun w => Tryz.sizeOf3 w
  v3 := fun w => Tryz.zeroValue3 w
  t4 := by kernel_rfl
  a4 := fun w => Tryz.isAgg4 w
  z4 := fun w => Tryz.sizeOf4 w
  v4 := fun w => Tryz.zeroValue4 w
  t5 := by kernel_rfl
  a5 := fun w => Tryz.isAgg5 w
  z5 := fun w => Tryz.sizeOf5 w
  v5 := fun w => Tryz.zeroValue5 w
  t9 := by kernel_rfl
  a9 := fun w => Tryz.isAgg9 w
  z9 := fun w => Tryz.sizeOf9 w
  v9 := fun w => Tryz.zeroValue9 w
  t46 := by kernel_rfl
  a46 := fun w => Tryz.isAgg114 w
  z46 := fun w => Tryz.sizeOf114 w
  v46 := fun w => Tryz.zeroValue114 w
  t51 := by kernel_rfl
  a51 := fun w => Tryz.isAgg118 w
  z51 := fun w => Tryz.sizeOf118 w
  v51 := fun w => Tryz.zeroValue118 w
  t146 := by kernel_rfl
  a146 := fun w => Tryz.isAgg119 w
  z146 := fun w => Tryz.sizeOf119 w
  v146 := fun w => Tryz.zeroValue119 w
  g1 := by kernel_rfl

theorem X.index (s sub : ByteArray) (m : Int) (w : World) (hs : s.size < 4294967281) (hm : w.cell? ⟨0, 0, none⟩ = some (.int .i64 m)) :
    Calls Tryz.prog 102 #[.string s, .string sub] w fun e w' => e = .returned (.int .i64 (Lib.index s.data.toList sub.data.toList)) ∧ w' = w :=
  Any.strings_Index X.lay s sub m w hs hm

theorem X.indexByte (s : ByteArray) (c : Int) (w : World) :
    Calls Tryz.prog 138 #[.string s, .int .u8 c] w fun e w' => e = .returned (.int .i64 (Lib.indexByte s.data.toList c.toNat.toUInt8)) ∧ w' = w :=
  Any.stringslite_IndexByte (ρ := X.ren) { X.lay with } s c w
end Go.Proofs
