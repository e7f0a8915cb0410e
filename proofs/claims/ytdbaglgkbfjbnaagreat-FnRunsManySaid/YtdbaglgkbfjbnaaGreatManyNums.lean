/- The numerals from 0 to 56: what decimal, intLit, IntOk and small answer, by the evaluator. -/
import Derived.Test.YtdbaglgkbfjbnaaGreatProg
import Derived.KernelRfl
import Derived.Test.YtdbaglgkbfjbnaaGreatEvP
import Derived.Test.YtdbaglgkbfjbnaaGreatEvV
import Derived.Test.YtdbaglgkbfjbnaaGreatEvW

set_option linter.unusedVariables false
set_option maxRecDepth 100000
namespace Go.Ev
open Go.Proofs

def conCall (f : FuncId) (args : List AV) (H : Heap) : Option (AV × Heap) :=
  match f, args with
  | 123, [.str (.con l), .int .u8 b] => some (.int .i64 (Lib.indexByte l b.toNat.toUInt8), H)
  | 153, [.ptr (some (i, 0))] => bCopy0 i H
  | 103, [.ptr (some (i, 0))] => bString0 i H
  | _, _ => none
def conFacts : Facts := { Facts.none with call := conCall }
def dec (n : Nat) : List UInt8 := if n < 10 then [UInt8.ofNat (48 + n)] else [UInt8.ofNat (48 + n / 10), UInt8.ofNat (48 + n % 10)]
noncomputable def conRun (f : FuncId) (args : List AV) (r0 : AV) : Bool := Q.callK Tryz.prog conFacts plansT 1000 60 f args emptyH (fun r _ => Q.eqV r r0)
structure NumOk (n : Nat) : Prop where
  decimal : conRun 65 [.int .i64 n] (.str (.con (dec n))) = true
  lit : conRun 64 [.str (.con (dec n))] (.agg [.int .i64 4, .str (.con (dec n)), .slice none 0 0 true 0, .slice none 0 0 true 0]) = true
  ok : conRun 34 [.str (.con (dec n))] (.bool true) = true
  small : conRun 261 [.str (.con (dec n)), .int .i64 400] (.int .i64 n) = true
theorem num0 : NumOk 0 := ⟨by kernel_rfl, by kernel_rfl, by kernel_rfl, by kernel_rfl⟩
theorem num1 : NumOk 1 := ⟨by kernel_rfl, by kernel_rfl, by kernel_rfl, by kernel_rfl⟩
theorem num2 : NumOk 2 := ⟨by kernel_rfl, by kernel_rfl, by kernel_rfl, by kernel_rfl⟩
theorem num3 : NumOk 3 := ⟨by kernel_rfl, by kernel_rfl, by kernel_rfl, by kernel_rfl⟩
theorem num4 : NumOk 4 := ⟨by kernel_rfl, by kernel_rfl, by kernel_rfl, by kernel_rfl⟩
theorem num5 : NumOk 5 := ⟨by kernel_rfl, by kernel_rfl, by kernel_rfl, by kernel_rfl⟩
theorem num6 : NumOk 6 := ⟨by kernel_rfl, by kernel_rfl, by kernel_rfl, by kernel_rfl⟩
theorem num7 : NumOk 7 := ⟨by kernel_rfl, by kernel_rfl, by kernel_rfl, by kernel_rfl⟩
theorem num8 : NumOk 8 := ⟨by kernel_rfl, by kernel_rfl, by kernel_rfl, by kernel_rfl⟩
theorem num9 : NumOk 9 := ⟨by kernel_rfl, by kernel_rfl, by kernel_rfl, by kernel_rfl⟩
theorem num10 : NumOk 10 := ⟨by kernel_rfl, by kernel_rfl, by kernel_rfl, by kernel_rfl⟩
theorem num11 : NumOk 11 := ⟨by kernel_rfl, by kernel_rfl, by kernel_rfl, by kernel_rfl⟩
theorem num12 : NumOk 12 := ⟨by kernel_rfl, by kernel_rfl, by kernel_rfl, by kernel_rfl⟩
theorem num13 : NumOk 13 := ⟨by kernel_rfl, by kernel_rfl, by kernel_rfl, by kernel_rfl⟩
theorem num14 : NumOk 14 := ⟨by kernel_rfl, by kernel_rfl, by kernel_rfl, by kernel_rfl⟩
theorem num15 : NumOk 15 := ⟨by kernel_rfl, by kernel_rfl, by kernel_rfl, by kernel_rfl⟩
theorem num16 : NumOk 16 := ⟨by kernel_rfl, by kernel_rfl, by kernel_rfl, by kernel_rfl⟩
theorem num17 : NumOk 17 := ⟨by kernel_rfl, by kernel_rfl, by kernel_rfl, by kernel_rfl⟩
theorem num18 : NumOk 18 := ⟨by kernel_rfl, by kernel_rfl, by kernel_rfl, by kernel_rfl⟩
theorem num19 : NumOk 19 := ⟨by kernel_rfl, by kernel_rfl, by kernel_rfl, by kernel_rfl⟩
theorem num20 : NumOk 20 := ⟨by kernel_rfl, by kernel_rfl, by kernel_rfl, by kernel_rfl⟩
theorem num21 : NumOk 21 := ⟨by kernel_rfl, by kernel_rfl, by kernel_rfl, by kernel_rfl⟩
theorem num22 : NumOk 22 := ⟨by kernel_rfl, by kernel_rfl, by kernel_rfl, by kernel_rfl⟩
theorem num23 : NumOk 23 := ⟨by kernel_rfl, by kernel_rfl, by kernel_rfl, by kernel_rfl⟩
theorem num24 : NumOk 24 := ⟨by kernel_rfl, by kernel_rfl, by kernel_rfl, by kernel_rfl⟩
theorem num25 : NumOk 25 := ⟨by kernel_rfl, by kernel_rfl, by kernel_rfl, by kernel_rfl⟩
theorem num26 : NumOk 26 := ⟨by kernel_rfl, by kernel_rfl, by kernel_rfl, by kernel_rfl⟩
theorem num27 : NumOk 27 := ⟨by kernel_rfl, by kernel_rfl, by kernel_rfl, by kernel_rfl⟩
theorem num28 : NumOk 28 := ⟨by kernel_rfl, by kernel_rfl, by kernel_rfl, by kernel_rfl⟩
theorem num29 : NumOk 29 := ⟨by kernel_rfl, by kernel_rfl, by kernel_rfl, by kernel_rfl⟩
theorem num30 : NumOk 30 := ⟨by kernel_rfl, by kernel_rfl, by kernel_rfl, by kernel_rfl⟩
theorem num31 : NumOk 31 := ⟨by kernel_rfl, by kernel_rfl, by kernel_rfl, by kernel_rfl⟩
theorem num32 : NumOk 32 := ⟨by kernel_rfl, by kernel_rfl, by kernel_rfl, by kernel_rfl⟩
theorem num33 : NumOk 33 := ⟨by kernel_rfl, by kernel_rfl, by kernel_rfl, by kernel_rfl⟩
theorem num34 : NumOk 34 := ⟨by kernel_rfl, by kernel_rfl, by kernel_rfl, by kernel_rfl⟩
theorem num35 : NumOk 35 := ⟨by kernel_rfl, by kernel_rfl, by kernel_rfl, by kernel_rfl⟩
theorem num36 : NumOk 36 := ⟨by kernel_rfl, by kernel_rfl, by kernel_rfl, by kernel_rfl⟩
theorem num37 : NumOk 37 := ⟨by kernel_rfl, by kernel_rfl, by kernel_rfl, by kernel_rfl⟩
theorem num38 : NumOk 38 := ⟨by kernel_rfl, by kernel_rfl, by kernel_rfl, by kernel_rfl⟩
theorem num39 : NumOk 39 := ⟨by kernel_rfl, by kernel_rfl, by kernel_rfl, by kernel_rfl⟩
theorem num40 : NumOk 40 := ⟨by kernel_rfl, by kernel_rfl, by kernel_rfl, by kernel_rfl⟩
theorem num41 : NumOk 41 := ⟨by kernel_rfl, by kernel_rfl, by kernel_rfl, by kernel_rfl⟩
theorem num42 : NumOk 42 := ⟨by kernel_rfl, by kernel_rfl, by kernel_rfl, by kernel_rfl⟩
theorem num43 : NumOk 43 := ⟨by kernel_rfl, by kernel_rfl, by kernel_rfl, by kernel_rfl⟩
theorem num44 : NumOk 44 := ⟨by kernel_rfl, by kernel_rfl, by kernel_rfl, by kernel_rfl⟩
theorem num45 : NumOk 45 := ⟨by kernel_rfl, by kernel_rfl, by kernel_rfl, by kernel_rfl⟩
theorem num46 : NumOk 46 := ⟨by kernel_rfl, by kernel_rfl, by kernel_rfl, by kernel_rfl⟩
theorem num47 : NumOk 47 := ⟨by kernel_rfl, by kernel_rfl, by kernel_rfl, by kernel_rfl⟩
theorem num48 : NumOk 48 := ⟨by kernel_rfl, by kernel_rfl, by kernel_rfl, by kernel_rfl⟩
theorem num49 : NumOk 49 := ⟨by kernel_rfl, by kernel_rfl, by kernel_rfl, by kernel_rfl⟩
theorem num50 : NumOk 50 := ⟨by kernel_rfl, by kernel_rfl, by kernel_rfl, by kernel_rfl⟩
theorem num51 : NumOk 51 := ⟨by kernel_rfl, by kernel_rfl, by kernel_rfl, by kernel_rfl⟩
theorem num52 : NumOk 52 := ⟨by kernel_rfl, by kernel_rfl, by kernel_rfl, by kernel_rfl⟩
theorem num53 : NumOk 53 := ⟨by kernel_rfl, by kernel_rfl, by kernel_rfl, by kernel_rfl⟩
theorem num54 : NumOk 54 := ⟨by kernel_rfl, by kernel_rfl, by kernel_rfl, by kernel_rfl⟩
theorem num55 : NumOk 55 := ⟨by kernel_rfl, by kernel_rfl, by kernel_rfl, by kernel_rfl⟩
theorem num56 : NumOk 56 := ⟨by kernel_rfl, by kernel_rfl, by kernel_rfl, by kernel_rfl⟩
theorem nums : ∀ n : Nat, n ≤ 56 → NumOk n
  | 0, _ => num0
  | 1, _ => num1
  | 2, _ => num2
  | 3, _ => num3
  | 4, _ => num4
  | 5, _ => num5
  | 6, _ => num6
  | 7, _ => num7
  | 8, _ => num8
  | 9, _ => num9
  | 10, _ => num10
  | 11, _ => num11
  | 12, _ => num12
  | 13, _ => num13
  | 14, _ => num14
  | 15, _ => num15
  | 16, _ => num16
  | 17, _ => num17
  | 18, _ => num18
  | 19, _ => num19
  | 20, _ => num20
  | 21, _ => num21
  | 22, _ => num22
  | 23, _ => num23
  | 24, _ => num24
  | 25, _ => num25
  | 26, _ => num26
  | 27, _ => num27
  | 28, _ => num28
  | 29, _ => num29
  | 30, _ => num30
  | 31, _ => num31
  | 32, _ => num32
  | 33, _ => num33
  | 34, _ => num34
  | 35, _ => num35
  | 36, _ => num36
  | 37, _ => num37
  | 38, _ => num38
  | 39, _ => num39
  | 40, _ => num40
  | 41, _ => num41
  | 42, _ => num42
  | 43, _ => num43
  | 44, _ => num44
  | 45, _ => num45
  | 46, _ => num46
  | 47, _ => num47
  | 48, _ => num48
  | 49, _ => num49
  | 50, _ => num50
  | 51, _ => num51
  | 52, _ => num52
  | 53, _ => num53
  | 54, _ => num54
  | 55, _ => num55
  | 56, _ => num56
  | n + 57, h => absurd h (by omega)
end Go.Ev
