/- The kernel's runs of the law FnRunsMany: one for each case of the drawn text and number. -/
import Derived.Test.YtdbaglgkbfjbnaaGreatProg
import Derived.KernelRfl
import Derived.Test.YtdbaglgkbfjbnaaGreatEvP
import Derived.Test.YtdbaglgkbfjbnaaGreatManyFacts
import Derived.Test.YtdbaglgkbfjbnaaGreatEvW

set_option linter.unusedVariables false
set_option maxRecDepth 100000
namespace Go.Ev
open Go.Proofs
noncomputable def manyRun (c : MCfg) : Bool := Q.callK Tryz.prog (manyFacts c) plansT 1000 60 5 [.sym 0] emptyH (fun r _ => Q.eqV r (.bool true))
theorem manyRun0 : manyRun ⟨false, false, false, false, false, false, false⟩ = true := by kernel_rfl
theorem manyRun1 : manyRun ⟨false, false, false, false, false, false, true⟩ = true := by kernel_rfl
theorem manyRun2 : manyRun ⟨false, false, false, false, true, false, false⟩ = true := by kernel_rfl
theorem manyRun3 : manyRun ⟨false, false, false, false, true, true, false⟩ = true := by kernel_rfl
theorem manyRun4 : manyRun ⟨false, false, false, true, false, false, false⟩ = true := by kernel_rfl
theorem manyRun5 : manyRun ⟨false, false, false, true, false, false, true⟩ = true := by kernel_rfl
theorem manyRun6 : manyRun ⟨false, false, false, true, true, false, false⟩ = true := by kernel_rfl
theorem manyRun7 : manyRun ⟨false, false, false, true, true, true, false⟩ = true := by kernel_rfl
theorem manyRun8 : manyRun ⟨false, false, true, false, false, false, false⟩ = true := by kernel_rfl
theorem manyRun9 : manyRun ⟨false, false, true, false, false, false, true⟩ = true := by kernel_rfl
theorem manyRun10 : manyRun ⟨false, false, true, false, true, false, false⟩ = true := by kernel_rfl
theorem manyRun11 : manyRun ⟨false, false, true, false, true, true, false⟩ = true := by kernel_rfl
theorem manyRun12 : manyRun ⟨false, true, false, false, false, false, false⟩ = true := by kernel_rfl
theorem manyRun13 : manyRun ⟨false, true, false, false, false, false, true⟩ = true := by kernel_rfl
theorem manyRun14 : manyRun ⟨false, true, false, false, true, false, false⟩ = true := by kernel_rfl
theorem manyRun15 : manyRun ⟨false, true, false, false, true, true, false⟩ = true := by kernel_rfl
theorem manyRun16 : manyRun ⟨false, true, false, true, false, false, false⟩ = true := by kernel_rfl
theorem manyRun17 : manyRun ⟨false, true, false, true, false, false, true⟩ = true := by kernel_rfl
theorem manyRun18 : manyRun ⟨false, true, false, true, true, false, false⟩ = true := by kernel_rfl
theorem manyRun19 : manyRun ⟨false, true, false, true, true, true, false⟩ = true := by kernel_rfl
theorem manyRun20 : manyRun ⟨false, true, true, false, false, false, false⟩ = true := by kernel_rfl
theorem manyRun21 : manyRun ⟨false, true, true, false, false, false, true⟩ = true := by kernel_rfl
theorem manyRun22 : manyRun ⟨false, true, true, false, true, false, false⟩ = true := by kernel_rfl
theorem manyRun23 : manyRun ⟨false, true, true, false, true, true, false⟩ = true := by kernel_rfl
theorem manyRun24 : manyRun ⟨true, false, false, false, false, false, false⟩ = true := by kernel_rfl
theorem manyRun25 : manyRun ⟨true, false, false, false, false, false, true⟩ = true := by kernel_rfl
theorem manyRun26 : manyRun ⟨true, false, false, false, true, false, false⟩ = true := by kernel_rfl
theorem manyRun27 : manyRun ⟨true, false, false, false, true, true, false⟩ = true := by kernel_rfl
theorem manyRun28 : manyRun ⟨true, false, false, true, false, false, false⟩ = true := by kernel_rfl
theorem manyRun29 : manyRun ⟨true, false, false, true, false, false, true⟩ = true := by kernel_rfl
theorem manyRun30 : manyRun ⟨true, false, false, true, true, false, false⟩ = true := by kernel_rfl
theorem manyRun31 : manyRun ⟨true, false, false, true, true, true, false⟩ = true := by kernel_rfl
theorem manyRun32 : manyRun ⟨true, false, true, false, false, false, false⟩ = true := by kernel_rfl
theorem manyRun33 : manyRun ⟨true, false, true, false, false, false, true⟩ = true := by kernel_rfl
theorem manyRun34 : manyRun ⟨true, false, true, false, true, false, false⟩ = true := by kernel_rfl
theorem manyRun35 : manyRun ⟨true, false, true, false, true, true, false⟩ = true := by kernel_rfl
theorem manyRun36 : manyRun ⟨true, true, false, false, false, false, false⟩ = true := by kernel_rfl
theorem manyRun37 : manyRun ⟨true, true, false, false, false, false, true⟩ = true := by kernel_rfl
theorem manyRun38 : manyRun ⟨true, true, false, false, true, false, false⟩ = true := by kernel_rfl
theorem manyRun39 : manyRun ⟨true, true, false, false, true, true, false⟩ = true := by kernel_rfl
theorem manyRun40 : manyRun ⟨true, true, false, true, false, false, false⟩ = true := by kernel_rfl
theorem manyRun41 : manyRun ⟨true, true, false, true, false, false, true⟩ = true := by kernel_rfl
theorem manyRun42 : manyRun ⟨true, true, false, true, true, false, false⟩ = true := by kernel_rfl
theorem manyRun43 : manyRun ⟨true, true, false, true, true, true, false⟩ = true := by kernel_rfl
theorem manyRun44 : manyRun ⟨true, true, true, false, false, false, false⟩ = true := by kernel_rfl
theorem manyRun45 : manyRun ⟨true, true, true, false, false, false, true⟩ = true := by kernel_rfl
theorem manyRun46 : manyRun ⟨true, true, true, false, true, false, false⟩ = true := by kernel_rfl
theorem manyRun47 : manyRun ⟨true, true, true, false, true, true, false⟩ = true := by kernel_rfl
theorem manyRuns : ∀ c : MCfg, c.can = true → manyRun c = true
  | ⟨false, false, false, false, false, false, false⟩, _ => manyRun0
  | ⟨false, false, false, false, false, false, true⟩, _ => manyRun1
  | ⟨false, false, false, false, false, true, false⟩, h => absurd h (by decide)
  | ⟨false, false, false, false, false, true, true⟩, h => absurd h (by decide)
  | ⟨false, false, false, false, true, false, false⟩, _ => manyRun2
  | ⟨false, false, false, false, true, false, true⟩, h => absurd h (by decide)
  | ⟨false, false, false, false, true, true, false⟩, _ => manyRun3
  | ⟨false, false, false, false, true, true, true⟩, h => absurd h (by decide)
  | ⟨false, false, false, true, false, false, false⟩, _ => manyRun4
  | ⟨false, false, false, true, false, false, true⟩, _ => manyRun5
  | ⟨false, false, false, true, false, true, false⟩, h => absurd h (by decide)
  | ⟨false, false, false, true, false, true, true⟩, h => absurd h (by decide)
  | ⟨false, false, false, true, true, false, false⟩, _ => manyRun6
  | ⟨false, false, false, true, true, false, true⟩, h => absurd h (by decide)
  | ⟨false, false, false, true, true, true, false⟩, _ => manyRun7
  | ⟨false, false, false, true, true, true, true⟩, h => absurd h (by decide)
  | ⟨false, false, true, false, false, false, false⟩, _ => manyRun8
  | ⟨false, false, true, false, false, false, true⟩, _ => manyRun9
  | ⟨false, false, true, false, false, true, false⟩, h => absurd h (by decide)
  | ⟨false, false, true, false, false, true, true⟩, h => absurd h (by decide)
  | ⟨false, false, true, false, true, false, false⟩, _ => manyRun10
  | ⟨false, false, true, false, true, false, true⟩, h => absurd h (by decide)
  | ⟨false, false, true, false, true, true, false⟩, _ => manyRun11
  | ⟨false, false, true, false, true, true, true⟩, h => absurd h (by decide)
  | ⟨false, false, true, true, false, false, false⟩, h => absurd h (by decide)
  | ⟨false, false, true, true, false, false, true⟩, h => absurd h (by decide)
  | ⟨false, false, true, true, false, true, false⟩, h => absurd h (by decide)
  | ⟨false, false, true, true, false, true, true⟩, h => absurd h (by decide)
  | ⟨false, false, true, true, true, false, false⟩, h => absurd h (by decide)
  | ⟨false, false, true, true, true, false, true⟩, h => absurd h (by decide)
  | ⟨false, false, true, true, true, true, false⟩, h => absurd h (by decide)
  | ⟨false, false, true, true, true, true, true⟩, h => absurd h (by decide)
  | ⟨false, true, false, false, false, false, false⟩, _ => manyRun12
  | ⟨false, true, false, false, false, false, true⟩, _ => manyRun13
  | ⟨false, true, false, false, false, true, false⟩, h => absurd h (by decide)
  | ⟨false, true, false, false, false, true, true⟩, h => absurd h (by decide)
  | ⟨false, true, false, false, true, false, false⟩, _ => manyRun14
  | ⟨false, true, false, false, true, false, true⟩, h => absurd h (by decide)
  | ⟨false, true, false, false, true, true, false⟩, _ => manyRun15
  | ⟨false, true, false, false, true, true, true⟩, h => absurd h (by decide)
  | ⟨false, true, false, true, false, false, false⟩, _ => manyRun16
  | ⟨false, true, false, true, false, false, true⟩, _ => manyRun17
  | ⟨false, true, false, true, false, true, false⟩, h => absurd h (by decide)
  | ⟨false, true, false, true, false, true, true⟩, h => absurd h (by decide)
  | ⟨false, true, false, true, true, false, false⟩, _ => manyRun18
  | ⟨false, true, false, true, true, false, true⟩, h => absurd h (by decide)
  | ⟨false, true, false, true, true, true, false⟩, _ => manyRun19
  | ⟨false, true, false, true, true, true, true⟩, h => absurd h (by decide)
  | ⟨false, true, true, false, false, false, false⟩, _ => manyRun20
  | ⟨false, true, true, false, false, false, true⟩, _ => manyRun21
  | ⟨false, true, true, false, false, true, false⟩, h => absurd h (by decide)
  | ⟨false, true, true, false, false, true, true⟩, h => absurd h (by decide)
  | ⟨false, true, true, false, true, false, false⟩, _ => manyRun22
  | ⟨false, true, true, false, true, false, true⟩, h => absurd h (by decide)
  | ⟨false, true, true, false, true, true, false⟩, _ => manyRun23
  | ⟨false, true, true, false, true, true, true⟩, h => absurd h (by decide)
  | ⟨false, true, true, true, false, false, false⟩, h => absurd h (by decide)
  | ⟨false, true, true, true, false, false, true⟩, h => absurd h (by decide)
  | ⟨false, true, true, true, false, true, false⟩, h => absurd h (by decide)
  | ⟨false, true, true, true, false, true, true⟩, h => absurd h (by decide)
  | ⟨false, true, true, true, true, false, false⟩, h => absurd h (by decide)
  | ⟨false, true, true, true, true, false, true⟩, h => absurd h (by decide)
  | ⟨false, true, true, true, true, true, false⟩, h => absurd h (by decide)
  | ⟨false, true, true, true, true, true, true⟩, h => absurd h (by decide)
  | ⟨true, false, false, false, false, false, false⟩, _ => manyRun24
  | ⟨true, false, false, false, false, false, true⟩, _ => manyRun25
  | ⟨true, false, false, false, false, true, false⟩, h => absurd h (by decide)
  | ⟨true, false, false, false, false, true, true⟩, h => absurd h (by decide)
  | ⟨true, false, false, false, true, false, false⟩, _ => manyRun26
  | ⟨true, false, false, false, true, false, true⟩, h => absurd h (by decide)
  | ⟨true, false, false, false, true, true, false⟩, _ => manyRun27
  | ⟨true, false, false, false, true, true, true⟩, h => absurd h (by decide)
  | ⟨true, false, false, true, false, false, false⟩, _ => manyRun28
  | ⟨true, false, false, true, false, false, true⟩, _ => manyRun29
  | ⟨true, false, false, true, false, true, false⟩, h => absurd h (by decide)
  | ⟨true, false, false, true, false, true, true⟩, h => absurd h (by decide)
  | ⟨true, false, false, true, true, false, false⟩, _ => manyRun30
  | ⟨true, false, false, true, true, false, true⟩, h => absurd h (by decide)
  | ⟨true, false, false, true, true, true, false⟩, _ => manyRun31
  | ⟨true, false, false, true, true, true, true⟩, h => absurd h (by decide)
  | ⟨true, false, true, false, false, false, false⟩, _ => manyRun32
  | ⟨true, false, true, false, false, false, true⟩, _ => manyRun33
  | ⟨true, false, true, false, false, true, false⟩, h => absurd h (by decide)
  | ⟨true, false, true, false, false, true, true⟩, h => absurd h (by decide)
  | ⟨true, false, true, false, true, false, false⟩, _ => manyRun34
  | ⟨true, false, true, false, true, false, true⟩, h => absurd h (by decide)
  | ⟨true, false, true, false, true, true, false⟩, _ => manyRun35
  | ⟨true, false, true, false, true, true, true⟩, h => absurd h (by decide)
  | ⟨true, false, true, true, false, false, false⟩, h => absurd h (by decide)
  | ⟨true, false, true, true, false, false, true⟩, h => absurd h (by decide)
  | ⟨true, false, true, true, false, true, false⟩, h => absurd h (by decide)
  | ⟨true, false, true, true, false, true, true⟩, h => absurd h (by decide)
  | ⟨true, false, true, true, true, false, false⟩, h => absurd h (by decide)
  | ⟨true, false, true, true, true, false, true⟩, h => absurd h (by decide)
  | ⟨true, false, true, true, true, true, false⟩, h => absurd h (by decide)
  | ⟨true, false, true, true, true, true, true⟩, h => absurd h (by decide)
  | ⟨true, true, false, false, false, false, false⟩, _ => manyRun36
  | ⟨true, true, false, false, false, false, true⟩, _ => manyRun37
  | ⟨true, true, false, false, false, true, false⟩, h => absurd h (by decide)
  | ⟨true, true, false, false, false, true, true⟩, h => absurd h (by decide)
  | ⟨true, true, false, false, true, false, false⟩, _ => manyRun38
  | ⟨true, true, false, false, true, false, true⟩, h => absurd h (by decide)
  | ⟨true, true, false, false, true, true, false⟩, _ => manyRun39
  | ⟨true, true, false, false, true, true, true⟩, h => absurd h (by decide)
  | ⟨true, true, false, true, false, false, false⟩, _ => manyRun40
  | ⟨true, true, false, true, false, false, true⟩, _ => manyRun41
  | ⟨true, true, false, true, false, true, false⟩, h => absurd h (by decide)
  | ⟨true, true, false, true, false, true, true⟩, h => absurd h (by decide)
  | ⟨true, true, false, true, true, false, false⟩, _ => manyRun42
  | ⟨true, true, false, true, true, false, true⟩, h => absurd h (by decide)
  | ⟨true, true, false, true, true, true, false⟩, _ => manyRun43
  | ⟨true, true, false, true, true, true, true⟩, h => absurd h (by decide)
  | ⟨true, true, true, false, false, false, false⟩, _ => manyRun44
  | ⟨true, true, true, false, false, false, true⟩, _ => manyRun45
  | ⟨true, true, true, false, false, true, false⟩, h => absurd h (by decide)
  | ⟨true, true, true, false, false, true, true⟩, h => absurd h (by decide)
  | ⟨true, true, true, false, true, false, false⟩, _ => manyRun46
  | ⟨true, true, true, false, true, false, true⟩, h => absurd h (by decide)
  | ⟨true, true, true, false, true, true, false⟩, _ => manyRun47
  | ⟨true, true, true, false, true, true, true⟩, h => absurd h (by decide)
  | ⟨true, true, true, true, false, false, false⟩, h => absurd h (by decide)
  | ⟨true, true, true, true, false, false, true⟩, h => absurd h (by decide)
  | ⟨true, true, true, true, false, true, false⟩, h => absurd h (by decide)
  | ⟨true, true, true, true, false, true, true⟩, h => absurd h (by decide)
  | ⟨true, true, true, true, true, false, false⟩, h => absurd h (by decide)
  | ⟨true, true, true, true, true, false, true⟩, h => absurd h (by decide)
  | ⟨true, true, true, true, true, true, false⟩, h => absurd h (by decide)
  | ⟨true, true, true, true, true, true, true⟩, h => absurd h (by decide)
end Go.Ev
