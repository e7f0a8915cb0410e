/- The kernel's runs of the law FnRunsFind: one for each case of the drawn texts. -/
import Derived.Test.YtdbaglgkbfjbnaaGreatProg
import Derived.KernelRfl
import Derived.Test.YtdbaglgkbfjbnaaGreatEvP
import Derived.Test.YtdbaglgkbfjbnaaGreatFindFacts
import Derived.Test.YtdbaglgkbfjbnaaGreatEvW

set_option linter.unusedVariables false
set_option maxRecDepth 100000
namespace Go.Ev
open Go.Proofs
noncomputable def findRun (c : FCfg) : Bool := Q.callK Tryz.prog (findFacts c) plansT 1000 60 3 [.sym 0] emptyH (fun r _ => Q.eqV r (.bool true))
theorem findRun0 : findRun ⟨false, false, false, false, false, false⟩ = true := by kernel_rfl
theorem findRun1 : findRun ⟨false, false, false, false, false, true⟩ = true := by kernel_rfl
theorem findRun2 : findRun ⟨false, false, false, false, true, false⟩ = true := by kernel_rfl
theorem findRun3 : findRun ⟨false, false, false, false, true, true⟩ = true := by kernel_rfl
theorem findRun4 : findRun ⟨false, false, false, true, false, false⟩ = true := by kernel_rfl
theorem findRun5 : findRun ⟨false, false, false, true, false, true⟩ = true := by kernel_rfl
theorem findRun6 : findRun ⟨false, false, false, true, true, false⟩ = true := by kernel_rfl
theorem findRun7 : findRun ⟨false, false, false, true, true, true⟩ = true := by kernel_rfl
theorem findRun8 : findRun ⟨false, false, true, false, false, false⟩ = true := by kernel_rfl
theorem findRun9 : findRun ⟨false, false, true, false, false, true⟩ = true := by kernel_rfl
theorem findRun10 : findRun ⟨false, false, true, false, true, false⟩ = true := by kernel_rfl
theorem findRun11 : findRun ⟨false, false, true, false, true, true⟩ = true := by kernel_rfl
theorem findRun12 : findRun ⟨false, false, true, true, false, false⟩ = true := by kernel_rfl
theorem findRun13 : findRun ⟨false, false, true, true, false, true⟩ = true := by kernel_rfl
theorem findRun14 : findRun ⟨false, false, true, true, true, false⟩ = true := by kernel_rfl
theorem findRun15 : findRun ⟨false, false, true, true, true, true⟩ = true := by kernel_rfl
theorem findRun16 : findRun ⟨false, true, false, false, false, false⟩ = true := by kernel_rfl
theorem findRun17 : findRun ⟨false, true, false, false, false, true⟩ = true := by kernel_rfl
theorem findRun18 : findRun ⟨false, true, false, false, true, false⟩ = true := by kernel_rfl
theorem findRun19 : findRun ⟨false, true, false, false, true, true⟩ = true := by kernel_rfl
theorem findRun20 : findRun ⟨false, true, false, true, false, false⟩ = true := by kernel_rfl
theorem findRun21 : findRun ⟨false, true, false, true, false, true⟩ = true := by kernel_rfl
theorem findRun22 : findRun ⟨false, true, false, true, true, false⟩ = true := by kernel_rfl
theorem findRun23 : findRun ⟨false, true, false, true, true, true⟩ = true := by kernel_rfl
theorem findRun24 : findRun ⟨false, true, true, false, false, false⟩ = true := by kernel_rfl
theorem findRun25 : findRun ⟨false, true, true, false, false, true⟩ = true := by kernel_rfl
theorem findRun26 : findRun ⟨false, true, true, false, true, false⟩ = true := by kernel_rfl
theorem findRun27 : findRun ⟨false, true, true, false, true, true⟩ = true := by kernel_rfl
theorem findRun28 : findRun ⟨false, true, true, true, false, false⟩ = true := by kernel_rfl
theorem findRun29 : findRun ⟨false, true, true, true, false, true⟩ = true := by kernel_rfl
theorem findRun30 : findRun ⟨false, true, true, true, true, false⟩ = true := by kernel_rfl
theorem findRun31 : findRun ⟨false, true, true, true, true, true⟩ = true := by kernel_rfl
theorem findRun32 : findRun ⟨true, false, false, false, false, false⟩ = true := by kernel_rfl
theorem findRun33 : findRun ⟨true, false, false, false, false, true⟩ = true := by kernel_rfl
theorem findRun34 : findRun ⟨true, false, false, false, true, false⟩ = true := by kernel_rfl
theorem findRun35 : findRun ⟨true, false, false, false, true, true⟩ = true := by kernel_rfl
theorem findRun36 : findRun ⟨true, false, false, true, false, false⟩ = true := by kernel_rfl
theorem findRun37 : findRun ⟨true, false, false, true, false, true⟩ = true := by kernel_rfl
theorem findRun38 : findRun ⟨true, false, false, true, true, false⟩ = true := by kernel_rfl
theorem findRun39 : findRun ⟨true, false, false, true, true, true⟩ = true := by kernel_rfl
theorem findRun40 : findRun ⟨true, false, true, false, false, false⟩ = true := by kernel_rfl
theorem findRun41 : findRun ⟨true, false, true, false, false, true⟩ = true := by kernel_rfl
theorem findRun42 : findRun ⟨true, false, true, false, true, false⟩ = true := by kernel_rfl
theorem findRun43 : findRun ⟨true, false, true, false, true, true⟩ = true := by kernel_rfl
theorem findRun44 : findRun ⟨true, false, true, true, false, false⟩ = true := by kernel_rfl
theorem findRun45 : findRun ⟨true, false, true, true, false, true⟩ = true := by kernel_rfl
theorem findRun46 : findRun ⟨true, false, true, true, true, false⟩ = true := by kernel_rfl
theorem findRun47 : findRun ⟨true, false, true, true, true, true⟩ = true := by kernel_rfl
theorem findRun48 : findRun ⟨true, true, false, false, false, false⟩ = true := by kernel_rfl
theorem findRun49 : findRun ⟨true, true, false, false, false, true⟩ = true := by kernel_rfl
theorem findRun50 : findRun ⟨true, true, false, false, true, false⟩ = true := by kernel_rfl
theorem findRun51 : findRun ⟨true, true, false, false, true, true⟩ = true := by kernel_rfl
theorem findRun52 : findRun ⟨true, true, false, true, false, false⟩ = true := by kernel_rfl
theorem findRun53 : findRun ⟨true, true, false, true, false, true⟩ = true := by kernel_rfl
theorem findRun54 : findRun ⟨true, true, false, true, true, false⟩ = true := by kernel_rfl
theorem findRun55 : findRun ⟨true, true, false, true, true, true⟩ = true := by kernel_rfl
theorem findRun56 : findRun ⟨true, true, true, false, false, false⟩ = true := by kernel_rfl
theorem findRun57 : findRun ⟨true, true, true, false, false, true⟩ = true := by kernel_rfl
theorem findRun58 : findRun ⟨true, true, true, false, true, false⟩ = true := by kernel_rfl
theorem findRun59 : findRun ⟨true, true, true, false, true, true⟩ = true := by kernel_rfl
theorem findRun60 : findRun ⟨true, true, true, true, false, false⟩ = true := by kernel_rfl
theorem findRun61 : findRun ⟨true, true, true, true, false, true⟩ = true := by kernel_rfl
theorem findRun62 : findRun ⟨true, true, true, true, true, false⟩ = true := by kernel_rfl
theorem findRun63 : findRun ⟨true, true, true, true, true, true⟩ = true := by kernel_rfl
theorem findRuns : ∀ c, findRun c = true
  | ⟨false, false, false, false, false, false⟩ => findRun0
  | ⟨false, false, false, false, false, true⟩ => findRun1
  | ⟨false, false, false, false, true, false⟩ => findRun2
  | ⟨false, false, false, false, true, true⟩ => findRun3
  | ⟨false, false, false, true, false, false⟩ => findRun4
  | ⟨false, false, false, true, false, true⟩ => findRun5
  | ⟨false, false, false, true, true, false⟩ => findRun6
  | ⟨false, false, false, true, true, true⟩ => findRun7
  | ⟨false, false, true, false, false, false⟩ => findRun8
  | ⟨false, false, true, false, false, true⟩ => findRun9
  | ⟨false, false, true, false, true, false⟩ => findRun10
  | ⟨false, false, true, false, true, true⟩ => findRun11
  | ⟨false, false, true, true, false, false⟩ => findRun12
  | ⟨false, false, true, true, false, true⟩ => findRun13
  | ⟨false, false, true, true, true, false⟩ => findRun14
  | ⟨false, false, true, true, true, true⟩ => findRun15
  | ⟨false, true, false, false, false, false⟩ => findRun16
  | ⟨false, true, false, false, false, true⟩ => findRun17
  | ⟨false, true, false, false, true, false⟩ => findRun18
  | ⟨false, true, false, false, true, true⟩ => findRun19
  | ⟨false, true, false, true, false, false⟩ => findRun20
  | ⟨false, true, false, true, false, true⟩ => findRun21
  | ⟨false, true, false, true, true, false⟩ => findRun22
  | ⟨false, true, false, true, true, true⟩ => findRun23
  | ⟨false, true, true, false, false, false⟩ => findRun24
  | ⟨false, true, true, false, false, true⟩ => findRun25
  | ⟨false, true, true, false, true, false⟩ => findRun26
  | ⟨false, true, true, false, true, true⟩ => findRun27
  | ⟨false, true, true, true, false, false⟩ => findRun28
  | ⟨false, true, true, true, false, true⟩ => findRun29
  | ⟨false, true, true, true, true, false⟩ => findRun30
  | ⟨false, true, true, true, true, true⟩ => findRun31
  | ⟨true, false, false, false, false, false⟩ => findRun32
  | ⟨true, false, false, false, false, true⟩ => findRun33
  | ⟨true, false, false, false, true, false⟩ => findRun34
  | ⟨true, false, false, false, true, true⟩ => findRun35
  | ⟨true, false, false, true, false, false⟩ => findRun36
  | ⟨true, false, false, true, false, true⟩ => findRun37
  | ⟨true, false, false, true, true, false⟩ => findRun38
  | ⟨true, false, false, true, true, true⟩ => findRun39
  | ⟨true, false, true, false, false, false⟩ => findRun40
  | ⟨true, false, true, false, false, true⟩ => findRun41
  | ⟨true, false, true, false, true, false⟩ => findRun42
  | ⟨true, false, true, false, true, true⟩ => findRun43
  | ⟨true, false, true, true, false, false⟩ => findRun44
  | ⟨true, false, true, true, false, true⟩ => findRun45
  | ⟨true, false, true, true, true, false⟩ => findRun46
  | ⟨true, false, true, true, true, true⟩ => findRun47
  | ⟨true, true, false, false, false, false⟩ => findRun48
  | ⟨true, true, false, false, false, true⟩ => findRun49
  | ⟨true, true, false, false, true, false⟩ => findRun50
  | ⟨true, true, false, false, true, true⟩ => findRun51
  | ⟨true, true, false, true, false, false⟩ => findRun52
  | ⟨true, true, false, true, false, true⟩ => findRun53
  | ⟨true, true, false, true, true, false⟩ => findRun54
  | ⟨true, true, false, true, true, true⟩ => findRun55
  | ⟨true, true, true, false, false, false⟩ => findRun56
  | ⟨true, true, true, false, false, true⟩ => findRun57
  | ⟨true, true, true, false, true, false⟩ => findRun58
  | ⟨true, true, true, false, true, true⟩ => findRun59
  | ⟨true, true, true, true, false, false⟩ => findRun60
  | ⟨true, true, true, true, false, true⟩ => findRun61
  | ⟨true, true, true, true, true, false⟩ => findRun62
  | ⟨true, true, true, true, true, true⟩ => findRun63
end Go.Ev
