/- The kernel's runs of the law FnRunsTexts: one for each case of the drawn texts. -/
import Derived.Test.YtdbaglgkbfjbnaaGreatProg
import Derived.KernelRfl
import Derived.Test.YtdbaglgkbfjbnaaGreatEvP
import Derived.Test.YtdbaglgkbfjbnaaGreatEvT

set_option linter.unusedVariables false
set_option maxRecDepth 100000
namespace Go.Ev
open Go.Proofs
def emptyH : Heap := { next := 0, low := 0, tr := .nil }
noncomputable def textRun (c : Cfg) : Bool := Q.callK Tryz.prog (textFacts c) plansT 1000 60 4 [.sym 0] emptyH (fun r _ => Q.eqV r (.bool true))
theorem textRun0 : textRun ⟨false, false, false, false, false⟩ = true := by kernel_rfl
theorem textRun1 : textRun ⟨false, false, false, false, true⟩ = true := by kernel_rfl
theorem textRun2 : textRun ⟨false, false, false, true, false⟩ = true := by kernel_rfl
theorem textRun3 : textRun ⟨false, false, false, true, true⟩ = true := by kernel_rfl
theorem textRun4 : textRun ⟨false, false, true, false, false⟩ = true := by kernel_rfl
theorem textRun5 : textRun ⟨false, false, true, false, true⟩ = true := by kernel_rfl
theorem textRun6 : textRun ⟨false, false, true, true, false⟩ = true := by kernel_rfl
theorem textRun7 : textRun ⟨false, false, true, true, true⟩ = true := by kernel_rfl
theorem textRun8 : textRun ⟨false, true, false, false, false⟩ = true := by kernel_rfl
theorem textRun9 : textRun ⟨false, true, false, false, true⟩ = true := by kernel_rfl
theorem textRun10 : textRun ⟨false, true, false, true, false⟩ = true := by kernel_rfl
theorem textRun11 : textRun ⟨false, true, false, true, true⟩ = true := by kernel_rfl
theorem textRun12 : textRun ⟨false, true, true, false, false⟩ = true := by kernel_rfl
theorem textRun13 : textRun ⟨false, true, true, false, true⟩ = true := by kernel_rfl
theorem textRun14 : textRun ⟨false, true, true, true, false⟩ = true := by kernel_rfl
theorem textRun15 : textRun ⟨false, true, true, true, true⟩ = true := by kernel_rfl
theorem textRun16 : textRun ⟨true, false, false, false, false⟩ = true := by kernel_rfl
theorem textRun17 : textRun ⟨true, false, false, false, true⟩ = true := by kernel_rfl
theorem textRun18 : textRun ⟨true, false, false, true, false⟩ = true := by kernel_rfl
theorem textRun19 : textRun ⟨true, false, false, true, true⟩ = true := by kernel_rfl
theorem textRun20 : textRun ⟨true, false, true, false, false⟩ = true := by kernel_rfl
theorem textRun21 : textRun ⟨true, false, true, false, true⟩ = true := by kernel_rfl
theorem textRun22 : textRun ⟨true, false, true, true, false⟩ = true := by kernel_rfl
theorem textRun23 : textRun ⟨true, false, true, true, true⟩ = true := by kernel_rfl
theorem textRun24 : textRun ⟨true, true, false, false, false⟩ = true := by kernel_rfl
theorem textRun25 : textRun ⟨true, true, false, false, true⟩ = true := by kernel_rfl
theorem textRun26 : textRun ⟨true, true, false, true, false⟩ = true := by kernel_rfl
theorem textRun27 : textRun ⟨true, true, false, true, true⟩ = true := by kernel_rfl
theorem textRun28 : textRun ⟨true, true, true, false, false⟩ = true := by kernel_rfl
theorem textRun29 : textRun ⟨true, true, true, false, true⟩ = true := by kernel_rfl
theorem textRun30 : textRun ⟨true, true, true, true, false⟩ = true := by kernel_rfl
theorem textRun31 : textRun ⟨true, true, true, true, true⟩ = true := by kernel_rfl
theorem textRuns : ∀ c, textRun c = true
  | ⟨false, false, false, false, false⟩ => textRun0
  | ⟨false, false, false, false, true⟩ => textRun1
  | ⟨false, false, false, true, false⟩ => textRun2
  | ⟨false, false, false, true, true⟩ => textRun3
  | ⟨false, false, true, false, false⟩ => textRun4
  | ⟨false, false, true, false, true⟩ => textRun5
  | ⟨false, false, true, true, false⟩ => textRun6
  | ⟨false, false, true, true, true⟩ => textRun7
  | ⟨false, true, false, false, false⟩ => textRun8
  | ⟨false, true, false, false, true⟩ => textRun9
  | ⟨false, true, false, true, false⟩ => textRun10
  | ⟨false, true, false, true, true⟩ => textRun11
  | ⟨false, true, true, false, false⟩ => textRun12
  | ⟨false, true, true, false, true⟩ => textRun13
  | ⟨false, true, true, true, false⟩ => textRun14
  | ⟨false, true, true, true, true⟩ => textRun15
  | ⟨true, false, false, false, false⟩ => textRun16
  | ⟨true, false, false, false, true⟩ => textRun17
  | ⟨true, false, false, true, false⟩ => textRun18
  | ⟨true, false, false, true, true⟩ => textRun19
  | ⟨true, false, true, false, false⟩ => textRun20
  | ⟨true, false, true, false, true⟩ => textRun21
  | ⟨true, false, true, true, false⟩ => textRun22
  | ⟨true, false, true, true, true⟩ => textRun23
  | ⟨true, true, false, false, false⟩ => textRun24
  | ⟨true, true, false, false, true⟩ => textRun25
  | ⟨true, true, false, true, false⟩ => textRun26
  | ⟨true, true, false, true, true⟩ => textRun27
  | ⟨true, true, true, false, false⟩ => textRun28
  | ⟨true, true, true, false, true⟩ => textRun29
  | ⟨true, true, true, true, false⟩ => textRun30
  | ⟨true, true, true, true, true⟩ => textRun31
end Go.Ev
