/- The kernel's runs of the law FnRunsAt: one for each drawn index and each case of the drawn text, part 0. -/
import Derived.Test.YtdbaglgkbfjbnaaGreatProg
import Derived.KernelRfl
import Derived.Test.YtdbaglgkbfjbnaaGreatEvP
import Derived.Test.YtdbaglgkbfjbnaaGreatAtFacts
import Derived.Test.YtdbaglgkbfjbnaaGreatEvW

set_option linter.unusedVariables false
set_option maxRecDepth 100000
namespace Go.Ev
open Go.Proofs
theorem atRun0 : Q.callK Tryz.prog (atFacts (-10) ⟨false, false, false⟩) plansT 1000 60 6 [.sym 0] emptyH (fun r _ => Q.eqV r (.bool true)) = true := by kernel_rfl
theorem atRun1 : Q.callK Tryz.prog (atFacts (-10) ⟨false, false, true⟩) plansT 1000 60 6 [.sym 0] emptyH (fun r _ => Q.eqV r (.bool true)) = true := by kernel_rfl
theorem atRun2 : Q.callK Tryz.prog (atFacts (-10) ⟨false, true, false⟩) plansT 1000 60 6 [.sym 0] emptyH (fun r _ => Q.eqV r (.bool true)) = true := by kernel_rfl
theorem atRun3 : Q.callK Tryz.prog (atFacts (-10) ⟨false, true, true⟩) plansT 1000 60 6 [.sym 0] emptyH (fun r _ => Q.eqV r (.bool true)) = true := by kernel_rfl
theorem atRun4 : Q.callK Tryz.prog (atFacts (-10) ⟨true, false, false⟩) plansT 1000 60 6 [.sym 0] emptyH (fun r _ => Q.eqV r (.bool true)) = true := by kernel_rfl
theorem atRun5 : Q.callK Tryz.prog (atFacts (-10) ⟨true, false, true⟩) plansT 1000 60 6 [.sym 0] emptyH (fun r _ => Q.eqV r (.bool true)) = true := by kernel_rfl
theorem atRun6 : Q.callK Tryz.prog (atFacts (-10) ⟨true, true, false⟩) plansT 1000 60 6 [.sym 0] emptyH (fun r _ => Q.eqV r (.bool true)) = true := by kernel_rfl
theorem atRun7 : Q.callK Tryz.prog (atFacts (-10) ⟨true, true, true⟩) plansT 1000 60 6 [.sym 0] emptyH (fun r _ => Q.eqV r (.bool true)) = true := by kernel_rfl
theorem atRun8 : Q.callK Tryz.prog (atFacts (-9) ⟨false, false, false⟩) plansT 1000 60 6 [.sym 0] emptyH (fun r _ => Q.eqV r (.bool true)) = true := by kernel_rfl
theorem atRun9 : Q.callK Tryz.prog (atFacts (-9) ⟨false, false, true⟩) plansT 1000 60 6 [.sym 0] emptyH (fun r _ => Q.eqV r (.bool true)) = true := by kernel_rfl
theorem atRun10 : Q.callK Tryz.prog (atFacts (-9) ⟨false, true, false⟩) plansT 1000 60 6 [.sym 0] emptyH (fun r _ => Q.eqV r (.bool true)) = true := by kernel_rfl
theorem atRun11 : Q.callK Tryz.prog (atFacts (-9) ⟨false, true, true⟩) plansT 1000 60 6 [.sym 0] emptyH (fun r _ => Q.eqV r (.bool true)) = true := by kernel_rfl
theorem atRun12 : Q.callK Tryz.prog (atFacts (-9) ⟨true, false, false⟩) plansT 1000 60 6 [.sym 0] emptyH (fun r _ => Q.eqV r (.bool true)) = true := by kernel_rfl
theorem atRun13 : Q.callK Tryz.prog (atFacts (-9) ⟨true, false, true⟩) plansT 1000 60 6 [.sym 0] emptyH (fun r _ => Q.eqV r (.bool true)) = true := by kernel_rfl
theorem atRun14 : Q.callK Tryz.prog (atFacts (-9) ⟨true, true, false⟩) plansT 1000 60 6 [.sym 0] emptyH (fun r _ => Q.eqV r (.bool true)) = true := by kernel_rfl
theorem atRun15 : Q.callK Tryz.prog (atFacts (-9) ⟨true, true, true⟩) plansT 1000 60 6 [.sym 0] emptyH (fun r _ => Q.eqV r (.bool true)) = true := by kernel_rfl
theorem atRun16 : Q.callK Tryz.prog (atFacts (-8) ⟨false, false, false⟩) plansT 1000 60 6 [.sym 0] emptyH (fun r _ => Q.eqV r (.bool true)) = true := by kernel_rfl
theorem atRun17 : Q.callK Tryz.prog (atFacts (-8) ⟨false, false, true⟩) plansT 1000 60 6 [.sym 0] emptyH (fun r _ => Q.eqV r (.bool true)) = true := by kernel_rfl
theorem atRun18 : Q.callK Tryz.prog (atFacts (-8) ⟨false, true, false⟩) plansT 1000 60 6 [.sym 0] emptyH (fun r _ => Q.eqV r (.bool true)) = true := by kernel_rfl
theorem atRun19 : Q.callK Tryz.prog (atFacts (-8) ⟨false, true, true⟩) plansT 1000 60 6 [.sym 0] emptyH (fun r _ => Q.eqV r (.bool true)) = true := by kernel_rfl
theorem atRun20 : Q.callK Tryz.prog (atFacts (-8) ⟨true, false, false⟩) plansT 1000 60 6 [.sym 0] emptyH (fun r _ => Q.eqV r (.bool true)) = true := by kernel_rfl
theorem atRun21 : Q.callK Tryz.prog (atFacts (-8) ⟨true, false, true⟩) plansT 1000 60 6 [.sym 0] emptyH (fun r _ => Q.eqV r (.bool true)) = true := by kernel_rfl
theorem atRun22 : Q.callK Tryz.prog (atFacts (-8) ⟨true, true, false⟩) plansT 1000 60 6 [.sym 0] emptyH (fun r _ => Q.eqV r (.bool true)) = true := by kernel_rfl
theorem atRun23 : Q.callK Tryz.prog (atFacts (-8) ⟨true, true, true⟩) plansT 1000 60 6 [.sym 0] emptyH (fun r _ => Q.eqV r (.bool true)) = true := by kernel_rfl
theorem atRun24 : Q.callK Tryz.prog (atFacts (-7) ⟨false, false, false⟩) plansT 1000 60 6 [.sym 0] emptyH (fun r _ => Q.eqV r (.bool true)) = true := by kernel_rfl
theorem atRun25 : Q.callK Tryz.prog (atFacts (-7) ⟨false, false, true⟩) plansT 1000 60 6 [.sym 0] emptyH (fun r _ => Q.eqV r (.bool true)) = true := by kernel_rfl
theorem atRun26 : Q.callK Tryz.prog (atFacts (-7) ⟨false, true, false⟩) plansT 1000 60 6 [.sym 0] emptyH (fun r _ => Q.eqV r (.bool true)) = true := by kernel_rfl
theorem atRun27 : Q.callK Tryz.prog (atFacts (-7) ⟨false, true, true⟩) plansT 1000 60 6 [.sym 0] emptyH (fun r _ => Q.eqV r (.bool true)) = true := by kernel_rfl
theorem atRun28 : Q.callK Tryz.prog (atFacts (-7) ⟨true, false, false⟩) plansT 1000 60 6 [.sym 0] emptyH (fun r _ => Q.eqV r (.bool true)) = true := by kernel_rfl
theorem atRun29 : Q.callK Tryz.prog (atFacts (-7) ⟨true, false, true⟩) plansT 1000 60 6 [.sym 0] emptyH (fun r _ => Q.eqV r (.bool true)) = true := by kernel_rfl
theorem atRun30 : Q.callK Tryz.prog (atFacts (-7) ⟨true, true, false⟩) plansT 1000 60 6 [.sym 0] emptyH (fun r _ => Q.eqV r (.bool true)) = true := by kernel_rfl
theorem atRun31 : Q.callK Tryz.prog (atFacts (-7) ⟨true, true, true⟩) plansT 1000 60 6 [.sym 0] emptyH (fun r _ => Q.eqV r (.bool true)) = true := by kernel_rfl
theorem atRun32 : Q.callK Tryz.prog (atFacts (-6) ⟨false, false, false⟩) plansT 1000 60 6 [.sym 0] emptyH (fun r _ => Q.eqV r (.bool true)) = true := by kernel_rfl
theorem atRun33 : Q.callK Tryz.prog (atFacts (-6) ⟨false, false, true⟩) plansT 1000 60 6 [.sym 0] emptyH (fun r _ => Q.eqV r (.bool true)) = true := by kernel_rfl
theorem atRun34 : Q.callK Tryz.prog (atFacts (-6) ⟨false, true, false⟩) plansT 1000 60 6 [.sym 0] emptyH (fun r _ => Q.eqV r (.bool true)) = true := by kernel_rfl
theorem atRun35 : Q.callK Tryz.prog (atFacts (-6) ⟨false, true, true⟩) plansT 1000 60 6 [.sym 0] emptyH (fun r _ => Q.eqV r (.bool true)) = true := by kernel_rfl
theorem atRun36 : Q.callK Tryz.prog (atFacts (-6) ⟨true, false, false⟩) plansT 1000 60 6 [.sym 0] emptyH (fun r _ => Q.eqV r (.bool true)) = true := by kernel_rfl
theorem atRun37 : Q.callK Tryz.prog (atFacts (-6) ⟨true, false, true⟩) plansT 1000 60 6 [.sym 0] emptyH (fun r _ => Q.eqV r (.bool true)) = true := by kernel_rfl
theorem atRun38 : Q.callK Tryz.prog (atFacts (-6) ⟨true, true, false⟩) plansT 1000 60 6 [.sym 0] emptyH (fun r _ => Q.eqV r (.bool true)) = true := by kernel_rfl
theorem atRun39 : Q.callK Tryz.prog (atFacts (-6) ⟨true, true, true⟩) plansT 1000 60 6 [.sym 0] emptyH (fun r _ => Q.eqV r (.bool true)) = true := by kernel_rfl
end Go.Ev
