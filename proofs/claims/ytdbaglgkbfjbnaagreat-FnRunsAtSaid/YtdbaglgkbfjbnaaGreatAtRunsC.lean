/- The kernel's runs of the law FnRunsAt: one for each drawn index and each case of the drawn text, part 2. -/
import Derived.Test.YtdbaglgkbfjbnaaGreatProg
import Derived.KernelRfl
import Derived.Test.YtdbaglgkbfjbnaaGreatEvP
import Derived.Test.YtdbaglgkbfjbnaaGreatAtFacts
import Derived.Test.YtdbaglgkbfjbnaaGreatEvW

set_option linter.unusedVariables false
set_option maxRecDepth 100000
namespace Go.Ev
open Go.Proofs
theorem atRun80 : Q.callK Tryz.prog (atFacts 0 ⟨false, false, false⟩) plansT 1000 60 6 [.sym 0] emptyH (fun r _ => Q.eqV r (.bool true)) = true := by kernel_rfl
theorem atRun81 : Q.callK Tryz.prog (atFacts 0 ⟨false, false, true⟩) plansT 1000 60 6 [.sym 0] emptyH (fun r _ => Q.eqV r (.bool true)) = true := by kernel_rfl
theorem atRun82 : Q.callK Tryz.prog (atFacts 0 ⟨false, true, false⟩) plansT 1000 60 6 [.sym 0] emptyH (fun r _ => Q.eqV r (.bool true)) = true := by kernel_rfl
theorem atRun83 : Q.callK Tryz.prog (atFacts 0 ⟨false, true, true⟩) plansT 1000 60 6 [.sym 0] emptyH (fun r _ => Q.eqV r (.bool true)) = true := by kernel_rfl
theorem atRun84 : Q.callK Tryz.prog (atFacts 0 ⟨true, false, false⟩) plansT 1000 60 6 [.sym 0] emptyH (fun r _ => Q.eqV r (.bool true)) = true := by kernel_rfl
theorem atRun85 : Q.callK Tryz.prog (atFacts 0 ⟨true, false, true⟩) plansT 1000 60 6 [.sym 0] emptyH (fun r _ => Q.eqV r (.bool true)) = true := by kernel_rfl
theorem atRun86 : Q.callK Tryz.prog (atFacts 0 ⟨true, true, false⟩) plansT 1000 60 6 [.sym 0] emptyH (fun r _ => Q.eqV r (.bool true)) = true := by kernel_rfl
theorem atRun87 : Q.callK Tryz.prog (atFacts 0 ⟨true, true, true⟩) plansT 1000 60 6 [.sym 0] emptyH (fun r _ => Q.eqV r (.bool true)) = true := by kernel_rfl
theorem atRun88 : Q.callK Tryz.prog (atFacts 1 ⟨false, false, false⟩) plansT 1000 60 6 [.sym 0] emptyH (fun r _ => Q.eqV r (.bool true)) = true := by kernel_rfl
theorem atRun89 : Q.callK Tryz.prog (atFacts 1 ⟨false, false, true⟩) plansT 1000 60 6 [.sym 0] emptyH (fun r _ => Q.eqV r (.bool true)) = true := by kernel_rfl
theorem atRun90 : Q.callK Tryz.prog (atFacts 1 ⟨false, true, false⟩) plansT 1000 60 6 [.sym 0] emptyH (fun r _ => Q.eqV r (.bool true)) = true := by kernel_rfl
theorem atRun91 : Q.callK Tryz.prog (atFacts 1 ⟨false, true, true⟩) plansT 1000 60 6 [.sym 0] emptyH (fun r _ => Q.eqV r (.bool true)) = true := by kernel_rfl
theorem atRun92 : Q.callK Tryz.prog (atFacts 1 ⟨true, false, false⟩) plansT 1000 60 6 [.sym 0] emptyH (fun r _ => Q.eqV r (.bool true)) = true := by kernel_rfl
theorem atRun93 : Q.callK Tryz.prog (atFacts 1 ⟨true, false, true⟩) plansT 1000 60 6 [.sym 0] emptyH (fun r _ => Q.eqV r (.bool true)) = true := by kernel_rfl
theorem atRun94 : Q.callK Tryz.prog (atFacts 1 ⟨true, true, false⟩) plansT 1000 60 6 [.sym 0] emptyH (fun r _ => Q.eqV r (.bool true)) = true := by kernel_rfl
theorem atRun95 : Q.callK Tryz.prog (atFacts 1 ⟨true, true, true⟩) plansT 1000 60 6 [.sym 0] emptyH (fun r _ => Q.eqV r (.bool true)) = true := by kernel_rfl
theorem atRun96 : Q.callK Tryz.prog (atFacts 2 ⟨false, false, false⟩) plansT 1000 60 6 [.sym 0] emptyH (fun r _ => Q.eqV r (.bool true)) = true := by kernel_rfl
theorem atRun97 : Q.callK Tryz.prog (atFacts 2 ⟨false, false, true⟩) plansT 1000 60 6 [.sym 0] emptyH (fun r _ => Q.eqV r (.bool true)) = true := by kernel_rfl
theorem atRun98 : Q.callK Tryz.prog (atFacts 2 ⟨false, true, false⟩) plansT 1000 60 6 [.sym 0] emptyH (fun r _ => Q.eqV r (.bool true)) = true := by kernel_rfl
theorem atRun99 : Q.callK Tryz.prog (atFacts 2 ⟨false, true, true⟩) plansT 1000 60 6 [.sym 0] emptyH (fun r _ => Q.eqV r (.bool true)) = true := by kernel_rfl
theorem atRun100 : Q.callK Tryz.prog (atFacts 2 ⟨true, false, false⟩) plansT 1000 60 6 [.sym 0] emptyH (fun r _ => Q.eqV r (.bool true)) = true := by kernel_rfl
theorem atRun101 : Q.callK Tryz.prog (atFacts 2 ⟨true, false, true⟩) plansT 1000 60 6 [.sym 0] emptyH (fun r _ => Q.eqV r (.bool true)) = true := by kernel_rfl
theorem atRun102 : Q.callK Tryz.prog (atFacts 2 ⟨true, true, false⟩) plansT 1000 60 6 [.sym 0] emptyH (fun r _ => Q.eqV r (.bool true)) = true := by kernel_rfl
theorem atRun103 : Q.callK Tryz.prog (atFacts 2 ⟨true, true, true⟩) plansT 1000 60 6 [.sym 0] emptyH (fun r _ => Q.eqV r (.bool true)) = true := by kernel_rfl
theorem atRun104 : Q.callK Tryz.prog (atFacts 3 ⟨false, false, false⟩) plansT 1000 60 6 [.sym 0] emptyH (fun r _ => Q.eqV r (.bool true)) = true := by kernel_rfl
theorem atRun105 : Q.callK Tryz.prog (atFacts 3 ⟨false, false, true⟩) plansT 1000 60 6 [.sym 0] emptyH (fun r _ => Q.eqV r (.bool true)) = true := by kernel_rfl
theorem atRun106 : Q.callK Tryz.prog (atFacts 3 ⟨false, true, false⟩) plansT 1000 60 6 [.sym 0] emptyH (fun r _ => Q.eqV r (.bool true)) = true := by kernel_rfl
theorem atRun107 : Q.callK Tryz.prog (atFacts 3 ⟨false, true, true⟩) plansT 1000 60 6 [.sym 0] emptyH (fun r _ => Q.eqV r (.bool true)) = true := by kernel_rfl
theorem atRun108 : Q.callK Tryz.prog (atFacts 3 ⟨true, false, false⟩) plansT 1000 60 6 [.sym 0] emptyH (fun r _ => Q.eqV r (.bool true)) = true := by kernel_rfl
theorem atRun109 : Q.callK Tryz.prog (atFacts 3 ⟨true, false, true⟩) plansT 1000 60 6 [.sym 0] emptyH (fun r _ => Q.eqV r (.bool true)) = true := by kernel_rfl
theorem atRun110 : Q.callK Tryz.prog (atFacts 3 ⟨true, true, false⟩) plansT 1000 60 6 [.sym 0] emptyH (fun r _ => Q.eqV r (.bool true)) = true := by kernel_rfl
theorem atRun111 : Q.callK Tryz.prog (atFacts 3 ⟨true, true, true⟩) plansT 1000 60 6 [.sym 0] emptyH (fun r _ => Q.eqV r (.bool true)) = true := by kernel_rfl
theorem atRun112 : Q.callK Tryz.prog (atFacts 4 ⟨false, false, false⟩) plansT 1000 60 6 [.sym 0] emptyH (fun r _ => Q.eqV r (.bool true)) = true := by kernel_rfl
theorem atRun113 : Q.callK Tryz.prog (atFacts 4 ⟨false, false, true⟩) plansT 1000 60 6 [.sym 0] emptyH (fun r _ => Q.eqV r (.bool true)) = true := by kernel_rfl
theorem atRun114 : Q.callK Tryz.prog (atFacts 4 ⟨false, true, false⟩) plansT 1000 60 6 [.sym 0] emptyH (fun r _ => Q.eqV r (.bool true)) = true := by kernel_rfl
theorem atRun115 : Q.callK Tryz.prog (atFacts 4 ⟨false, true, true⟩) plansT 1000 60 6 [.sym 0] emptyH (fun r _ => Q.eqV r (.bool true)) = true := by kernel_rfl
theorem atRun116 : Q.callK Tryz.prog (atFacts 4 ⟨true, false, false⟩) plansT 1000 60 6 [.sym 0] emptyH (fun r _ => Q.eqV r (.bool true)) = true := by kernel_rfl
theorem atRun117 : Q.callK Tryz.prog (atFacts 4 ⟨true, false, true⟩) plansT 1000 60 6 [.sym 0] emptyH (fun r _ => Q.eqV r (.bool true)) = true := by kernel_rfl
theorem atRun118 : Q.callK Tryz.prog (atFacts 4 ⟨true, true, false⟩) plansT 1000 60 6 [.sym 0] emptyH (fun r _ => Q.eqV r (.bool true)) = true := by kernel_rfl
theorem atRun119 : Q.callK Tryz.prog (atFacts 4 ⟨true, true, true⟩) plansT 1000 60 6 [.sym 0] emptyH (fun r _ => Q.eqV r (.bool true)) = true := by kernel_rfl
end Go.Ev
