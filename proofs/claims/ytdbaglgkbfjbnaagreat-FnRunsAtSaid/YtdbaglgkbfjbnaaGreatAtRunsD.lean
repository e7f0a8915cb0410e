/- The kernel's runs of the law FnRunsAt: one for each drawn index and each case of the drawn text, part 3. -/
import Derived.Test.YtdbaglgkbfjbnaaGreatProg
import Derived.KernelRfl
import Derived.Test.YtdbaglgkbfjbnaaGreatEvP
import Derived.Test.YtdbaglgkbfjbnaaGreatAtFacts
import Derived.Test.YtdbaglgkbfjbnaaGreatEvW

set_option linter.unusedVariables false
set_option maxRecDepth 100000
namespace Go.Ev
open Go.Proofs
theorem atRun120 : Q.callK Tryz.prog (atFacts 5 ⟨false, false, false⟩) plansT 1000 60 6 [.sym 0] emptyH (fun r _ => Q.eqV r (.bool true)) = true := by kernel_rfl
theorem atRun121 : Q.callK Tryz.prog (atFacts 5 ⟨false, false, true⟩) plansT 1000 60 6 [.sym 0] emptyH (fun r _ => Q.eqV r (.bool true)) = true := by kernel_rfl
theorem atRun122 : Q.callK Tryz.prog (atFacts 5 ⟨false, true, false⟩) plansT 1000 60 6 [.sym 0] emptyH (fun r _ => Q.eqV r (.bool true)) = true := by kernel_rfl
theorem atRun123 : Q.callK Tryz.prog (atFacts 5 ⟨false, true, true⟩) plansT 1000 60 6 [.sym 0] emptyH (fun r _ => Q.eqV r (.bool true)) = true := by kernel_rfl
theorem atRun124 : Q.callK Tryz.prog (atFacts 5 ⟨true, false, false⟩) plansT 1000 60 6 [.sym 0] emptyH (fun r _ => Q.eqV r (.bool true)) = true := by kernel_rfl
theorem atRun125 : Q.callK Tryz.prog (atFacts 5 ⟨true, false, true⟩) plansT 1000 60 6 [.sym 0] emptyH (fun r _ => Q.eqV r (.bool true)) = true := by kernel_rfl
theorem atRun126 : Q.callK Tryz.prog (atFacts 5 ⟨true, true, false⟩) plansT 1000 60 6 [.sym 0] emptyH (fun r _ => Q.eqV r (.bool true)) = true := by kernel_rfl
theorem atRun127 : Q.callK Tryz.prog (atFacts 5 ⟨true, true, true⟩) plansT 1000 60 6 [.sym 0] emptyH (fun r _ => Q.eqV r (.bool true)) = true := by kernel_rfl
theorem atRun128 : Q.callK Tryz.prog (atFacts 6 ⟨false, false, false⟩) plansT 1000 60 6 [.sym 0] emptyH (fun r _ => Q.eqV r (.bool true)) = true := by kernel_rfl
theorem atRun129 : Q.callK Tryz.prog (atFacts 6 ⟨false, false, true⟩) plansT 1000 60 6 [.sym 0] emptyH (fun r _ => Q.eqV r (.bool true)) = true := by kernel_rfl
theorem atRun130 : Q.callK Tryz.prog (atFacts 6 ⟨false, true, false⟩) plansT 1000 60 6 [.sym 0] emptyH (fun r _ => Q.eqV r (.bool true)) = true := by kernel_rfl
theorem atRun131 : Q.callK Tryz.prog (atFacts 6 ⟨false, true, true⟩) plansT 1000 60 6 [.sym 0] emptyH (fun r _ => Q.eqV r (.bool true)) = true := by kernel_rfl
theorem atRun132 : Q.callK Tryz.prog (atFacts 6 ⟨true, false, false⟩) plansT 1000 60 6 [.sym 0] emptyH (fun r _ => Q.eqV r (.bool true)) = true := by kernel_rfl
theorem atRun133 : Q.callK Tryz.prog (atFacts 6 ⟨true, false, true⟩) plansT 1000 60 6 [.sym 0] emptyH (fun r _ => Q.eqV r (.bool true)) = true := by kernel_rfl
theorem atRun134 : Q.callK Tryz.prog (atFacts 6 ⟨true, true, false⟩) plansT 1000 60 6 [.sym 0] emptyH (fun r _ => Q.eqV r (.bool true)) = true := by kernel_rfl
theorem atRun135 : Q.callK Tryz.prog (atFacts 6 ⟨true, true, true⟩) plansT 1000 60 6 [.sym 0] emptyH (fun r _ => Q.eqV r (.bool true)) = true := by kernel_rfl
theorem atRun136 : Q.callK Tryz.prog (atFacts 7 ⟨false, false, false⟩) plansT 1000 60 6 [.sym 0] emptyH (fun r _ => Q.eqV r (.bool true)) = true := by kernel_rfl
theorem atRun137 : Q.callK Tryz.prog (atFacts 7 ⟨false, false, true⟩) plansT 1000 60 6 [.sym 0] emptyH (fun r _ => Q.eqV r (.bool true)) = true := by kernel_rfl
theorem atRun138 : Q.callK Tryz.prog (atFacts 7 ⟨false, true, false⟩) plansT 1000 60 6 [.sym 0] emptyH (fun r _ => Q.eqV r (.bool true)) = true := by kernel_rfl
theorem atRun139 : Q.callK Tryz.prog (atFacts 7 ⟨false, true, true⟩) plansT 1000 60 6 [.sym 0] emptyH (fun r _ => Q.eqV r (.bool true)) = true := by kernel_rfl
theorem atRun140 : Q.callK Tryz.prog (atFacts 7 ⟨true, false, false⟩) plansT 1000 60 6 [.sym 0] emptyH (fun r _ => Q.eqV r (.bool true)) = true := by kernel_rfl
theorem atRun141 : Q.callK Tryz.prog (atFacts 7 ⟨true, false, true⟩) plansT 1000 60 6 [.sym 0] emptyH (fun r _ => Q.eqV r (.bool true)) = true := by kernel_rfl
theorem atRun142 : Q.callK Tryz.prog (atFacts 7 ⟨true, true, false⟩) plansT 1000 60 6 [.sym 0] emptyH (fun r _ => Q.eqV r (.bool true)) = true := by kernel_rfl
theorem atRun143 : Q.callK Tryz.prog (atFacts 7 ⟨true, true, true⟩) plansT 1000 60 6 [.sym 0] emptyH (fun r _ => Q.eqV r (.bool true)) = true := by kernel_rfl
theorem atRun144 : Q.callK Tryz.prog (atFacts 8 ⟨false, false, false⟩) plansT 1000 60 6 [.sym 0] emptyH (fun r _ => Q.eqV r (.bool true)) = true := by kernel_rfl
theorem atRun145 : Q.callK Tryz.prog (atFacts 8 ⟨false, false, true⟩) plansT 1000 60 6 [.sym 0] emptyH (fun r _ => Q.eqV r (.bool true)) = true := by kernel_rfl
theorem atRun146 : Q.callK Tryz.prog (atFacts 8 ⟨false, true, false⟩) plansT 1000 60 6 [.sym 0] emptyH (fun r _ => Q.eqV r (.bool true)) = true := by kernel_rfl
theorem atRun147 : Q.callK Tryz.prog (atFacts 8 ⟨false, true, true⟩) plansT 1000 60 6 [.sym 0] emptyH (fun r _ => Q.eqV r (.bool true)) = true := by kernel_rfl
theorem atRun148 : Q.callK Tryz.prog (atFacts 8 ⟨true, false, false⟩) plansT 1000 60 6 [.sym 0] emptyH (fun r _ => Q.eqV r (.bool true)) = true := by kernel_rfl
theorem atRun149 : Q.callK Tryz.prog (atFacts 8 ⟨true, false, true⟩) plansT 1000 60 6 [.sym 0] emptyH (fun r _ => Q.eqV r (.bool true)) = true := by kernel_rfl
theorem atRun150 : Q.callK Tryz.prog (atFacts 8 ⟨true, true, false⟩) plansT 1000 60 6 [.sym 0] emptyH (fun r _ => Q.eqV r (.bool true)) = true := by kernel_rfl
theorem atRun151 : Q.callK Tryz.prog (atFacts 8 ⟨true, true, true⟩) plansT 1000 60 6 [.sym 0] emptyH (fun r _ => Q.eqV r (.bool true)) = true := by kernel_rfl
theorem atRun152 : Q.callK Tryz.prog (atFacts 9 ⟨false, false, false⟩) plansT 1000 60 6 [.sym 0] emptyH (fun r _ => Q.eqV r (.bool true)) = true := by kernel_rfl
theorem atRun153 : Q.callK Tryz.prog (atFacts 9 ⟨false, false, true⟩) plansT 1000 60 6 [.sym 0] emptyH (fun r _ => Q.eqV r (.bool true)) = true := by kernel_rfl
theorem atRun154 : Q.callK Tryz.prog (atFacts 9 ⟨false, true, false⟩) plansT 1000 60 6 [.sym 0] emptyH (fun r _ => Q.eqV r (.bool true)) = true := by kernel_rfl
theorem atRun155 : Q.callK Tryz.prog (atFacts 9 ⟨false, true, true⟩) plansT 1000 60 6 [.sym 0] emptyH (fun r _ => Q.eqV r (.bool true)) = true := by kernel_rfl
theorem atRun156 : Q.callK Tryz.prog (atFacts 9 ⟨true, false, false⟩) plansT 1000 60 6 [.sym 0] emptyH (fun r _ => Q.eqV r (.bool true)) = true := by kernel_rfl
theorem atRun157 : Q.callK Tryz.prog (atFacts 9 ⟨true, false, true⟩) plansT 1000 60 6 [.sym 0] emptyH (fun r _ => Q.eqV r (.bool true)) = true := by kernel_rfl
theorem atRun158 : Q.callK Tryz.prog (atFacts 9 ⟨true, true, false⟩) plansT 1000 60 6 [.sym 0] emptyH (fun r _ => Q.eqV r (.bool true)) = true := by kernel_rfl
theorem atRun159 : Q.callK Tryz.prog (atFacts 9 ⟨true, true, true⟩) plansT 1000 60 6 [.sym 0] emptyH (fun r _ => Q.eqV r (.bool true)) = true := by kernel_rfl
end Go.Ev
