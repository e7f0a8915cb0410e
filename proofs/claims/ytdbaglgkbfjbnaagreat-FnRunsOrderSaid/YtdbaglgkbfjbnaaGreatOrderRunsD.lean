/- The kernel's runs of the law FnRunsOrder: one for each case of the drawn integers, part 3. -/
import Derived.Test.YtdbaglgkbfjbnaaGreatProg
import Derived.KernelRfl
import Derived.Test.YtdbaglgkbfjbnaaGreatEvP
import Derived.Test.YtdbaglgkbfjbnaaGreatIntFacts

set_option linter.unusedVariables false
set_option maxRecDepth 100000
namespace Go.Ev
open Go.Proofs
theorem runOrder108 : Q.callK Tryz.prog (intFacts ⟨27, 28, 29⟩ ⟨false, true, true, false, false, false, true, true, true⟩) plansT 1000 60 7 [.sym 0] emptyH (fun r _ => Q.eqV r (.bool true)) = true := by kernel_rfl
theorem runOrder109 : Q.callK Tryz.prog (intFacts ⟨27, 28, 29⟩ ⟨false, true, true, false, false, true, true, true, true⟩) plansT 1000 60 7 [.sym 0] emptyH (fun r _ => Q.eqV r (.bool true)) = true := by kernel_rfl
theorem runOrder110 : Q.callK Tryz.prog (intFacts ⟨27, 28, 29⟩ ⟨false, true, true, false, true, true, true, true, false⟩) plansT 1000 60 7 [.sym 0] emptyH (fun r _ => Q.eqV r (.bool true)) = true := by kernel_rfl
theorem runOrder111 : Q.callK Tryz.prog (intFacts ⟨27, 28, 29⟩ ⟨false, true, true, true, false, false, true, true, true⟩) plansT 1000 60 7 [.sym 0] emptyH (fun r _ => Q.eqV r (.bool true)) = true := by kernel_rfl
theorem runOrder112 : Q.callK Tryz.prog (intFacts ⟨27, 28, 29⟩ ⟨false, true, true, true, false, true, true, true, true⟩) plansT 1000 60 7 [.sym 0] emptyH (fun r _ => Q.eqV r (.bool true)) = true := by kernel_rfl
theorem runOrder113 : Q.callK Tryz.prog (intFacts ⟨27, 28, 29⟩ ⟨false, true, true, true, true, true, true, true, false⟩) plansT 1000 60 7 [.sym 0] emptyH (fun r _ => Q.eqV r (.bool true)) = true := by kernel_rfl
end Go.Ev
