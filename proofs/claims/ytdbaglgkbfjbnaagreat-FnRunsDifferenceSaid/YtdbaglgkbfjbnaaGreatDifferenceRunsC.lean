/- The kernel's runs of the law FnRunsDifference: one for each case of the drawn integers, part 2. -/
import Derived.Test.YtdbaglgkbfjbnaaGreatProg
import Derived.KernelRfl
import Derived.Test.YtdbaglgkbfjbnaaGreatEvP
import Derived.Test.YtdbaglgkbfjbnaaGreatIntFacts

set_option linter.unusedVariables false
set_option maxRecDepth 100000
namespace Go.Ev
open Go.Proofs
theorem runDifference57 : Q.callK Tryz.prog (intFacts ⟨38, 39, 40⟩ ⟨false, true, true, false, false, false, true, false, false⟩) plansT 1000 60 10 [.sym 0] emptyH (fun r _ => Q.eqV r (.bool true)) = true := by kernel_rfl
theorem runDifference58 : Q.callK Tryz.prog (intFacts ⟨38, 39, 40⟩ ⟨false, true, true, false, false, true, true, false, false⟩) plansT 1000 60 10 [.sym 0] emptyH (fun r _ => Q.eqV r (.bool true)) = true := by kernel_rfl
theorem runDifference59 : Q.callK Tryz.prog (intFacts ⟨38, 39, 40⟩ ⟨false, true, true, false, true, true, false, false, false⟩) plansT 1000 60 10 [.sym 0] emptyH (fun r _ => Q.eqV r (.bool true)) = true := by kernel_rfl
theorem runDifference60 : Q.callK Tryz.prog (intFacts ⟨38, 39, 40⟩ ⟨false, true, true, true, false, false, true, false, false⟩) plansT 1000 60 10 [.sym 0] emptyH (fun r _ => Q.eqV r (.bool true)) = true := by kernel_rfl
theorem runDifference61 : Q.callK Tryz.prog (intFacts ⟨38, 39, 40⟩ ⟨false, true, true, true, false, true, true, false, false⟩) plansT 1000 60 10 [.sym 0] emptyH (fun r _ => Q.eqV r (.bool true)) = true := by kernel_rfl
theorem runDifference62 : Q.callK Tryz.prog (intFacts ⟨38, 39, 40⟩ ⟨false, true, true, true, true, true, false, false, false⟩) plansT 1000 60 10 [.sym 0] emptyH (fun r _ => Q.eqV r (.bool true)) = true := by kernel_rfl
end Go.Ev
