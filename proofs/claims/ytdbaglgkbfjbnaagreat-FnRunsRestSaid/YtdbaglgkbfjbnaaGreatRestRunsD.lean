/- The kernel's runs of the law FnRunsRest: one for each case of the drawn integers, part 3. -/
import Derived.Test.YtdbaglgkbfjbnaaGreatProg
import Derived.KernelRfl
import Derived.Test.YtdbaglgkbfjbnaaGreatEvP
import Derived.Test.YtdbaglgkbfjbnaaGreatIntFacts

set_option linter.unusedVariables false
set_option maxRecDepth 100000
namespace Go.Ev
open Go.Proofs
theorem runRest54 : Q.callK Tryz.prog (intFacts ⟨45, 46, 47⟩ ⟨false, true, true, false, false, true, true, false, false⟩) plansT 1000 60 12 [.sym 0] emptyH (fun r _ => Q.eqV r (.bool true)) = true := by kernel_rfl
theorem runRest55 : Q.callK Tryz.prog (intFacts ⟨45, 46, 47⟩ ⟨false, true, true, true, false, false, true, false, false⟩) plansT 1000 60 12 [.sym 0] emptyH (fun r _ => Q.eqV r (.bool true)) = true := by kernel_rfl
theorem runRest56 : Q.callK Tryz.prog (intFacts ⟨45, 46, 47⟩ ⟨false, true, true, true, true, true, true, false, false⟩) plansT 1000 60 12 [.sym 0] emptyH (fun r _ => Q.eqV r (.bool true)) = true := by kernel_rfl
end Go.Ev
