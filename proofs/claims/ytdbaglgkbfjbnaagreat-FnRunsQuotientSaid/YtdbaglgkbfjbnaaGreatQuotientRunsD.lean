/- The kernel's runs of the law FnRunsQuotient: one for each case of the drawn integers, part 3. -/
import Derived.Test.YtdbaglgkbfjbnaaGreatProg
import Derived.KernelRfl
import Derived.Test.YtdbaglgkbfjbnaaGreatEvP
import Derived.Test.YtdbaglgkbfjbnaaGreatIntFacts

set_option linter.unusedVariables false
set_option maxRecDepth 100000
namespace Go.Ev
open Go.Proofs
theorem runQuotient54 : Q.callK Tryz.prog (intFacts ⟨41, 42, 43⟩ ⟨false, true, true, false, false, true, true, false, false⟩) plansT 1000 60 11 [.sym 0] emptyH (fun r _ => Q.eqV r (.bool true)) = true := by kernel_rfl
theorem runQuotient55 : Q.callK Tryz.prog (intFacts ⟨41, 42, 43⟩ ⟨false, true, true, true, false, false, true, false, false⟩) plansT 1000 60 11 [.sym 0] emptyH (fun r _ => Q.eqV r (.bool true)) = true := by kernel_rfl
theorem runQuotient56 : Q.callK Tryz.prog (intFacts ⟨41, 42, 43⟩ ⟨false, true, true, true, true, true, true, false, false⟩) plansT 1000 60 11 [.sym 0] emptyH (fun r _ => Q.eqV r (.bool true)) = true := by kernel_rfl
end Go.Ev
