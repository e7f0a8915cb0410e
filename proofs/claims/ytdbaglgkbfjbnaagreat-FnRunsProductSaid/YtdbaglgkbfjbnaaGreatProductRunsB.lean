/- The kernel's runs of the law FnRunsProduct: one for each case of the drawn integers, part 1. -/
import Derived.Test.YtdbaglgkbfjbnaaGreatProg
import Derived.KernelRfl
import Derived.Test.YtdbaglgkbfjbnaaGreatEvP
import Derived.Test.YtdbaglgkbfjbnaaGreatIntFacts

set_option linter.unusedVariables false
set_option maxRecDepth 100000
namespace Go.Ev
open Go.Proofs
theorem runProduct51 : Q.callK Tryz.prog (intFacts ⟨31, 32, 33⟩ ⟨false, true, true, false, false, false, false, false, true⟩) plansT 1000 60 8 [.sym 0] emptyH (fun r _ => Q.eqV r (.bool true)) = true := by kernel_rfl
theorem runProduct52 : Q.callK Tryz.prog (intFacts ⟨31, 32, 33⟩ ⟨false, true, true, false, false, true, false, false, true⟩) plansT 1000 60 8 [.sym 0] emptyH (fun r _ => Q.eqV r (.bool true)) = true := by kernel_rfl
theorem runProduct53 : Q.callK Tryz.prog (intFacts ⟨31, 32, 33⟩ ⟨false, true, true, false, true, false, true, false, false⟩) plansT 1000 60 8 [.sym 0] emptyH (fun r _ => Q.eqV r (.bool true)) = true := by kernel_rfl
theorem runProduct54 : Q.callK Tryz.prog (intFacts ⟨31, 32, 33⟩ ⟨false, true, true, true, false, false, false, false, true⟩) plansT 1000 60 8 [.sym 0] emptyH (fun r _ => Q.eqV r (.bool true)) = true := by kernel_rfl
theorem runProduct55 : Q.callK Tryz.prog (intFacts ⟨31, 32, 33⟩ ⟨false, true, true, true, false, true, false, false, true⟩) plansT 1000 60 8 [.sym 0] emptyH (fun r _ => Q.eqV r (.bool true)) = true := by kernel_rfl
theorem runProduct56 : Q.callK Tryz.prog (intFacts ⟨31, 32, 33⟩ ⟨false, true, true, true, true, false, true, false, false⟩) plansT 1000 60 8 [.sym 0] emptyH (fun r _ => Q.eqV r (.bool true)) = true := by kernel_rfl
end Go.Ev
