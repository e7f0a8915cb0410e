/- The kernel's runs of the law FnRunsProduct: one for each case of the drawn integers, part 2. -/
import Derived.Test.YtdbaglgkbfjbnaaGreatProg
import Derived.KernelRfl
import Derived.Test.YtdbaglgkbfjbnaaGreatEvP
import Derived.Test.YtdbaglgkbfjbnaaGreatIntFacts

set_option linter.unusedVariables false
set_option maxRecDepth 100000
namespace Go.Ev
open Go.Proofs
theorem runProduct57 : Q.callK Tryz.prog (intFacts ⟨31, 32, 33⟩ ⟨false, true, true, false, false, false, true, false, false⟩) plansT 1000 60 8 [.sym 0] emptyH (fun r _ => Q.eqV r (.bool true)) = true := by kernel_rfl
theorem runProduct58 : Q.callK Tryz.prog (intFacts ⟨31, 32, 33⟩ ⟨false, true, true, false, false, true, true, false, false⟩) plansT 1000 60 8 [.sym 0] emptyH (fun r _ => Q.eqV r (.bool true)) = true := by kernel_rfl
theorem runProduct59 : Q.callK Tryz.prog (intFacts ⟨31, 32, 33⟩ ⟨false, true, true, false, true, true, false, false, false⟩) plansT 1000 60 8 [.sym 0] emptyH (fun r _ => Q.eqV r (.bool true)) = true := by kernel_rfl
theorem runProduct60 : Q.callK Tryz.prog (intFacts ⟨31, 32, 33⟩ ⟨false, true, true, true, false, false, true, false, false⟩) plansT 1000 60 8 [.sym 0] emptyH (fun r _ => Q.eqV r (.bool true)) = true := by kernel_rfl
theorem runProduct61 : Q.callK Tryz.prog (intFacts ⟨31, 32, 33⟩ ⟨false, true, true, true, false, true, true, false, false⟩) plansT 1000 60 8 [.sym 0] emptyH (fun r _ => Q.eqV r (.bool true)) = true := by kernel_rfl
theorem runProduct62 : Q.callK Tryz.prog (intFacts ⟨31, 32, 33⟩ ⟨false, true, true, true, true, true, false, false, false⟩) plansT 1000 60 8 [.sym 0] emptyH (fun r _ => Q.eqV r (.bool true)) = true := by kernel_rfl
end Go.Ev
