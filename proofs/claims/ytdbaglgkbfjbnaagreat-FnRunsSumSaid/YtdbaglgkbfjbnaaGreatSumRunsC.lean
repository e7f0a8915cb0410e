/- The kernel's runs of the law FnRunsSum: one for each case of the drawn integers, part 2. -/
import Derived.Test.YtdbaglgkbfjbnaaGreatProg
import Derived.KernelRfl
import Derived.Test.YtdbaglgkbfjbnaaGreatEvP
import Derived.Test.YtdbaglgkbfjbnaaGreatIntFacts

set_option linter.unusedVariables false
set_option maxRecDepth 100000
namespace Go.Ev
open Go.Proofs
theorem runSum57 : Q.callK Tryz.prog (intFacts ⟨35, 36, 37⟩ ⟨false, true, true, false, false, false, true, false, false⟩) plansT 1000 60 9 [.sym 0] emptyH (fun r _ => Q.eqV r (.bool true)) = true := by kernel_rfl
theorem runSum58 : Q.callK Tryz.prog (intFacts ⟨35, 36, 37⟩ ⟨false, true, true, false, false, true, true, false, false⟩) plansT 1000 60 9 [.sym 0] emptyH (fun r _ => Q.eqV r (.bool true)) = true := by kernel_rfl
theorem runSum59 : Q.callK Tryz.prog (intFacts ⟨35, 36, 37⟩ ⟨false, true, true, false, true, true, false, false, false⟩) plansT 1000 60 9 [.sym 0] emptyH (fun r _ => Q.eqV r (.bool true)) = true := by kernel_rfl
theorem runSum60 : Q.callK Tryz.prog (intFacts ⟨35, 36, 37⟩ ⟨false, true, true, true, false, false, true, false, false⟩) plansT 1000 60 9 [.sym 0] emptyH (fun r _ => Q.eqV r (.bool true)) = true := by kernel_rfl
theorem runSum61 : Q.callK Tryz.prog (intFacts ⟨35, 36, 37⟩ ⟨false, true, true, true, false, true, true, false, false⟩) plansT 1000 60 9 [.sym 0] emptyH (fun r _ => Q.eqV r (.bool true)) = true := by kernel_rfl
theorem runSum62 : Q.callK Tryz.prog (intFacts ⟨35, 36, 37⟩ ⟨false, true, true, true, true, true, false, false, false⟩) plansT 1000 60 9 [.sym 0] emptyH (fun r _ => Q.eqV r (.bool true)) = true := by kernel_rfl
end Go.Ev
