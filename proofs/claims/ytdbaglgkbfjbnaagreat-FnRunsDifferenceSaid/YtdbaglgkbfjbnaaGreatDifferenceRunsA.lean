/- The kernel's runs of the law FnRunsDifference: one for each case of the drawn integers, part 0. -/
import Derived.Test.YtdbaglgkbfjbnaaGreatProg
import Derived.KernelRfl
import Derived.Test.YtdbaglgkbfjbnaaGreatEvP
import Derived.Test.YtdbaglgkbfjbnaaGreatIntFacts

set_option linter.unusedVariables false
set_option maxRecDepth 100000
namespace Go.Ev
open Go.Proofs
theorem runDifference0 : Q.callK Tryz.prog (intFacts ⟨38, 39, 40⟩ ⟨false, true, true, false, false, false, false, false, false⟩) plansT 1000 60 10 [.sym 0] emptyH (fun r _ => Q.eqV r (.bool true)) = true := by kernel_rfl
theorem runDifference1 : Q.callK Tryz.prog (intFacts ⟨38, 39, 40⟩ ⟨false, true, true, false, false, true, false, false, false⟩) plansT 1000 60 10 [.sym 0] emptyH (fun r _ => Q.eqV r (.bool true)) = true := by kernel_rfl
theorem runDifference2 : Q.callK Tryz.prog (intFacts ⟨38, 39, 40⟩ ⟨false, true, true, false, true, false, false, false, false⟩) plansT 1000 60 10 [.sym 0] emptyH (fun r _ => Q.eqV r (.bool true)) = true := by kernel_rfl
theorem runDifference3 : Q.callK Tryz.prog (intFacts ⟨38, 39, 40⟩ ⟨false, true, true, true, false, false, false, false, false⟩) plansT 1000 60 10 [.sym 0] emptyH (fun r _ => Q.eqV r (.bool true)) = true := by kernel_rfl
theorem runDifference4 : Q.callK Tryz.prog (intFacts ⟨38, 39, 40⟩ ⟨false, true, true, true, false, true, false, false, false⟩) plansT 1000 60 10 [.sym 0] emptyH (fun r _ => Q.eqV r (.bool true)) = true := by kernel_rfl
theorem runDifference5 : Q.callK Tryz.prog (intFacts ⟨38, 39, 40⟩ ⟨false, true, true, true, true, false, false, false, false⟩) plansT 1000 60 10 [.sym 0] emptyH (fun r _ => Q.eqV r (.bool true)) = true := by kernel_rfl
theorem runDifference6 : Q.callK Tryz.prog (intFacts ⟨38, 39, 40⟩ ⟨false, false, false, false, false, false, false, true, false⟩) plansT 1000 60 10 [.sym 0] emptyH (fun r _ => Q.eqV r (.bool true)) = true := by kernel_rfl
theorem runDifference7 : Q.callK Tryz.prog (intFacts ⟨38, 39, 40⟩ ⟨false, false, false, false, false, false, false, true, true⟩) plansT 1000 60 10 [.sym 0] emptyH (fun r _ => Q.eqV r (.bool true)) = true := by kernel_rfl
theorem runDifference8 : Q.callK Tryz.prog (intFacts ⟨38, 39, 40⟩ ⟨false, false, false, false, false, true, false, true, false⟩) plansT 1000 60 10 [.sym 0] emptyH (fun r _ => Q.eqV r (.bool true)) = true := by kernel_rfl
theorem runDifference9 : Q.callK Tryz.prog (intFacts ⟨38, 39, 40⟩ ⟨false, false, false, false, false, true, false, true, true⟩) plansT 1000 60 10 [.sym 0] emptyH (fun r _ => Q.eqV r (.bool true)) = true := by kernel_rfl
theorem runDifference10 : Q.callK Tryz.prog (intFacts ⟨38, 39, 40⟩ ⟨false, false, false, false, true, false, false, true, false⟩) plansT 1000 60 10 [.sym 0] emptyH (fun r _ => Q.eqV r (.bool true)) = true := by kernel_rfl
theorem runDifference11 : Q.callK Tryz.prog (intFacts ⟨38, 39, 40⟩ ⟨false, false, false, false, true, false, false, true, true⟩) plansT 1000 60 10 [.sym 0] emptyH (fun r _ => Q.eqV r (.bool true)) = true := by kernel_rfl
theorem runDifference12 : Q.callK Tryz.prog (intFacts ⟨38, 39, 40⟩ ⟨false, false, false, false, true, true, false, true, false⟩) plansT 1000 60 10 [.sym 0] emptyH (fun r _ => Q.eqV r (.bool true)) = true := by kernel_rfl
theorem runDifference13 : Q.callK Tryz.prog (intFacts ⟨38, 39, 40⟩ ⟨false, false, false, false, true, true, false, true, true⟩) plansT 1000 60 10 [.sym 0] emptyH (fun r _ => Q.eqV r (.bool true)) = true := by kernel_rfl
theorem runDifference14 : Q.callK Tryz.prog (intFacts ⟨38, 39, 40⟩ ⟨false, false, false, true, false, false, false, true, false⟩) plansT 1000 60 10 [.sym 0] emptyH (fun r _ => Q.eqV r (.bool true)) = true := by kernel_rfl
theorem runDifference15 : Q.callK Tryz.prog (intFacts ⟨38, 39, 40⟩ ⟨false, false, false, true, false, false, false, true, true⟩) plansT 1000 60 10 [.sym 0] emptyH (fun r _ => Q.eqV r (.bool true)) = true := by kernel_rfl
theorem runDifference16 : Q.callK Tryz.prog (intFacts ⟨38, 39, 40⟩ ⟨false, false, false, true, false, true, false, true, false⟩) plansT 1000 60 10 [.sym 0] emptyH (fun r _ => Q.eqV r (.bool true)) = true := by kernel_rfl
theorem runDifference17 : Q.callK Tryz.prog (intFacts ⟨38, 39, 40⟩ ⟨false, false, false, true, false, true, false, true, true⟩) plansT 1000 60 10 [.sym 0] emptyH (fun r _ => Q.eqV r (.bool true)) = true := by kernel_rfl
theorem runDifference18 : Q.callK Tryz.prog (intFacts ⟨38, 39, 40⟩ ⟨false, false, false, true, true, false, false, true, false⟩) plansT 1000 60 10 [.sym 0] emptyH (fun r _ => Q.eqV r (.bool true)) = true := by kernel_rfl
theorem runDifference19 : Q.callK Tryz.prog (intFacts ⟨38, 39, 40⟩ ⟨false, false, false, true, true, false, false, true, true⟩) plansT 1000 60 10 [.sym 0] emptyH (fun r _ => Q.eqV r (.bool true)) = true := by kernel_rfl
theorem runDifference20 : Q.callK Tryz.prog (intFacts ⟨38, 39, 40⟩ ⟨false, false, false, true, true, true, false, true, false⟩) plansT 1000 60 10 [.sym 0] emptyH (fun r _ => Q.eqV r (.bool true)) = true := by kernel_rfl
theorem runDifference21 : Q.callK Tryz.prog (intFacts ⟨38, 39, 40⟩ ⟨false, false, false, true, true, true, false, true, true⟩) plansT 1000 60 10 [.sym 0] emptyH (fun r _ => Q.eqV r (.bool true)) = true := by kernel_rfl
theorem runDifference22 : Q.callK Tryz.prog (intFacts ⟨38, 39, 40⟩ ⟨false, false, true, false, false, false, false, true, false⟩) plansT 1000 60 10 [.sym 0] emptyH (fun r _ => Q.eqV r (.bool true)) = true := by kernel_rfl
theorem runDifference23 : Q.callK Tryz.prog (intFacts ⟨38, 39, 40⟩ ⟨false, false, true, false, false, false, false, true, true⟩) plansT 1000 60 10 [.sym 0] emptyH (fun r _ => Q.eqV r (.bool true)) = true := by kernel_rfl
theorem runDifference24 : Q.callK Tryz.prog (intFacts ⟨38, 39, 40⟩ ⟨false, false, true, false, false, true, false, true, false⟩) plansT 1000 60 10 [.sym 0] emptyH (fun r _ => Q.eqV r (.bool true)) = true := by kernel_rfl
theorem runDifference25 : Q.callK Tryz.prog (intFacts ⟨38, 39, 40⟩ ⟨false, false, true, false, false, true, false, true, true⟩) plansT 1000 60 10 [.sym 0] emptyH (fun r _ => Q.eqV r (.bool true)) = true := by kernel_rfl
theorem runDifference26 : Q.callK Tryz.prog (intFacts ⟨38, 39, 40⟩ ⟨false, false, true, false, true, false, false, true, false⟩) plansT 1000 60 10 [.sym 0] emptyH (fun r _ => Q.eqV r (.bool true)) = true := by kernel_rfl
theorem runDifference27 : Q.callK Tryz.prog (intFacts ⟨38, 39, 40⟩ ⟨false, false, true, false, true, true, false, true, false⟩) plansT 1000 60 10 [.sym 0] emptyH (fun r _ => Q.eqV r (.bool true)) = true := by kernel_rfl
theorem runDifference28 : Q.callK Tryz.prog (intFacts ⟨38, 39, 40⟩ ⟨false, false, true, true, false, false, false, true, false⟩) plansT 1000 60 10 [.sym 0] emptyH (fun r _ => Q.eqV r (.bool true)) = true := by kernel_rfl
theorem runDifference29 : Q.callK Tryz.prog (intFacts ⟨38, 39, 40⟩ ⟨false, false, true, true, false, false, false, true, true⟩) plansT 1000 60 10 [.sym 0] emptyH (fun r _ => Q.eqV r (.bool true)) = true := by kernel_rfl
theorem runDifference30 : Q.callK Tryz.prog (intFacts ⟨38, 39, 40⟩ ⟨false, false, true, true, false, true, false, true, false⟩) plansT 1000 60 10 [.sym 0] emptyH (fun r _ => Q.eqV r (.bool true)) = true := by kernel_rfl
theorem runDifference31 : Q.callK Tryz.prog (intFacts ⟨38, 39, 40⟩ ⟨false, false, true, true, false, true, false, true, true⟩) plansT 1000 60 10 [.sym 0] emptyH (fun r _ => Q.eqV r (.bool true)) = true := by kernel_rfl
theorem runDifference32 : Q.callK Tryz.prog (intFacts ⟨38, 39, 40⟩ ⟨false, false, true, true, true, false, false, true, false⟩) plansT 1000 60 10 [.sym 0] emptyH (fun r _ => Q.eqV r (.bool true)) = true := by kernel_rfl
theorem runDifference33 : Q.callK Tryz.prog (intFacts ⟨38, 39, 40⟩ ⟨false, false, true, true, true, true, false, true, false⟩) plansT 1000 60 10 [.sym 0] emptyH (fun r _ => Q.eqV r (.bool true)) = true := by kernel_rfl
theorem runDifference34 : Q.callK Tryz.prog (intFacts ⟨38, 39, 40⟩ ⟨false, true, false, false, false, false, false, true, false⟩) plansT 1000 60 10 [.sym 0] emptyH (fun r _ => Q.eqV r (.bool true)) = true := by kernel_rfl
theorem runDifference35 : Q.callK Tryz.prog (intFacts ⟨38, 39, 40⟩ ⟨false, true, false, false, false, false, false, true, true⟩) plansT 1000 60 10 [.sym 0] emptyH (fun r _ => Q.eqV r (.bool true)) = true := by kernel_rfl
theorem runDifference36 : Q.callK Tryz.prog (intFacts ⟨38, 39, 40⟩ ⟨false, true, false, false, false, true, false, true, false⟩) plansT 1000 60 10 [.sym 0] emptyH (fun r _ => Q.eqV r (.bool true)) = true := by kernel_rfl
theorem runDifference37 : Q.callK Tryz.prog (intFacts ⟨38, 39, 40⟩ ⟨false, true, false, false, false, true, false, true, true⟩) plansT 1000 60 10 [.sym 0] emptyH (fun r _ => Q.eqV r (.bool true)) = true := by kernel_rfl
theorem runDifference38 : Q.callK Tryz.prog (intFacts ⟨38, 39, 40⟩ ⟨false, true, false, false, true, false, false, true, false⟩) plansT 1000 60 10 [.sym 0] emptyH (fun r _ => Q.eqV r (.bool true)) = true := by kernel_rfl
theorem runDifference39 : Q.callK Tryz.prog (intFacts ⟨38, 39, 40⟩ ⟨false, true, false, false, true, false, false, true, true⟩) plansT 1000 60 10 [.sym 0] emptyH (fun r _ => Q.eqV r (.bool true)) = true := by kernel_rfl
theorem runDifference40 : Q.callK Tryz.prog (intFacts ⟨38, 39, 40⟩ ⟨false, true, false, false, true, true, false, true, false⟩) plansT 1000 60 10 [.sym 0] emptyH (fun r _ => Q.eqV r (.bool true)) = true := by kernel_rfl
theorem runDifference41 : Q.callK Tryz.prog (intFacts ⟨38, 39, 40⟩ ⟨false, true, false, false, true, true, false, true, true⟩) plansT 1000 60 10 [.sym 0] emptyH (fun r _ => Q.eqV r (.bool true)) = true := by kernel_rfl
theorem runDifference42 : Q.callK Tryz.prog (intFacts ⟨38, 39, 40⟩ ⟨false, true, false, true, false, false, false, true, false⟩) plansT 1000 60 10 [.sym 0] emptyH (fun r _ => Q.eqV r (.bool true)) = true := by kernel_rfl
theorem runDifference43 : Q.callK Tryz.prog (intFacts ⟨38, 39, 40⟩ ⟨false, true, false, true, false, false, false, true, true⟩) plansT 1000 60 10 [.sym 0] emptyH (fun r _ => Q.eqV r (.bool true)) = true := by kernel_rfl
theorem runDifference44 : Q.callK Tryz.prog (intFacts ⟨38, 39, 40⟩ ⟨false, true, false, true, false, true, false, true, false⟩) plansT 1000 60 10 [.sym 0] emptyH (fun r _ => Q.eqV r (.bool true)) = true := by kernel_rfl
theorem runDifference45 : Q.callK Tryz.prog (intFacts ⟨38, 39, 40⟩ ⟨false, true, false, true, false, true, false, true, true⟩) plansT 1000 60 10 [.sym 0] emptyH (fun r _ => Q.eqV r (.bool true)) = true := by kernel_rfl
theorem runDifference46 : Q.callK Tryz.prog (intFacts ⟨38, 39, 40⟩ ⟨false, true, false, true, true, false, false, true, false⟩) plansT 1000 60 10 [.sym 0] emptyH (fun r _ => Q.eqV r (.bool true)) = true := by kernel_rfl
theorem runDifference47 : Q.callK Tryz.prog (intFacts ⟨38, 39, 40⟩ ⟨false, true, false, true, true, false, false, true, true⟩) plansT 1000 60 10 [.sym 0] emptyH (fun r _ => Q.eqV r (.bool true)) = true := by kernel_rfl
theorem runDifference48 : Q.callK Tryz.prog (intFacts ⟨38, 39, 40⟩ ⟨false, true, false, true, true, true, false, true, false⟩) plansT 1000 60 10 [.sym 0] emptyH (fun r _ => Q.eqV r (.bool true)) = true := by kernel_rfl
theorem runDifference49 : Q.callK Tryz.prog (intFacts ⟨38, 39, 40⟩ ⟨false, true, false, true, true, true, false, true, true⟩) plansT 1000 60 10 [.sym 0] emptyH (fun r _ => Q.eqV r (.bool true)) = true := by kernel_rfl
theorem runDifference50 : Q.callK Tryz.prog (intFacts ⟨38, 39, 40⟩ ⟨true, false, false, false, false, true, false, true, false⟩) plansT 1000 60 10 [.sym 0] emptyH (fun r _ => Q.eqV r (.bool true)) = true := by kernel_rfl
end Go.Ev
