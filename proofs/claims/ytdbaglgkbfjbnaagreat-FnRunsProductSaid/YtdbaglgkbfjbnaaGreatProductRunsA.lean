/- The kernel's runs of the law FnRunsProduct: one for each case of the drawn integers, part 0. -/
import Derived.Test.YtdbaglgkbfjbnaaGreatProg
import Derived.KernelRfl
import Derived.Test.YtdbaglgkbfjbnaaGreatEvP
import Derived.Test.YtdbaglgkbfjbnaaGreatIntFacts

set_option linter.unusedVariables false
set_option maxRecDepth 100000
namespace Go.Ev
open Go.Proofs
theorem runProduct0 : Q.callK Tryz.prog (intFacts ⟨31, 32, 33⟩ ⟨false, true, true, false, false, false, false, false, false⟩) plansT 1000 60 8 [.sym 0] emptyH (fun r _ => Q.eqV r (.bool true)) = true := by kernel_rfl
theorem runProduct1 : Q.callK Tryz.prog (intFacts ⟨31, 32, 33⟩ ⟨false, true, true, false, false, true, false, false, false⟩) plansT 1000 60 8 [.sym 0] emptyH (fun r _ => Q.eqV r (.bool true)) = true := by kernel_rfl
theorem runProduct2 : Q.callK Tryz.prog (intFacts ⟨31, 32, 33⟩ ⟨false, true, true, false, true, false, false, false, false⟩) plansT 1000 60 8 [.sym 0] emptyH (fun r _ => Q.eqV r (.bool true)) = true := by kernel_rfl
theorem runProduct3 : Q.callK Tryz.prog (intFacts ⟨31, 32, 33⟩ ⟨false, true, true, true, false, false, false, false, false⟩) plansT 1000 60 8 [.sym 0] emptyH (fun r _ => Q.eqV r (.bool true)) = true := by kernel_rfl
theorem runProduct4 : Q.callK Tryz.prog (intFacts ⟨31, 32, 33⟩ ⟨false, true, true, true, false, true, false, false, false⟩) plansT 1000 60 8 [.sym 0] emptyH (fun r _ => Q.eqV r (.bool true)) = true := by kernel_rfl
theorem runProduct5 : Q.callK Tryz.prog (intFacts ⟨31, 32, 33⟩ ⟨false, true, true, true, true, false, false, false, false⟩) plansT 1000 60 8 [.sym 0] emptyH (fun r _ => Q.eqV r (.bool true)) = true := by kernel_rfl
theorem runProduct6 : Q.callK Tryz.prog (intFacts ⟨31, 32, 33⟩ ⟨false, false, false, false, false, false, false, true, false⟩) plansT 1000 60 8 [.sym 0] emptyH (fun r _ => Q.eqV r (.bool true)) = true := by kernel_rfl
theorem runProduct7 : Q.callK Tryz.prog (intFacts ⟨31, 32, 33⟩ ⟨false, false, false, false, false, false, false, true, true⟩) plansT 1000 60 8 [.sym 0] emptyH (fun r _ => Q.eqV r (.bool true)) = true := by kernel_rfl
theorem runProduct8 : Q.callK Tryz.prog (intFacts ⟨31, 32, 33⟩ ⟨false, false, false, false, false, true, false, true, false⟩) plansT 1000 60 8 [.sym 0] emptyH (fun r _ => Q.eqV r (.bool true)) = true := by kernel_rfl
theorem runProduct9 : Q.callK Tryz.prog (intFacts ⟨31, 32, 33⟩ ⟨false, false, false, false, false, true, false, true, true⟩) plansT 1000 60 8 [.sym 0] emptyH (fun r _ => Q.eqV r (.bool true)) = true := by kernel_rfl
theorem runProduct10 : Q.callK Tryz.prog (intFacts ⟨31, 32, 33⟩ ⟨false, false, false, false, true, false, false, true, false⟩) plansT 1000 60 8 [.sym 0] emptyH (fun r _ => Q.eqV r (.bool true)) = true := by kernel_rfl
theorem runProduct11 : Q.callK Tryz.prog (intFacts ⟨31, 32, 33⟩ ⟨false, false, false, false, true, false, false, true, true⟩) plansT 1000 60 8 [.sym 0] emptyH (fun r _ => Q.eqV r (.bool true)) = true := by kernel_rfl
theorem runProduct12 : Q.callK Tryz.prog (intFacts ⟨31, 32, 33⟩ ⟨false, false, false, false, true, true, false, true, false⟩) plansT 1000 60 8 [.sym 0] emptyH (fun r _ => Q.eqV r (.bool true)) = true := by kernel_rfl
theorem runProduct13 : Q.callK Tryz.prog (intFacts ⟨31, 32, 33⟩ ⟨false, false, false, false, true, true, false, true, true⟩) plansT 1000 60 8 [.sym 0] emptyH (fun r _ => Q.eqV r (.bool true)) = true := by kernel_rfl
theorem runProduct14 : Q.callK Tryz.prog (intFacts ⟨31, 32, 33⟩ ⟨false, false, false, true, false, false, false, true, false⟩) plansT 1000 60 8 [.sym 0] emptyH (fun r _ => Q.eqV r (.bool true)) = true := by kernel_rfl
theorem runProduct15 : Q.callK Tryz.prog (intFacts ⟨31, 32, 33⟩ ⟨false, false, false, true, false, false, false, true, true⟩) plansT 1000 60 8 [.sym 0] emptyH (fun r _ => Q.eqV r (.bool true)) = true := by kernel_rfl
theorem runProduct16 : Q.callK Tryz.prog (intFacts ⟨31, 32, 33⟩ ⟨false, false, false, true, false, true, false, true, false⟩) plansT 1000 60 8 [.sym 0] emptyH (fun r _ => Q.eqV r (.bool true)) = true := by kernel_rfl
theorem runProduct17 : Q.callK Tryz.prog (intFacts ⟨31, 32, 33⟩ ⟨false, false, false, true, false, true, false, true, true⟩) plansT 1000 60 8 [.sym 0] emptyH (fun r _ => Q.eqV r (.bool true)) = true := by kernel_rfl
theorem runProduct18 : Q.callK Tryz.prog (intFacts ⟨31, 32, 33⟩ ⟨false, false, false, true, true, false, false, true, false⟩) plansT 1000 60 8 [.sym 0] emptyH (fun r _ => Q.eqV r (.bool true)) = true := by kernel_rfl
theorem runProduct19 : Q.callK Tryz.prog (intFacts ⟨31, 32, 33⟩ ⟨false, false, false, true, true, false, false, true, true⟩) plansT 1000 60 8 [.sym 0] emptyH (fun r _ => Q.eqV r (.bool true)) = true := by kernel_rfl
theorem runProduct20 : Q.callK Tryz.prog (intFacts ⟨31, 32, 33⟩ ⟨false, false, false, true, true, true, false, true, false⟩) plansT 1000 60 8 [.sym 0] emptyH (fun r _ => Q.eqV r (.bool true)) = true := by kernel_rfl
theorem runProduct21 : Q.callK Tryz.prog (intFacts ⟨31, 32, 33⟩ ⟨false, false, false, true, true, true, false, true, true⟩) plansT 1000 60 8 [.sym 0] emptyH (fun r _ => Q.eqV r (.bool true)) = true := by kernel_rfl
theorem runProduct22 : Q.callK Tryz.prog (intFacts ⟨31, 32, 33⟩ ⟨false, false, true, false, false, false, false, true, false⟩) plansT 1000 60 8 [.sym 0] emptyH (fun r _ => Q.eqV r (.bool true)) = true := by kernel_rfl
theorem runProduct23 : Q.callK Tryz.prog (intFacts ⟨31, 32, 33⟩ ⟨false, false, true, false, false, false, false, true, true⟩) plansT 1000 60 8 [.sym 0] emptyH (fun r _ => Q.eqV r (.bool true)) = true := by kernel_rfl
theorem runProduct24 : Q.callK Tryz.prog (intFacts ⟨31, 32, 33⟩ ⟨false, false, true, false, false, true, false, true, false⟩) plansT 1000 60 8 [.sym 0] emptyH (fun r _ => Q.eqV r (.bool true)) = true := by kernel_rfl
theorem runProduct25 : Q.callK Tryz.prog (intFacts ⟨31, 32, 33⟩ ⟨false, false, true, false, false, true, false, true, true⟩) plansT 1000 60 8 [.sym 0] emptyH (fun r _ => Q.eqV r (.bool true)) = true := by kernel_rfl
theorem runProduct26 : Q.callK Tryz.prog (intFacts ⟨31, 32, 33⟩ ⟨false, false, true, false, true, false, false, true, false⟩) plansT 1000 60 8 [.sym 0] emptyH (fun r _ => Q.eqV r (.bool true)) = true := by kernel_rfl
theorem runProduct27 : Q.callK Tryz.prog (intFacts ⟨31, 32, 33⟩ ⟨false, false, true, false, true, true, false, true, false⟩) plansT 1000 60 8 [.sym 0] emptyH (fun r _ => Q.eqV r (.bool true)) = true := by kernel_rfl
theorem runProduct28 : Q.callK Tryz.prog (intFacts ⟨31, 32, 33⟩ ⟨false, false, true, true, false, false, false, true, false⟩) plansT 1000 60 8 [.sym 0] emptyH (fun r _ => Q.eqV r (.bool true)) = true := by kernel_rfl
theorem runProduct29 : Q.callK Tryz.prog (intFacts ⟨31, 32, 33⟩ ⟨false, false, true, true, false, false, false, true, true⟩) plansT 1000 60 8 [.sym 0] emptyH (fun r _ => Q.eqV r (.bool true)) = true := by kernel_rfl
theorem runProduct30 : Q.callK Tryz.prog (intFacts ⟨31, 32, 33⟩ ⟨false, false, true, true, false, true, false, true, false⟩) plansT 1000 60 8 [.sym 0] emptyH (fun r _ => Q.eqV r (.bool true)) = true := by kernel_rfl
theorem runProduct31 : Q.callK Tryz.prog (intFacts ⟨31, 32, 33⟩ ⟨false, false, true, true, false, true, false, true, true⟩) plansT 1000 60 8 [.sym 0] emptyH (fun r _ => Q.eqV r (.bool true)) = true := by kernel_rfl
theorem runProduct32 : Q.callK Tryz.prog (intFacts ⟨31, 32, 33⟩ ⟨false, false, true, true, true, false, false, true, false⟩) plansT 1000 60 8 [.sym 0] emptyH (fun r _ => Q.eqV r (.bool true)) = true := by kernel_rfl
theorem runProduct33 : Q.callK Tryz.prog (intFacts ⟨31, 32, 33⟩ ⟨false, false, true, true, true, true, false, true, false⟩) plansT 1000 60 8 [.sym 0] emptyH (fun r _ => Q.eqV r (.bool true)) = true := by kernel_rfl
theorem runProduct34 : Q.callK Tryz.prog (intFacts ⟨31, 32, 33⟩ ⟨false, true, false, false, false, false, false, true, false⟩) plansT 1000 60 8 [.sym 0] emptyH (fun r _ => Q.eqV r (.bool true)) = true := by kernel_rfl
theorem runProduct35 : Q.callK Tryz.prog (intFacts ⟨31, 32, 33⟩ ⟨false, true, false, false, false, false, false, true, true⟩) plansT 1000 60 8 [.sym 0] emptyH (fun r _ => Q.eqV r (.bool true)) = true := by kernel_rfl
theorem runProduct36 : Q.callK Tryz.prog (intFacts ⟨31, 32, 33⟩ ⟨false, true, false, false, false, true, false, true, false⟩) plansT 1000 60 8 [.sym 0] emptyH (fun r _ => Q.eqV r (.bool true)) = true := by kernel_rfl
theorem runProduct37 : Q.callK Tryz.prog (intFacts ⟨31, 32, 33⟩ ⟨false, true, false, false, false, true, false, true, true⟩) plansT 1000 60 8 [.sym 0] emptyH (fun r _ => Q.eqV r (.bool true)) = true := by kernel_rfl
theorem runProduct38 : Q.callK Tryz.prog (intFacts ⟨31, 32, 33⟩ ⟨false, true, false, false, true, false, false, true, false⟩) plansT 1000 60 8 [.sym 0] emptyH (fun r _ => Q.eqV r (.bool true)) = true := by kernel_rfl
theorem runProduct39 : Q.callK Tryz.prog (intFacts ⟨31, 32, 33⟩ ⟨false, true, false, false, true, false, false, true, true⟩) plansT 1000 60 8 [.sym 0] emptyH (fun r _ => Q.eqV r (.bool true)) = true := by kernel_rfl
theorem runProduct40 : Q.callK Tryz.prog (intFacts ⟨31, 32, 33⟩ ⟨false, true, false, false, true, true, false, true, false⟩) plansT 1000 60 8 [.sym 0] emptyH (fun r _ => Q.eqV r (.bool true)) = true := by kernel_rfl
theorem runProduct41 : Q.callK Tryz.prog (intFacts ⟨31, 32, 33⟩ ⟨false, true, false, false, true, true, false, true, true⟩) plansT 1000 60 8 [.sym 0] emptyH (fun r _ => Q.eqV r (.bool true)) = true := by kernel_rfl
theorem runProduct42 : Q.callK Tryz.prog (intFacts ⟨31, 32, 33⟩ ⟨false, true, false, true, false, false, false, true, false⟩) plansT 1000 60 8 [.sym 0] emptyH (fun r _ => Q.eqV r (.bool true)) = true := by kernel_rfl
theorem runProduct43 : Q.callK Tryz.prog (intFacts ⟨31, 32, 33⟩ ⟨false, true, false, true, false, false, false, true, true⟩) plansT 1000 60 8 [.sym 0] emptyH (fun r _ => Q.eqV r (.bool true)) = true := by kernel_rfl
theorem runProduct44 : Q.callK Tryz.prog (intFacts ⟨31, 32, 33⟩ ⟨false, true, false, true, false, true, false, true, false⟩) plansT 1000 60 8 [.sym 0] emptyH (fun r _ => Q.eqV r (.bool true)) = true := by kernel_rfl
theorem runProduct45 : Q.callK Tryz.prog (intFacts ⟨31, 32, 33⟩ ⟨false, true, false, true, false, true, false, true, true⟩) plansT 1000 60 8 [.sym 0] emptyH (fun r _ => Q.eqV r (.bool true)) = true := by kernel_rfl
theorem runProduct46 : Q.callK Tryz.prog (intFacts ⟨31, 32, 33⟩ ⟨false, true, false, true, true, false, false, true, false⟩) plansT 1000 60 8 [.sym 0] emptyH (fun r _ => Q.eqV r (.bool true)) = true := by kernel_rfl
theorem runProduct47 : Q.callK Tryz.prog (intFacts ⟨31, 32, 33⟩ ⟨false, true, false, true, true, false, false, true, true⟩) plansT 1000 60 8 [.sym 0] emptyH (fun r _ => Q.eqV r (.bool true)) = true := by kernel_rfl
theorem runProduct48 : Q.callK Tryz.prog (intFacts ⟨31, 32, 33⟩ ⟨false, true, false, true, true, true, false, true, false⟩) plansT 1000 60 8 [.sym 0] emptyH (fun r _ => Q.eqV r (.bool true)) = true := by kernel_rfl
theorem runProduct49 : Q.callK Tryz.prog (intFacts ⟨31, 32, 33⟩ ⟨false, true, false, true, true, true, false, true, true⟩) plansT 1000 60 8 [.sym 0] emptyH (fun r _ => Q.eqV r (.bool true)) = true := by kernel_rfl
theorem runProduct50 : Q.callK Tryz.prog (intFacts ⟨31, 32, 33⟩ ⟨true, false, false, false, false, true, false, true, false⟩) plansT 1000 60 8 [.sym 0] emptyH (fun r _ => Q.eqV r (.bool true)) = true := by kernel_rfl
end Go.Ev
