/- The kernel's runs of the law FnRunsSum: one for each case of the drawn integers, part 0. -/
import Derived.Test.YtdbaglgkbfjbnaaGreatProg
import Derived.KernelRfl
import Derived.Test.YtdbaglgkbfjbnaaGreatEvP
import Derived.Test.YtdbaglgkbfjbnaaGreatIntFacts

set_option linter.unusedVariables false
set_option maxRecDepth 100000
namespace Go.Ev
open Go.Proofs
theorem runSum0 : Q.callK Tryz.prog (intFacts ⟨35, 36, 37⟩ ⟨false, true, true, false, false, false, false, false, false⟩) plansT 1000 60 9 [.sym 0] emptyH (fun r _ => Q.eqV r (.bool true)) = true := by kernel_rfl
theorem runSum1 : Q.callK Tryz.prog (intFacts ⟨35, 36, 37⟩ ⟨false, true, true, false, false, true, false, false, false⟩) plansT 1000 60 9 [.sym 0] emptyH (fun r _ => Q.eqV r (.bool true)) = true := by kernel_rfl
theorem runSum2 : Q.callK Tryz.prog (intFacts ⟨35, 36, 37⟩ ⟨false, true, true, false, true, false, false, false, false⟩) plansT 1000 60 9 [.sym 0] emptyH (fun r _ => Q.eqV r (.bool true)) = true := by kernel_rfl
theorem runSum3 : Q.callK Tryz.prog (intFacts ⟨35, 36, 37⟩ ⟨false, true, true, true, false, false, false, false, false⟩) plansT 1000 60 9 [.sym 0] emptyH (fun r _ => Q.eqV r (.bool true)) = true := by kernel_rfl
theorem runSum4 : Q.callK Tryz.prog (intFacts ⟨35, 36, 37⟩ ⟨false, true, true, true, false, true, false, false, false⟩) plansT 1000 60 9 [.sym 0] emptyH (fun r _ => Q.eqV r (.bool true)) = true := by kernel_rfl
theorem runSum5 : Q.callK Tryz.prog (intFacts ⟨35, 36, 37⟩ ⟨false, true, true, true, true, false, false, false, false⟩) plansT 1000 60 9 [.sym 0] emptyH (fun r _ => Q.eqV r (.bool true)) = true := by kernel_rfl
theorem runSum6 : Q.callK Tryz.prog (intFacts ⟨35, 36, 37⟩ ⟨false, false, false, false, false, false, false, true, false⟩) plansT 1000 60 9 [.sym 0] emptyH (fun r _ => Q.eqV r (.bool true)) = true := by kernel_rfl
theorem runSum7 : Q.callK Tryz.prog (intFacts ⟨35, 36, 37⟩ ⟨false, false, false, false, false, false, false, true, true⟩) plansT 1000 60 9 [.sym 0] emptyH (fun r _ => Q.eqV r (.bool true)) = true := by kernel_rfl
theorem runSum8 : Q.callK Tryz.prog (intFacts ⟨35, 36, 37⟩ ⟨false, false, false, false, false, true, false, true, false⟩) plansT 1000 60 9 [.sym 0] emptyH (fun r _ => Q.eqV r (.bool true)) = true := by kernel_rfl
theorem runSum9 : Q.callK Tryz.prog (intFacts ⟨35, 36, 37⟩ ⟨false, false, false, false, false, true, false, true, true⟩) plansT 1000 60 9 [.sym 0] emptyH (fun r _ => Q.eqV r (.bool true)) = true := by kernel_rfl
theorem runSum10 : Q.callK Tryz.prog (intFacts ⟨35, 36, 37⟩ ⟨false, false, false, false, true, false, false, true, false⟩) plansT 1000 60 9 [.sym 0] emptyH (fun r _ => Q.eqV r (.bool true)) = true := by kernel_rfl
theorem runSum11 : Q.callK Tryz.prog (intFacts ⟨35, 36, 37⟩ ⟨false, false, false, false, true, false, false, true, true⟩) plansT 1000 60 9 [.sym 0] emptyH (fun r _ => Q.eqV r (.bool true)) = true := by kernel_rfl
theorem runSum12 : Q.callK Tryz.prog (intFacts ⟨35, 36, 37⟩ ⟨false, false, false, false, true, true, false, true, false⟩) plansT 1000 60 9 [.sym 0] emptyH (fun r _ => Q.eqV r (.bool true)) = true := by kernel_rfl
theorem runSum13 : Q.callK Tryz.prog (intFacts ⟨35, 36, 37⟩ ⟨false, false, false, false, true, true, false, true, true⟩) plansT 1000 60 9 [.sym 0] emptyH (fun r _ => Q.eqV r (.bool true)) = true := by kernel_rfl
theorem runSum14 : Q.callK Tryz.prog (intFacts ⟨35, 36, 37⟩ ⟨false, false, false, true, false, false, false, true, false⟩) plansT 1000 60 9 [.sym 0] emptyH (fun r _ => Q.eqV r (.bool true)) = true := by kernel_rfl
theorem runSum15 : Q.callK Tryz.prog (intFacts ⟨35, 36, 37⟩ ⟨false, false, false, true, false, false, false, true, true⟩) plansT 1000 60 9 [.sym 0] emptyH (fun r _ => Q.eqV r (.bool true)) = true := by kernel_rfl
theorem runSum16 : Q.callK Tryz.prog (intFacts ⟨35, 36, 37⟩ ⟨false, false, false, true, false, true, false, true, false⟩) plansT 1000 60 9 [.sym 0] emptyH (fun r _ => Q.eqV r (.bool true)) = true := by kernel_rfl
theorem runSum17 : Q.callK Tryz.prog (intFacts ⟨35, 36, 37⟩ ⟨false, false, false, true, false, true, false, true, true⟩) plansT 1000 60 9 [.sym 0] emptyH (fun r _ => Q.eqV r (.bool true)) = true := by kernel_rfl
theorem runSum18 : Q.callK Tryz.prog (intFacts ⟨35, 36, 37⟩ ⟨false, false, false, true, true, false, false, true, false⟩) plansT 1000 60 9 [.sym 0] emptyH (fun r _ => Q.eqV r (.bool true)) = true := by kernel_rfl
theorem runSum19 : Q.callK Tryz.prog (intFacts ⟨35, 36, 37⟩ ⟨false, false, false, true, true, false, false, true, true⟩) plansT 1000 60 9 [.sym 0] emptyH (fun r _ => Q.eqV r (.bool true)) = true := by kernel_rfl
theorem runSum20 : Q.callK Tryz.prog (intFacts ⟨35, 36, 37⟩ ⟨false, false, false, true, true, true, false, true, false⟩) plansT 1000 60 9 [.sym 0] emptyH (fun r _ => Q.eqV r (.bool true)) = true := by kernel_rfl
theorem runSum21 : Q.callK Tryz.prog (intFacts ⟨35, 36, 37⟩ ⟨false, false, false, true, true, true, false, true, true⟩) plansT 1000 60 9 [.sym 0] emptyH (fun r _ => Q.eqV r (.bool true)) = true := by kernel_rfl
theorem runSum22 : Q.callK Tryz.prog (intFacts ⟨35, 36, 37⟩ ⟨false, false, true, false, false, false, false, true, false⟩) plansT 1000 60 9 [.sym 0] emptyH (fun r _ => Q.eqV r (.bool true)) = true := by kernel_rfl
theorem runSum23 : Q.callK Tryz.prog (intFacts ⟨35, 36, 37⟩ ⟨false, false, true, false, false, false, false, true, true⟩) plansT 1000 60 9 [.sym 0] emptyH (fun r _ => Q.eqV r (.bool true)) = true := by kernel_rfl
theorem runSum24 : Q.callK Tryz.prog (intFacts ⟨35, 36, 37⟩ ⟨false, false, true, false, false, true, false, true, false⟩) plansT 1000 60 9 [.sym 0] emptyH (fun r _ => Q.eqV r (.bool true)) = true := by kernel_rfl
theorem runSum25 : Q.callK Tryz.prog (intFacts ⟨35, 36, 37⟩ ⟨false, false, true, false, false, true, false, true, true⟩) plansT 1000 60 9 [.sym 0] emptyH (fun r _ => Q.eqV r (.bool true)) = true := by kernel_rfl
theorem runSum26 : Q.callK Tryz.prog (intFacts ⟨35, 36, 37⟩ ⟨false, false, true, false, true, false, false, true, false⟩) plansT 1000 60 9 [.sym 0] emptyH (fun r _ => Q.eqV r (.bool true)) = true := by kernel_rfl
theorem runSum27 : Q.callK Tryz.prog (intFacts ⟨35, 36, 37⟩ ⟨false, false, true, false, true, true, false, true, false⟩) plansT 1000 60 9 [.sym 0] emptyH (fun r _ => Q.eqV r (.bool true)) = true := by kernel_rfl
theorem runSum28 : Q.callK Tryz.prog (intFacts ⟨35, 36, 37⟩ ⟨false, false, true, true, false, false, false, true, false⟩) plansT 1000 60 9 [.sym 0] emptyH (fun r _ => Q.eqV r (.bool true)) = true := by kernel_rfl
theorem runSum29 : Q.callK Tryz.prog (intFacts ⟨35, 36, 37⟩ ⟨false, false, true, true, false, false, false, true, true⟩) plansT 1000 60 9 [.sym 0] emptyH (fun r _ => Q.eqV r (.bool true)) = true := by kernel_rfl
theorem runSum30 : Q.callK Tryz.prog (intFacts ⟨35, 36, 37⟩ ⟨false, false, true, true, false, true, false, true, false⟩) plansT 1000 60 9 [.sym 0] emptyH (fun r _ => Q.eqV r (.bool true)) = true := by kernel_rfl
theorem runSum31 : Q.callK Tryz.prog (intFacts ⟨35, 36, 37⟩ ⟨false, false, true, true, false, true, false, true, true⟩) plansT 1000 60 9 [.sym 0] emptyH (fun r _ => Q.eqV r (.bool true)) = true := by kernel_rfl
theorem runSum32 : Q.callK Tryz.prog (intFacts ⟨35, 36, 37⟩ ⟨false, false, true, true, true, false, false, true, false⟩) plansT 1000 60 9 [.sym 0] emptyH (fun r _ => Q.eqV r (.bool true)) = true := by kernel_rfl
theorem runSum33 : Q.callK Tryz.prog (intFacts ⟨35, 36, 37⟩ ⟨false, false, true, true, true, true, false, true, false⟩) plansT 1000 60 9 [.sym 0] emptyH (fun r _ => Q.eqV r (.bool true)) = true := by kernel_rfl
theorem runSum34 : Q.callK Tryz.prog (intFacts ⟨35, 36, 37⟩ ⟨false, true, false, false, false, false, false, true, false⟩) plansT 1000 60 9 [.sym 0] emptyH (fun r _ => Q.eqV r (.bool true)) = true := by kernel_rfl
theorem runSum35 : Q.callK Tryz.prog (intFacts ⟨35, 36, 37⟩ ⟨false, true, false, false, false, false, false, true, true⟩) plansT 1000 60 9 [.sym 0] emptyH (fun r _ => Q.eqV r (.bool true)) = true := by kernel_rfl
theorem runSum36 : Q.callK Tryz.prog (intFacts ⟨35, 36, 37⟩ ⟨false, true, false, false, false, true, false, true, false⟩) plansT 1000 60 9 [.sym 0] emptyH (fun r _ => Q.eqV r (.bool true)) = true := by kernel_rfl
theorem runSum37 : Q.callK Tryz.prog (intFacts ⟨35, 36, 37⟩ ⟨false, true, false, false, false, true, false, true, true⟩) plansT 1000 60 9 [.sym 0] emptyH (fun r _ => Q.eqV r (.bool true)) = true := by kernel_rfl
theorem runSum38 : Q.callK Tryz.prog (intFacts ⟨35, 36, 37⟩ ⟨false, true, false, false, true, false, false, true, false⟩) plansT 1000 60 9 [.sym 0] emptyH (fun r _ => Q.eqV r (.bool true)) = true := by kernel_rfl
theorem runSum39 : Q.callK Tryz.prog (intFacts ⟨35, 36, 37⟩ ⟨false, true, false, false, true, false, false, true, true⟩) plansT 1000 60 9 [.sym 0] emptyH (fun r _ => Q.eqV r (.bool true)) = true := by kernel_rfl
theorem runSum40 : Q.callK Tryz.prog (intFacts ⟨35, 36, 37⟩ ⟨false, true, false, false, true, true, false, true, false⟩) plansT 1000 60 9 [.sym 0] emptyH (fun r _ => Q.eqV r (.bool true)) = true := by kernel_rfl
theorem runSum41 : Q.callK Tryz.prog (intFacts ⟨35, 36, 37⟩ ⟨false, true, false, false, true, true, false, true, true⟩) plansT 1000 60 9 [.sym 0] emptyH (fun r _ => Q.eqV r (.bool true)) = true := by kernel_rfl
theorem runSum42 : Q.callK Tryz.prog (intFacts ⟨35, 36, 37⟩ ⟨false, true, false, true, false, false, false, true, false⟩) plansT 1000 60 9 [.sym 0] emptyH (fun r _ => Q.eqV r (.bool true)) = true := by kernel_rfl
theorem runSum43 : Q.callK Tryz.prog (intFacts ⟨35, 36, 37⟩ ⟨false, true, false, true, false, false, false, true, true⟩) plansT 1000 60 9 [.sym 0] emptyH (fun r _ => Q.eqV r (.bool true)) = true := by kernel_rfl
theorem runSum44 : Q.callK Tryz.prog (intFacts ⟨35, 36, 37⟩ ⟨false, true, false, true, false, true, false, true, false⟩) plansT 1000 60 9 [.sym 0] emptyH (fun r _ => Q.eqV r (.bool true)) = true := by kernel_rfl
theorem runSum45 : Q.callK Tryz.prog (intFacts ⟨35, 36, 37⟩ ⟨false, true, false, true, false, true, false, true, true⟩) plansT 1000 60 9 [.sym 0] emptyH (fun r _ => Q.eqV r (.bool true)) = true := by kernel_rfl
theorem runSum46 : Q.callK Tryz.prog (intFacts ⟨35, 36, 37⟩ ⟨false, true, false, true, true, false, false, true, false⟩) plansT 1000 60 9 [.sym 0] emptyH (fun r _ => Q.eqV r (.bool true)) = true := by kernel_rfl
theorem runSum47 : Q.callK Tryz.prog (intFacts ⟨35, 36, 37⟩ ⟨false, true, false, true, true, false, false, true, true⟩) plansT 1000 60 9 [.sym 0] emptyH (fun r _ => Q.eqV r (.bool true)) = true := by kernel_rfl
theorem runSum48 : Q.callK Tryz.prog (intFacts ⟨35, 36, 37⟩ ⟨false, true, false, true, true, true, false, true, false⟩) plansT 1000 60 9 [.sym 0] emptyH (fun r _ => Q.eqV r (.bool true)) = true := by kernel_rfl
theorem runSum49 : Q.callK Tryz.prog (intFacts ⟨35, 36, 37⟩ ⟨false, true, false, true, true, true, false, true, true⟩) plansT 1000 60 9 [.sym 0] emptyH (fun r _ => Q.eqV r (.bool true)) = true := by kernel_rfl
theorem runSum50 : Q.callK Tryz.prog (intFacts ⟨35, 36, 37⟩ ⟨true, false, false, false, false, true, false, true, false⟩) plansT 1000 60 9 [.sym 0] emptyH (fun r _ => Q.eqV r (.bool true)) = true := by kernel_rfl
end Go.Ev
