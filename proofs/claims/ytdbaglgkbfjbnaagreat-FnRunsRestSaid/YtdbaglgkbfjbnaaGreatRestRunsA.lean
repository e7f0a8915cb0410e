/- The kernel's runs of the law FnRunsRest: one for each case of the drawn integers, part 0. -/
import Derived.Test.YtdbaglgkbfjbnaaGreatProg
import Derived.KernelRfl
import Derived.Test.YtdbaglgkbfjbnaaGreatEvP
import Derived.Test.YtdbaglgkbfjbnaaGreatIntFacts

set_option linter.unusedVariables false
set_option maxRecDepth 100000
namespace Go.Ev
open Go.Proofs
theorem runRest0 : Q.callK Tryz.prog (intFacts ⟨45, 46, 47⟩ ⟨false, true, true, false, false, false, false, false, true⟩) plansT 1000 60 12 [.sym 0] emptyH (fun r _ => Q.eqV r (.bool true)) = true := by kernel_rfl
theorem runRest1 : Q.callK Tryz.prog (intFacts ⟨45, 46, 47⟩ ⟨false, true, true, false, true, false, true, false, false⟩) plansT 1000 60 12 [.sym 0] emptyH (fun r _ => Q.eqV r (.bool true)) = true := by kernel_rfl
theorem runRest2 : Q.callK Tryz.prog (intFacts ⟨45, 46, 47⟩ ⟨false, true, true, true, false, true, false, false, true⟩) plansT 1000 60 12 [.sym 0] emptyH (fun r _ => Q.eqV r (.bool true)) = true := by kernel_rfl
theorem runRest3 : Q.callK Tryz.prog (intFacts ⟨45, 46, 47⟩ ⟨false, false, false, false, false, false, false, true, false⟩) plansT 1000 60 12 [.sym 0] emptyH (fun r _ => Q.eqV r (.bool true)) = true := by kernel_rfl
theorem runRest4 : Q.callK Tryz.prog (intFacts ⟨45, 46, 47⟩ ⟨false, false, false, false, false, false, false, true, true⟩) plansT 1000 60 12 [.sym 0] emptyH (fun r _ => Q.eqV r (.bool true)) = true := by kernel_rfl
theorem runRest5 : Q.callK Tryz.prog (intFacts ⟨45, 46, 47⟩ ⟨false, false, false, false, false, true, false, true, false⟩) plansT 1000 60 12 [.sym 0] emptyH (fun r _ => Q.eqV r (.bool true)) = true := by kernel_rfl
theorem runRest6 : Q.callK Tryz.prog (intFacts ⟨45, 46, 47⟩ ⟨false, false, false, false, false, true, false, true, true⟩) plansT 1000 60 12 [.sym 0] emptyH (fun r _ => Q.eqV r (.bool true)) = true := by kernel_rfl
theorem runRest7 : Q.callK Tryz.prog (intFacts ⟨45, 46, 47⟩ ⟨false, false, false, false, true, false, false, true, false⟩) plansT 1000 60 12 [.sym 0] emptyH (fun r _ => Q.eqV r (.bool true)) = true := by kernel_rfl
theorem runRest8 : Q.callK Tryz.prog (intFacts ⟨45, 46, 47⟩ ⟨false, false, false, false, true, false, false, true, true⟩) plansT 1000 60 12 [.sym 0] emptyH (fun r _ => Q.eqV r (.bool true)) = true := by kernel_rfl
theorem runRest9 : Q.callK Tryz.prog (intFacts ⟨45, 46, 47⟩ ⟨false, false, false, false, true, true, false, true, false⟩) plansT 1000 60 12 [.sym 0] emptyH (fun r _ => Q.eqV r (.bool true)) = true := by kernel_rfl
theorem runRest10 : Q.callK Tryz.prog (intFacts ⟨45, 46, 47⟩ ⟨false, false, false, false, true, true, false, true, true⟩) plansT 1000 60 12 [.sym 0] emptyH (fun r _ => Q.eqV r (.bool true)) = true := by kernel_rfl
theorem runRest11 : Q.callK Tryz.prog (intFacts ⟨45, 46, 47⟩ ⟨false, false, false, true, false, false, false, true, false⟩) plansT 1000 60 12 [.sym 0] emptyH (fun r _ => Q.eqV r (.bool true)) = true := by kernel_rfl
theorem runRest12 : Q.callK Tryz.prog (intFacts ⟨45, 46, 47⟩ ⟨false, false, false, true, false, false, false, true, true⟩) plansT 1000 60 12 [.sym 0] emptyH (fun r _ => Q.eqV r (.bool true)) = true := by kernel_rfl
theorem runRest13 : Q.callK Tryz.prog (intFacts ⟨45, 46, 47⟩ ⟨false, false, false, true, false, true, false, true, false⟩) plansT 1000 60 12 [.sym 0] emptyH (fun r _ => Q.eqV r (.bool true)) = true := by kernel_rfl
theorem runRest14 : Q.callK Tryz.prog (intFacts ⟨45, 46, 47⟩ ⟨false, false, false, true, false, true, false, true, true⟩) plansT 1000 60 12 [.sym 0] emptyH (fun r _ => Q.eqV r (.bool true)) = true := by kernel_rfl
theorem runRest15 : Q.callK Tryz.prog (intFacts ⟨45, 46, 47⟩ ⟨false, false, false, true, true, false, false, true, false⟩) plansT 1000 60 12 [.sym 0] emptyH (fun r _ => Q.eqV r (.bool true)) = true := by kernel_rfl
theorem runRest16 : Q.callK Tryz.prog (intFacts ⟨45, 46, 47⟩ ⟨false, false, false, true, true, false, false, true, true⟩) plansT 1000 60 12 [.sym 0] emptyH (fun r _ => Q.eqV r (.bool true)) = true := by kernel_rfl
theorem runRest17 : Q.callK Tryz.prog (intFacts ⟨45, 46, 47⟩ ⟨false, false, false, true, true, true, false, true, false⟩) plansT 1000 60 12 [.sym 0] emptyH (fun r _ => Q.eqV r (.bool true)) = true := by kernel_rfl
theorem runRest18 : Q.callK Tryz.prog (intFacts ⟨45, 46, 47⟩ ⟨false, false, false, true, true, true, false, true, true⟩) plansT 1000 60 12 [.sym 0] emptyH (fun r _ => Q.eqV r (.bool true)) = true := by kernel_rfl
theorem runRest19 : Q.callK Tryz.prog (intFacts ⟨45, 46, 47⟩ ⟨false, false, true, false, false, false, false, true, false⟩) plansT 1000 60 12 [.sym 0] emptyH (fun r _ => Q.eqV r (.bool true)) = true := by kernel_rfl
theorem runRest20 : Q.callK Tryz.prog (intFacts ⟨45, 46, 47⟩ ⟨false, false, true, false, false, false, false, true, true⟩) plansT 1000 60 12 [.sym 0] emptyH (fun r _ => Q.eqV r (.bool true)) = true := by kernel_rfl
theorem runRest21 : Q.callK Tryz.prog (intFacts ⟨45, 46, 47⟩ ⟨false, false, true, false, false, true, false, true, false⟩) plansT 1000 60 12 [.sym 0] emptyH (fun r _ => Q.eqV r (.bool true)) = true := by kernel_rfl
theorem runRest22 : Q.callK Tryz.prog (intFacts ⟨45, 46, 47⟩ ⟨false, false, true, false, false, true, false, true, true⟩) plansT 1000 60 12 [.sym 0] emptyH (fun r _ => Q.eqV r (.bool true)) = true := by kernel_rfl
theorem runRest23 : Q.callK Tryz.prog (intFacts ⟨45, 46, 47⟩ ⟨false, false, true, false, true, false, false, true, false⟩) plansT 1000 60 12 [.sym 0] emptyH (fun r _ => Q.eqV r (.bool true)) = true := by kernel_rfl
theorem runRest24 : Q.callK Tryz.prog (intFacts ⟨45, 46, 47⟩ ⟨false, false, true, false, true, true, false, true, false⟩) plansT 1000 60 12 [.sym 0] emptyH (fun r _ => Q.eqV r (.bool true)) = true := by kernel_rfl
theorem runRest25 : Q.callK Tryz.prog (intFacts ⟨45, 46, 47⟩ ⟨false, false, true, true, false, false, false, true, false⟩) plansT 1000 60 12 [.sym 0] emptyH (fun r _ => Q.eqV r (.bool true)) = true := by kernel_rfl
theorem runRest26 : Q.callK Tryz.prog (intFacts ⟨45, 46, 47⟩ ⟨false, false, true, true, false, false, false, true, true⟩) plansT 1000 60 12 [.sym 0] emptyH (fun r _ => Q.eqV r (.bool true)) = true := by kernel_rfl
theorem runRest27 : Q.callK Tryz.prog (intFacts ⟨45, 46, 47⟩ ⟨false, false, true, true, false, true, false, true, false⟩) plansT 1000 60 12 [.sym 0] emptyH (fun r _ => Q.eqV r (.bool true)) = true := by kernel_rfl
theorem runRest28 : Q.callK Tryz.prog (intFacts ⟨45, 46, 47⟩ ⟨false, false, true, true, false, true, false, true, true⟩) plansT 1000 60 12 [.sym 0] emptyH (fun r _ => Q.eqV r (.bool true)) = true := by kernel_rfl
theorem runRest29 : Q.callK Tryz.prog (intFacts ⟨45, 46, 47⟩ ⟨false, false, true, true, true, false, false, true, false⟩) plansT 1000 60 12 [.sym 0] emptyH (fun r _ => Q.eqV r (.bool true)) = true := by kernel_rfl
theorem runRest30 : Q.callK Tryz.prog (intFacts ⟨45, 46, 47⟩ ⟨false, false, true, true, true, true, false, true, false⟩) plansT 1000 60 12 [.sym 0] emptyH (fun r _ => Q.eqV r (.bool true)) = true := by kernel_rfl
theorem runRest31 : Q.callK Tryz.prog (intFacts ⟨45, 46, 47⟩ ⟨false, true, false, false, false, false, false, true, false⟩) plansT 1000 60 12 [.sym 0] emptyH (fun r _ => Q.eqV r (.bool true)) = true := by kernel_rfl
theorem runRest32 : Q.callK Tryz.prog (intFacts ⟨45, 46, 47⟩ ⟨false, true, false, false, false, false, false, true, true⟩) plansT 1000 60 12 [.sym 0] emptyH (fun r _ => Q.eqV r (.bool true)) = true := by kernel_rfl
theorem runRest33 : Q.callK Tryz.prog (intFacts ⟨45, 46, 47⟩ ⟨false, true, false, false, false, true, false, true, false⟩) plansT 1000 60 12 [.sym 0] emptyH (fun r _ => Q.eqV r (.bool true)) = true := by kernel_rfl
theorem runRest34 : Q.callK Tryz.prog (intFacts ⟨45, 46, 47⟩ ⟨false, true, false, false, false, true, false, true, true⟩) plansT 1000 60 12 [.sym 0] emptyH (fun r _ => Q.eqV r (.bool true)) = true := by kernel_rfl
theorem runRest35 : Q.callK Tryz.prog (intFacts ⟨45, 46, 47⟩ ⟨false, true, false, false, true, false, false, true, false⟩) plansT 1000 60 12 [.sym 0] emptyH (fun r _ => Q.eqV r (.bool true)) = true := by kernel_rfl
theorem runRest36 : Q.callK Tryz.prog (intFacts ⟨45, 46, 47⟩ ⟨false, true, false, false, true, false, false, true, true⟩) plansT 1000 60 12 [.sym 0] emptyH (fun r _ => Q.eqV r (.bool true)) = true := by kernel_rfl
theorem runRest37 : Q.callK Tryz.prog (intFacts ⟨45, 46, 47⟩ ⟨false, true, false, false, true, true, false, true, false⟩) plansT 1000 60 12 [.sym 0] emptyH (fun r _ => Q.eqV r (.bool true)) = true := by kernel_rfl
theorem runRest38 : Q.callK Tryz.prog (intFacts ⟨45, 46, 47⟩ ⟨false, true, false, false, true, true, false, true, true⟩) plansT 1000 60 12 [.sym 0] emptyH (fun r _ => Q.eqV r (.bool true)) = true := by kernel_rfl
theorem runRest39 : Q.callK Tryz.prog (intFacts ⟨45, 46, 47⟩ ⟨false, true, false, true, false, false, false, true, false⟩) plansT 1000 60 12 [.sym 0] emptyH (fun r _ => Q.eqV r (.bool true)) = true := by kernel_rfl
theorem runRest40 : Q.callK Tryz.prog (intFacts ⟨45, 46, 47⟩ ⟨false, true, false, true, false, false, false, true, true⟩) plansT 1000 60 12 [.sym 0] emptyH (fun r _ => Q.eqV r (.bool true)) = true := by kernel_rfl
theorem runRest41 : Q.callK Tryz.prog (intFacts ⟨45, 46, 47⟩ ⟨false, true, false, true, false, true, false, true, false⟩) plansT 1000 60 12 [.sym 0] emptyH (fun r _ => Q.eqV r (.bool true)) = true := by kernel_rfl
theorem runRest42 : Q.callK Tryz.prog (intFacts ⟨45, 46, 47⟩ ⟨false, true, false, true, false, true, false, true, true⟩) plansT 1000 60 12 [.sym 0] emptyH (fun r _ => Q.eqV r (.bool true)) = true := by kernel_rfl
theorem runRest43 : Q.callK Tryz.prog (intFacts ⟨45, 46, 47⟩ ⟨false, true, false, true, true, false, false, true, false⟩) plansT 1000 60 12 [.sym 0] emptyH (fun r _ => Q.eqV r (.bool true)) = true := by kernel_rfl
theorem runRest44 : Q.callK Tryz.prog (intFacts ⟨45, 46, 47⟩ ⟨false, true, false, true, true, false, false, true, true⟩) plansT 1000 60 12 [.sym 0] emptyH (fun r _ => Q.eqV r (.bool true)) = true := by kernel_rfl
theorem runRest45 : Q.callK Tryz.prog (intFacts ⟨45, 46, 47⟩ ⟨false, true, false, true, true, true, false, true, false⟩) plansT 1000 60 12 [.sym 0] emptyH (fun r _ => Q.eqV r (.bool true)) = true := by kernel_rfl
theorem runRest46 : Q.callK Tryz.prog (intFacts ⟨45, 46, 47⟩ ⟨false, true, false, true, true, true, false, true, true⟩) plansT 1000 60 12 [.sym 0] emptyH (fun r _ => Q.eqV r (.bool true)) = true := by kernel_rfl
theorem runRest47 : Q.callK Tryz.prog (intFacts ⟨45, 46, 47⟩ ⟨true, false, false, false, false, true, false, true, false⟩) plansT 1000 60 12 [.sym 0] emptyH (fun r _ => Q.eqV r (.bool true)) = true := by kernel_rfl
end Go.Ev
