/- The kernel's runs of the law FnRunsAt: one for each drawn index and each case of the drawn text, part 1. -/
import Derived.Test.YtdbaglgkbfjbnaaGreatProg
import Derived.KernelRfl
import Derived.Test.YtdbaglgkbfjbnaaGreatEvP
import Derived.Test.YtdbaglgkbfjbnaaGreatAtFacts
import Derived.Test.YtdbaglgkbfjbnaaGreatEvW

set_option linter.unusedVariables false
set_option maxRecDepth 100000
namespace Go.Ev
open Go.Proofs
theorem atRun40 : Q.callK Tryz.prog (atFacts (-5) ⟨false, false, false⟩) plansT 1000 60 6 [.sym 0] emptyH (fun r _ => Q.eqV r (.bool true)) = true := by kernel_rfl
theorem atRun41 : Q.callK Tryz.prog (atFacts (-5) ⟨false, false, true⟩) plansT 1000 60 6 [.sym 0] emptyH (fun r _ => Q.eqV r (.bool true)) = true := by kernel_rfl
theorem atRun42 : Q.callK Tryz.prog (atFacts (-5) ⟨false, true, false⟩) plansT 1000 60 6 [.sym 0] emptyH (fun r _ => Q.eqV r (.bool true)) = true := by kernel_rfl
theorem atRun43 : Q.callK Tryz.prog (atFacts (-5) ⟨false, true, true⟩) plansT 1000 60 6 [.sym 0] emptyH (fun r _ => Q.eqV r (.bool true)) = true := by kernel_rfl
theorem atRun44 : Q.callK Tryz.prog (atFacts (-5) ⟨true, false, false⟩) plansT 1000 60 6 [.sym 0] emptyH (fun r _ => Q.eqV r (.bool true)) = true := by kernel_rfl
theorem atRun45 : Q.callK Tryz.prog (atFacts (-5) ⟨true, false, true⟩) plansT 1000 60 6 [.sym 0] emptyH (fun r _ => Q.eqV r (.bool true)) = true := by kernel_rfl
theorem atRun46 : Q.callK Tryz.prog (atFacts (-5) ⟨true, true, false⟩) plansT 1000 60 6 [.sym 0] emptyH (fun r _ => Q.eqV r (.bool true)) = true := by kernel_rfl
theorem atRun47 : Q.callK Tryz.prog (atFacts (-5) ⟨true, true, true⟩) plansT 1000 60 6 [.sym 0] emptyH (fun r _ => Q.eqV r (.bool true)) = true := by kernel_rfl
theorem atRun48 : Q.callK Tryz.prog (atFacts (-4) ⟨false, false, false⟩) plansT 1000 60 6 [.sym 0] emptyH (fun r _ => Q.eqV r (.bool true)) = true := by kernel_rfl
theorem atRun49 : Q.callK Tryz.prog (atFacts (-4) ⟨false, false, true⟩) plansT 1000 60 6 [.sym 0] emptyH (fun r _ => Q.eqV r (.bool true)) = true := by kernel_rfl
theorem atRun50 : Q.callK Tryz.prog (atFacts (-4) ⟨false, true, false⟩) plansT 1000 60 6 [.sym 0] emptyH (fun r _ => Q.eqV r (.bool true)) = true := by kernel_rfl
theorem atRun51 : Q.callK Tryz.prog (atFacts (-4) ⟨false, true, true⟩) plansT 1000 60 6 [.sym 0] emptyH (fun r _ => Q.eqV r (.bool true)) = true := by kernel_rfl
theorem atRun52 : Q.callK Tryz.prog (atFacts (-4) ⟨true, false, false⟩) plansT 1000 60 6 [.sym 0] emptyH (fun r _ => Q.eqV r (.bool true)) = true := by kernel_rfl
theorem atRun53 : Q.callK Tryz.prog (atFacts (-4) ⟨true, false, true⟩) plansT 1000 60 6 [.sym 0] emptyH (fun r _ => Q.eqV r (.bool true)) = true := by kernel_rfl
theorem atRun54 : Q.callK Tryz.prog (atFacts (-4) ⟨true, true, false⟩) plansT 1000 60 6 [.sym 0] emptyH (fun r _ => Q.eqV r (.bool true)) = true := by kernel_rfl
theorem atRun55 : Q.callK Tryz.prog (atFacts (-4) ⟨true, true, true⟩) plansT 1000 60 6 [.sym 0] emptyH (fun r _ => Q.eqV r (.bool true)) = true := by kernel_rfl
theorem atRun56 : Q.callK Tryz.prog (atFacts (-3) ⟨false, false, false⟩) plansT 1000 60 6 [.sym 0] emptyH (fun r _ => Q.eqV r (.bool true)) = true := by kernel_rfl
theorem atRun57 : Q.callK Tryz.prog (atFacts (-3) ⟨false, false, true⟩) plansT 1000 60 6 [.sym 0] emptyH (fun r _ => Q.eqV r (.bool true)) = true := by kernel_rfl
theorem atRun58 : Q.callK Tryz.prog (atFacts (-3) ⟨false, true, false⟩) plansT 1000 60 6 [.sym 0] emptyH (fun r _ => Q.eqV r (.bool true)) = true := by kernel_rfl
theorem atRun59 : Q.callK Tryz.prog (atFacts (-3) ⟨false, true, true⟩) plansT 1000 60 6 [.sym 0] emptyH (fun r _ => Q.eqV r (.bool true)) = true := by kernel_rfl
theorem atRun60 : Q.callK Tryz.prog (atFacts (-3) ⟨true, false, false⟩) plansT 1000 60 6 [.sym 0] emptyH (fun r _ => Q.eqV r (.bool true)) = true := by kernel_rfl
theorem atRun61 : Q.callK Tryz.prog (atFacts (-3) ⟨true, false, true⟩) plansT 1000 60 6 [.sym 0] emptyH (fun r _ => Q.eqV r (.bool true)) = true := by kernel_rfl
theorem atRun62 : Q.callK Tryz.prog (atFacts (-3) ⟨true, true, false⟩) plansT 1000 60 6 [.sym 0] emptyH (fun r _ => Q.eqV r (.bool true)) = true := by kernel_rfl
theorem atRun63 : Q.callK Tryz.prog (atFacts (-3) ⟨true, true, true⟩) plansT 1000 60 6 [.sym 0] emptyH (fun r _ => Q.eqV r (.bool true)) = true := by kernel_rfl
theorem atRun64 : Q.callK Tryz.prog (atFacts (-2) ⟨false, false, false⟩) plansT 1000 60 6 [.sym 0] emptyH (fun r _ => Q.eqV r (.bool true)) = true := by kernel_rfl
theorem atRun65 : Q.callK Tryz.prog (atFacts (-2) ⟨false, false, true⟩) plansT 1000 60 6 [.sym 0] emptyH (fun r _ => Q.eqV r (.bool true)) = true := by kernel_rfl
theorem atRun66 : Q.callK Tryz.prog (atFacts (-2) ⟨false, true, false⟩) plansT 1000 60 6 [.sym 0] emptyH (fun r _ => Q.eqV r (.bool true)) = true := by kernel_rfl
theorem atRun67 : Q.callK Tryz.prog (atFacts (-2) ⟨false, true, true⟩) plansT 1000 60 6 [.sym 0] emptyH (fun r _ => Q.eqV r (.bool true)) = true := by kernel_rfl
theorem atRun68 : Q.callK Tryz.prog (atFacts (-2) ⟨true, false, false⟩) plansT 1000 60 6 [.sym 0] emptyH (fun r _ => Q.eqV r (.bool true)) = true := by kernel_rfl
theorem atRun69 : Q.callK Tryz.prog (atFacts (-2) ⟨true, false, true⟩) plansT 1000 60 6 [.sym 0] emptyH (fun r _ => Q.eqV r (.bool true)) = true := by kernel_rfl
theorem atRun70 : Q.callK Tryz.prog (atFacts (-2) ⟨true, true, false⟩) plansT 1000 60 6 [.sym 0] emptyH (fun r _ => Q.eqV r (.bool true)) = true := by kernel_rfl
theorem atRun71 : Q.callK Tryz.prog (atFacts (-2) ⟨true, true, true⟩) plansT 1000 60 6 [.sym 0] emptyH (fun r _ => Q.eqV r (.bool true)) = true := by kernel_rfl
theorem atRun72 : Q.callK Tryz.prog (atFacts (-1) ⟨false, false, false⟩) plansT 1000 60 6 [.sym 0] emptyH (fun r _ => Q.eqV r (.bool true)) = true := by kernel_rfl
theorem atRun73 : Q.callK Tryz.prog (atFacts (-1) ⟨false, false, true⟩) plansT 1000 60 6 [.sym 0] emptyH (fun r _ => Q.eqV r (.bool true)) = true := by kernel_rfl
theorem atRun74 : Q.callK Tryz.prog (atFacts (-1) ⟨false, true, false⟩) plansT 1000 60 6 [.sym 0] emptyH (fun r _ => Q.eqV r (.bool true)) = true := by kernel_rfl
theorem atRun75 : Q.callK Tryz.prog (atFacts (-1) ⟨false, true, true⟩) plansT 1000 60 6 [.sym 0] emptyH (fun r _ => Q.eqV r (.bool true)) = true := by kernel_rfl
theorem atRun76 : Q.callK Tryz.prog (atFacts (-1) ⟨true, false, false⟩) plansT 1000 60 6 [.sym 0] emptyH (fun r _ => Q.eqV r (.bool true)) = true := by kernel_rfl
theorem atRun77 : Q.callK Tryz.prog (atFacts (-1) ⟨true, false, true⟩) plansT 1000 60 6 [.sym 0] emptyH (fun r _ => Q.eqV r (.bool true)) = true := by kernel_rfl
theorem atRun78 : Q.callK Tryz.prog (atFacts (-1) ⟨true, true, false⟩) plansT 1000 60 6 [.sym 0] emptyH (fun r _ => Q.eqV r (.bool true)) = true := by kernel_rfl
theorem atRun79 : Q.callK Tryz.prog (atFacts (-1) ⟨true, true, true⟩) plansT 1000 60 6 [.sym 0] emptyH (fun r _ => Q.eqV r (.bool true)) = true := by kernel_rfl
end Go.Ev
