/- The kernel's runs of the law FnRunsQuotient: one for each case of the drawn integers, part 0. -/
import Derived.Test.YtdbaglgkbfjbnaaGreatProg
import Derived.KernelRfl
import Derived.Test.YtdbaglgkbfjbnaaGreatEvP
import Derived.Test.YtdbaglgkbfjbnaaGreatIntFacts

set_option linter.unusedVariables false
set_option maxRecDepth 100000
namespace Go.Ev
open Go.Proofs
theorem runQuotient0 : Q.callK Tryz.prog (intFacts ⟨41, 42, 43⟩ ⟨false, true, true, false, false, false, false, false, true⟩) plansT 1000 60 11 [.sym 0] emptyH (fun r _ => Q.eqV r (.bool true)) = true := by kernel_rfl
theorem runQuotient1 : Q.callK Tryz.prog (intFacts ⟨41, 42, 43⟩ ⟨false, true, true, false, true, false, true, false, false⟩) plansT 1000 60 11 [.sym 0] emptyH (fun r _ => Q.eqV r (.bool true)) = true := by kernel_rfl
theorem runQuotient2 : Q.callK Tryz.prog (intFacts ⟨41, 42, 43⟩ ⟨false, true, true, true, false, true, false, false, true⟩) plansT 1000 60 11 [.sym 0] emptyH (fun r _ => Q.eqV r (.bool true)) = true := by kernel_rfl
theorem runQuotient3 : Q.callK Tryz.prog (intFacts ⟨41, 42, 43⟩ ⟨false, false, false, false, false, false, false, true, false⟩) plansT 1000 60 11 [.sym 0] emptyH (fun r _ => Q.eqV r (.bool true)) = true := by kernel_rfl
theorem runQuotient4 : Q.callK Tryz.prog (intFacts ⟨41, 42, 43⟩ ⟨false, false, false, false, false, false, false, true, true⟩) plansT 1000 60 11 [.sym 0] emptyH (fun r _ => Q.eqV r (.bool true)) = true := by kernel_rfl
theorem runQuotient5 : Q.callK Tryz.prog (intFacts ⟨41, 42, 43⟩ ⟨false, false, false, false, false, true, false, true, false⟩) plansT 1000 60 11 [.sym 0] emptyH (fun r _ => Q.eqV r (.bool true)) = true := by kernel_rfl
theorem runQuotient6 : Q.callK Tryz.prog (intFacts ⟨41, 42, 43⟩ ⟨false, false, false, false, false, true, false, true, true⟩) plansT 1000 60 11 [.sym 0] emptyH (fun r _ => Q.eqV r (.bool true)) = true := by kernel_rfl
theorem runQuotient7 : Q.callK Tryz.prog (intFacts ⟨41, 42, 43⟩ ⟨false, false, false, false, true, false, false, true, false⟩) plansT 1000 60 11 [.sym 0] emptyH (fun r _ => Q.eqV r (.bool true)) = true := by kernel_rfl
theorem runQuotient8 : Q.callK Tryz.prog (intFacts ⟨41, 42, 43⟩ ⟨false, false, false, false, true, false, false, true, true⟩) plansT 1000 60 11 [.sym 0] emptyH (fun r _ => Q.eqV r (.bool true)) = true := by kernel_rfl
theorem runQuotient9 : Q.callK Tryz.prog (intFacts ⟨41, 42, 43⟩ ⟨false, false, false, false, true, true, false, true, false⟩) plansT 1000 60 11 [.sym 0] emptyH (fun r _ => Q.eqV r (.bool true)) = true := by kernel_rfl
theorem runQuotient10 : Q.callK Tryz.prog (intFacts ⟨41, 42, 43⟩ ⟨false, false, false, false, true, true, false, true, true⟩) plansT 1000 60 11 [.sym 0] emptyH (fun r _ => Q.eqV r (.bool true)) = true := by kernel_rfl
theorem runQuotient11 : Q.callK Tryz.prog (intFacts ⟨41, 42, 43⟩ ⟨false, false, false, true, false, false, false, true, false⟩) plansT 1000 60 11 [.sym 0] emptyH (fun r _ => Q.eqV r (.bool true)) = true := by kernel_rfl
theorem runQuotient12 : Q.callK Tryz.prog (intFacts ⟨41, 42, 43⟩ ⟨false, false, false, true, false, false, false, true, true⟩) plansT 1000 60 11 [.sym 0] emptyH (fun r _ => Q.eqV r (.bool true)) = true := by kernel_rfl
theorem runQuotient13 : Q.callK Tryz.prog (intFacts ⟨41, 42, 43⟩ ⟨false, false, false, true, false, true, false, true, false⟩) plansT 1000 60 11 [.sym 0] emptyH (fun r _ => Q.eqV r (.bool true)) = true := by kernel_rfl
theorem runQuotient14 : Q.callK Tryz.prog (intFacts ⟨41, 42, 43⟩ ⟨false, false, false, true, false, true, false, true, true⟩) plansT 1000 60 11 [.sym 0] emptyH (fun r _ => Q.eqV r (.bool true)) = true := by kernel_rfl
theorem runQuotient15 : Q.callK Tryz.prog (intFacts ⟨41, 42, 43⟩ ⟨false, false, false, true, true, false, false, true, false⟩) plansT 1000 60 11 [.sym 0] emptyH (fun r _ => Q.eqV r (.bool true)) = true := by kernel_rfl
theorem runQuotient16 : Q.callK Tryz.prog (intFacts ⟨41, 42, 43⟩ ⟨false, false, false, true, true, false, false, true, true⟩) plansT 1000 60 11 [.sym 0] emptyH (fun r _ => Q.eqV r (.bool true)) = true := by kernel_rfl
theorem runQuotient17 : Q.callK Tryz.prog (intFacts ⟨41, 42, 43⟩ ⟨false, false, false, true, true, true, false, true, false⟩) plansT 1000 60 11 [.sym 0] emptyH (fun r _ => Q.eqV r (.bool true)) = true := by kernel_rfl
theorem runQuotient18 : Q.callK Tryz.prog (intFacts ⟨41, 42, 43⟩ ⟨false, false, false, true, true, true, false, true, true⟩) plansT 1000 60 11 [.sym 0] emptyH (fun r _ => Q.eqV r (.bool true)) = true := by kernel_rfl
theorem runQuotient19 : Q.callK Tryz.prog (intFacts ⟨41, 42, 43⟩ ⟨false, false, true, false, false, false, false, true, false⟩) plansT 1000 60 11 [.sym 0] emptyH (fun r _ => Q.eqV r (.bool true)) = true := by kernel_rfl
theorem runQuotient20 : Q.callK Tryz.prog (intFacts ⟨41, 42, 43⟩ ⟨false, false, true, false, false, false, false, true, true⟩) plansT 1000 60 11 [.sym 0] emptyH (fun r _ => Q.eqV r (.bool true)) = true := by kernel_rfl
theorem runQuotient21 : Q.callK Tryz.prog (intFacts ⟨41, 42, 43⟩ ⟨false, false, true, false, false, true, false, true, false⟩) plansT 1000 60 11 [.sym 0] emptyH (fun r _ => Q.eqV r (.bool true)) = true := by kernel_rfl
theorem runQuotient22 : Q.callK Tryz.prog (intFacts ⟨41, 42, 43⟩ ⟨false, false, true, false, false, true, false, true, true⟩) plansT 1000 60 11 [.sym 0] emptyH (fun r _ => Q.eqV r (.bool true)) = true := by kernel_rfl
theorem runQuotient23 : Q.callK Tryz.prog (intFacts ⟨41, 42, 43⟩ ⟨false, false, true, false, true, false, false, true, false⟩) plansT 1000 60 11 [.sym 0] emptyH (fun r _ => Q.eqV r (.bool true)) = true := by kernel_rfl
theorem runQuotient24 : Q.callK Tryz.prog (intFacts ⟨41, 42, 43⟩ ⟨false, false, true, false, true, true, false, true, false⟩) plansT 1000 60 11 [.sym 0] emptyH (fun r _ => Q.eqV r (.bool true)) = true := by kernel_rfl
theorem runQuotient25 : Q.callK Tryz.prog (intFacts ⟨41, 42, 43⟩ ⟨false, false, true, true, false, false, false, true, false⟩) plansT 1000 60 11 [.sym 0] emptyH (fun r _ => Q.eqV r (.bool true)) = true := by kernel_rfl
theorem runQuotient26 : Q.callK Tryz.prog (intFacts ⟨41, 42, 43⟩ ⟨false, false, true, true, false, false, false, true, true⟩) plansT 1000 60 11 [.sym 0] emptyH (fun r _ => Q.eqV r (.bool true)) = true := by kernel_rfl
theorem runQuotient27 : Q.callK Tryz.prog (intFacts ⟨41, 42, 43⟩ ⟨false, false, true, true, false, true, false, true, false⟩) plansT 1000 60 11 [.sym 0] emptyH (fun r _ => Q.eqV r (.bool true)) = true := by kernel_rfl
theorem runQuotient28 : Q.callK Tryz.prog (intFacts ⟨41, 42, 43⟩ ⟨false, false, true, true, false, true, false, true, true⟩) plansT 1000 60 11 [.sym 0] emptyH (fun r _ => Q.eqV r (.bool true)) = true := by kernel_rfl
theorem runQuotient29 : Q.callK Tryz.prog (intFacts ⟨41, 42, 43⟩ ⟨false, false, true, true, true, false, false, true, false⟩) plansT 1000 60 11 [.sym 0] emptyH (fun r _ => Q.eqV r (.bool true)) = true := by kernel_rfl
theorem runQuotient30 : Q.callK Tryz.prog (intFacts ⟨41, 42, 43⟩ ⟨false, false, true, true, true, true, false, true, false⟩) plansT 1000 60 11 [.sym 0] emptyH (fun r _ => Q.eqV r (.bool true)) = true := by kernel_rfl
theorem runQuotient31 : Q.callK Tryz.prog (intFacts ⟨41, 42, 43⟩ ⟨false, true, false, false, false, false, false, true, false⟩) plansT 1000 60 11 [.sym 0] emptyH (fun r _ => Q.eqV r (.bool true)) = true := by kernel_rfl
theorem runQuotient32 : Q.callK Tryz.prog (intFacts ⟨41, 42, 43⟩ ⟨false, true, false, false, false, false, false, true, true⟩) plansT 1000 60 11 [.sym 0] emptyH (fun r _ => Q.eqV r (.bool true)) = true := by kernel_rfl
theorem runQuotient33 : Q.callK Tryz.prog (intFacts ⟨41, 42, 43⟩ ⟨false, true, false, false, false, true, false, true, false⟩) plansT 1000 60 11 [.sym 0] emptyH (fun r _ => Q.eqV r (.bool true)) = true := by kernel_rfl
theorem runQuotient34 : Q.callK Tryz.prog (intFacts ⟨41, 42, 43⟩ ⟨false, true, false, false, false, true, false, true, true⟩) plansT 1000 60 11 [.sym 0] emptyH (fun r _ => Q.eqV r (.bool true)) = true := by kernel_rfl
theorem runQuotient35 : Q.callK Tryz.prog (intFacts ⟨41, 42, 43⟩ ⟨false, true, false, false, true, false, false, true, false⟩) plansT 1000 60 11 [.sym 0] emptyH (fun r _ => Q.eqV r (.bool true)) = true := by kernel_rfl
theorem runQuotient36 : Q.callK Tryz.prog (intFacts ⟨41, 42, 43⟩ ⟨false, true, false, false, true, false, false, true, true⟩) plansT 1000 60 11 [.sym 0] emptyH (fun r _ => Q.eqV r (.bool true)) = true := by kernel_rfl
theorem runQuotient37 : Q.callK Tryz.prog (intFacts ⟨41, 42, 43⟩ ⟨false, true, false, false, true, true, false, true, false⟩) plansT 1000 60 11 [.sym 0] emptyH (fun r _ => Q.eqV r (.bool true)) = true := by kernel_rfl
theorem runQuotient38 : Q.callK Tryz.prog (intFacts ⟨41, 42, 43⟩ ⟨false, true, false, false, true, true, false, true, true⟩) plansT 1000 60 11 [.sym 0] emptyH (fun r _ => Q.eqV r (.bool true)) = true := by kernel_rfl
theorem runQuotient39 : Q.callK Tryz.prog (intFacts ⟨41, 42, 43⟩ ⟨false, true, false, true, false, false, false, true, false⟩) plansT 1000 60 11 [.sym 0] emptyH (fun r _ => Q.eqV r (.bool true)) = true := by kernel_rfl
theorem runQuotient40 : Q.callK Tryz.prog (intFacts ⟨41, 42, 43⟩ ⟨false, true, false, true, false, false, false, true, true⟩) plansT 1000 60 11 [.sym 0] emptyH (fun r _ => Q.eqV r (.bool true)) = true := by kernel_rfl
theorem runQuotient41 : Q.callK Tryz.prog (intFacts ⟨41, 42, 43⟩ ⟨false, true, false, true, false, true, false, true, false⟩) plansT 1000 60 11 [.sym 0] emptyH (fun r _ => Q.eqV r (.bool true)) = true := by kernel_rfl
theorem runQuotient42 : Q.callK Tryz.prog (intFacts ⟨41, 42, 43⟩ ⟨false, true, false, true, false, true, false, true, true⟩) plansT 1000 60 11 [.sym 0] emptyH (fun r _ => Q.eqV r (.bool true)) = true := by kernel_rfl
theorem runQuotient43 : Q.callK Tryz.prog (intFacts ⟨41, 42, 43⟩ ⟨false, true, false, true, true, false, false, true, false⟩) plansT 1000 60 11 [.sym 0] emptyH (fun r _ => Q.eqV r (.bool true)) = true := by kernel_rfl
theorem runQuotient44 : Q.callK Tryz.prog (intFacts ⟨41, 42, 43⟩ ⟨false, true, false, true, true, false, false, true, true⟩) plansT 1000 60 11 [.sym 0] emptyH (fun r _ => Q.eqV r (.bool true)) = true := by kernel_rfl
theorem runQuotient45 : Q.callK Tryz.prog (intFacts ⟨41, 42, 43⟩ ⟨false, true, false, true, true, true, false, true, false⟩) plansT 1000 60 11 [.sym 0] emptyH (fun r _ => Q.eqV r (.bool true)) = true := by kernel_rfl
theorem runQuotient46 : Q.callK Tryz.prog (intFacts ⟨41, 42, 43⟩ ⟨false, true, false, true, true, true, false, true, true⟩) plansT 1000 60 11 [.sym 0] emptyH (fun r _ => Q.eqV r (.bool true)) = true := by kernel_rfl
theorem runQuotient47 : Q.callK Tryz.prog (intFacts ⟨41, 42, 43⟩ ⟨true, false, false, false, false, true, false, true, false⟩) plansT 1000 60 11 [.sym 0] emptyH (fun r _ => Q.eqV r (.bool true)) = true := by kernel_rfl
end Go.Ev
