/- The kernel's runs of the law FnRunsOrder: one for each case of the drawn integers, part 0. -/
import Derived.Test.YtdbaglgkbfjbnaaGreatProg
import Derived.KernelRfl
import Derived.Test.YtdbaglgkbfjbnaaGreatEvP
import Derived.Test.YtdbaglgkbfjbnaaGreatIntFacts

set_option linter.unusedVariables false
set_option maxRecDepth 100000
namespace Go.Ev
open Go.Proofs
theorem runOrder0 : Q.callK Tryz.prog (intFacts ⟨27, 28, 29⟩ ⟨false, true, true, false, false, false, true, false, false⟩) plansT 1000 60 7 [.sym 0] emptyH (fun r _ => Q.eqV r (.bool true)) = true := by kernel_rfl
theorem runOrder1 : Q.callK Tryz.prog (intFacts ⟨27, 28, 29⟩ ⟨false, true, true, false, false, true, true, false, false⟩) plansT 1000 60 7 [.sym 0] emptyH (fun r _ => Q.eqV r (.bool true)) = true := by kernel_rfl
theorem runOrder2 : Q.callK Tryz.prog (intFacts ⟨27, 28, 29⟩ ⟨false, true, true, false, true, false, true, false, false⟩) plansT 1000 60 7 [.sym 0] emptyH (fun r _ => Q.eqV r (.bool true)) = true := by kernel_rfl
theorem runOrder3 : Q.callK Tryz.prog (intFacts ⟨27, 28, 29⟩ ⟨false, true, true, true, false, false, true, false, false⟩) plansT 1000 60 7 [.sym 0] emptyH (fun r _ => Q.eqV r (.bool true)) = true := by kernel_rfl
theorem runOrder4 : Q.callK Tryz.prog (intFacts ⟨27, 28, 29⟩ ⟨false, true, true, true, false, true, true, false, false⟩) plansT 1000 60 7 [.sym 0] emptyH (fun r _ => Q.eqV r (.bool true)) = true := by kernel_rfl
theorem runOrder5 : Q.callK Tryz.prog (intFacts ⟨27, 28, 29⟩ ⟨false, true, true, true, true, false, true, false, false⟩) plansT 1000 60 7 [.sym 0] emptyH (fun r _ => Q.eqV r (.bool true)) = true := by kernel_rfl
theorem runOrder6 : Q.callK Tryz.prog (intFacts ⟨27, 28, 29⟩ ⟨false, false, false, false, false, false, true, false, false⟩) plansT 1000 60 7 [.sym 0] emptyH (fun r _ => Q.eqV r (.bool true)) = true := by kernel_rfl
theorem runOrder7 : Q.callK Tryz.prog (intFacts ⟨27, 28, 29⟩ ⟨false, false, false, false, false, false, true, false, true⟩) plansT 1000 60 7 [.sym 0] emptyH (fun r _ => Q.eqV r (.bool true)) = true := by kernel_rfl
theorem runOrder8 : Q.callK Tryz.prog (intFacts ⟨27, 28, 29⟩ ⟨false, false, false, false, false, false, true, true, false⟩) plansT 1000 60 7 [.sym 0] emptyH (fun r _ => Q.eqV r (.bool true)) = true := by kernel_rfl
theorem runOrder9 : Q.callK Tryz.prog (intFacts ⟨27, 28, 29⟩ ⟨false, false, false, false, false, false, true, true, true⟩) plansT 1000 60 7 [.sym 0] emptyH (fun r _ => Q.eqV r (.bool true)) = true := by kernel_rfl
theorem runOrder10 : Q.callK Tryz.prog (intFacts ⟨27, 28, 29⟩ ⟨false, false, false, false, false, true, true, false, false⟩) plansT 1000 60 7 [.sym 0] emptyH (fun r _ => Q.eqV r (.bool true)) = true := by kernel_rfl
theorem runOrder11 : Q.callK Tryz.prog (intFacts ⟨27, 28, 29⟩ ⟨false, false, false, false, false, true, true, false, true⟩) plansT 1000 60 7 [.sym 0] emptyH (fun r _ => Q.eqV r (.bool true)) = true := by kernel_rfl
theorem runOrder12 : Q.callK Tryz.prog (intFacts ⟨27, 28, 29⟩ ⟨false, false, false, false, false, true, true, true, false⟩) plansT 1000 60 7 [.sym 0] emptyH (fun r _ => Q.eqV r (.bool true)) = true := by kernel_rfl
theorem runOrder13 : Q.callK Tryz.prog (intFacts ⟨27, 28, 29⟩ ⟨false, false, false, false, false, true, true, true, true⟩) plansT 1000 60 7 [.sym 0] emptyH (fun r _ => Q.eqV r (.bool true)) = true := by kernel_rfl
theorem runOrder14 : Q.callK Tryz.prog (intFacts ⟨27, 28, 29⟩ ⟨false, false, false, false, true, false, true, false, false⟩) plansT 1000 60 7 [.sym 0] emptyH (fun r _ => Q.eqV r (.bool true)) = true := by kernel_rfl
theorem runOrder15 : Q.callK Tryz.prog (intFacts ⟨27, 28, 29⟩ ⟨false, false, false, false, true, false, true, false, true⟩) plansT 1000 60 7 [.sym 0] emptyH (fun r _ => Q.eqV r (.bool true)) = true := by kernel_rfl
theorem runOrder16 : Q.callK Tryz.prog (intFacts ⟨27, 28, 29⟩ ⟨false, false, false, false, true, false, true, true, false⟩) plansT 1000 60 7 [.sym 0] emptyH (fun r _ => Q.eqV r (.bool true)) = true := by kernel_rfl
theorem runOrder17 : Q.callK Tryz.prog (intFacts ⟨27, 28, 29⟩ ⟨false, false, false, false, true, false, true, true, true⟩) plansT 1000 60 7 [.sym 0] emptyH (fun r _ => Q.eqV r (.bool true)) = true := by kernel_rfl
theorem runOrder18 : Q.callK Tryz.prog (intFacts ⟨27, 28, 29⟩ ⟨false, false, false, false, true, true, true, false, false⟩) plansT 1000 60 7 [.sym 0] emptyH (fun r _ => Q.eqV r (.bool true)) = true := by kernel_rfl
theorem runOrder19 : Q.callK Tryz.prog (intFacts ⟨27, 28, 29⟩ ⟨false, false, false, false, true, true, true, false, true⟩) plansT 1000 60 7 [.sym 0] emptyH (fun r _ => Q.eqV r (.bool true)) = true := by kernel_rfl
theorem runOrder20 : Q.callK Tryz.prog (intFacts ⟨27, 28, 29⟩ ⟨false, false, false, false, true, true, true, true, false⟩) plansT 1000 60 7 [.sym 0] emptyH (fun r _ => Q.eqV r (.bool true)) = true := by kernel_rfl
theorem runOrder21 : Q.callK Tryz.prog (intFacts ⟨27, 28, 29⟩ ⟨false, false, false, false, true, true, true, true, true⟩) plansT 1000 60 7 [.sym 0] emptyH (fun r _ => Q.eqV r (.bool true)) = true := by kernel_rfl
theorem runOrder22 : Q.callK Tryz.prog (intFacts ⟨27, 28, 29⟩ ⟨false, false, false, true, false, false, true, false, false⟩) plansT 1000 60 7 [.sym 0] emptyH (fun r _ => Q.eqV r (.bool true)) = true := by kernel_rfl
theorem runOrder23 : Q.callK Tryz.prog (intFacts ⟨27, 28, 29⟩ ⟨false, false, false, true, false, false, true, false, true⟩) plansT 1000 60 7 [.sym 0] emptyH (fun r _ => Q.eqV r (.bool true)) = true := by kernel_rfl
theorem runOrder24 : Q.callK Tryz.prog (intFacts ⟨27, 28, 29⟩ ⟨false, false, false, true, false, false, true, true, false⟩) plansT 1000 60 7 [.sym 0] emptyH (fun r _ => Q.eqV r (.bool true)) = true := by kernel_rfl
theorem runOrder25 : Q.callK Tryz.prog (intFacts ⟨27, 28, 29⟩ ⟨false, false, false, true, false, false, true, true, true⟩) plansT 1000 60 7 [.sym 0] emptyH (fun r _ => Q.eqV r (.bool true)) = true := by kernel_rfl
theorem runOrder26 : Q.callK Tryz.prog (intFacts ⟨27, 28, 29⟩ ⟨false, false, false, true, false, true, true, false, false⟩) plansT 1000 60 7 [.sym 0] emptyH (fun r _ => Q.eqV r (.bool true)) = true := by kernel_rfl
theorem runOrder27 : Q.callK Tryz.prog (intFacts ⟨27, 28, 29⟩ ⟨false, false, false, true, false, true, true, false, true⟩) plansT 1000 60 7 [.sym 0] emptyH (fun r _ => Q.eqV r (.bool true)) = true := by kernel_rfl
theorem runOrder28 : Q.callK Tryz.prog (intFacts ⟨27, 28, 29⟩ ⟨false, false, false, true, false, true, true, true, false⟩) plansT 1000 60 7 [.sym 0] emptyH (fun r _ => Q.eqV r (.bool true)) = true := by kernel_rfl
theorem runOrder29 : Q.callK Tryz.prog (intFacts ⟨27, 28, 29⟩ ⟨false, false, false, true, false, true, true, true, true⟩) plansT 1000 60 7 [.sym 0] emptyH (fun r _ => Q.eqV r (.bool true)) = true := by kernel_rfl
theorem runOrder30 : Q.callK Tryz.prog (intFacts ⟨27, 28, 29⟩ ⟨false, false, false, true, true, false, true, false, false⟩) plansT 1000 60 7 [.sym 0] emptyH (fun r _ => Q.eqV r (.bool true)) = true := by kernel_rfl
theorem runOrder31 : Q.callK Tryz.prog (intFacts ⟨27, 28, 29⟩ ⟨false, false, false, true, true, false, true, false, true⟩) plansT 1000 60 7 [.sym 0] emptyH (fun r _ => Q.eqV r (.bool true)) = true := by kernel_rfl
theorem runOrder32 : Q.callK Tryz.prog (intFacts ⟨27, 28, 29⟩ ⟨false, false, false, true, true, false, true, true, false⟩) plansT 1000 60 7 [.sym 0] emptyH (fun r _ => Q.eqV r (.bool true)) = true := by kernel_rfl
theorem runOrder33 : Q.callK Tryz.prog (intFacts ⟨27, 28, 29⟩ ⟨false, false, false, true, true, false, true, true, true⟩) plansT 1000 60 7 [.sym 0] emptyH (fun r _ => Q.eqV r (.bool true)) = true := by kernel_rfl
theorem runOrder34 : Q.callK Tryz.prog (intFacts ⟨27, 28, 29⟩ ⟨false, false, false, true, true, true, true, false, false⟩) plansT 1000 60 7 [.sym 0] emptyH (fun r _ => Q.eqV r (.bool true)) = true := by kernel_rfl
theorem runOrder35 : Q.callK Tryz.prog (intFacts ⟨27, 28, 29⟩ ⟨false, false, false, true, true, true, true, false, true⟩) plansT 1000 60 7 [.sym 0] emptyH (fun r _ => Q.eqV r (.bool true)) = true := by kernel_rfl
theorem runOrder36 : Q.callK Tryz.prog (intFacts ⟨27, 28, 29⟩ ⟨false, false, false, true, true, true, true, true, false⟩) plansT 1000 60 7 [.sym 0] emptyH (fun r _ => Q.eqV r (.bool true)) = true := by kernel_rfl
theorem runOrder37 : Q.callK Tryz.prog (intFacts ⟨27, 28, 29⟩ ⟨false, false, false, true, true, true, true, true, true⟩) plansT 1000 60 7 [.sym 0] emptyH (fun r _ => Q.eqV r (.bool true)) = true := by kernel_rfl
theorem runOrder38 : Q.callK Tryz.prog (intFacts ⟨27, 28, 29⟩ ⟨false, false, true, false, false, false, true, false, false⟩) plansT 1000 60 7 [.sym 0] emptyH (fun r _ => Q.eqV r (.bool true)) = true := by kernel_rfl
theorem runOrder39 : Q.callK Tryz.prog (intFacts ⟨27, 28, 29⟩ ⟨false, false, true, false, false, false, true, false, true⟩) plansT 1000 60 7 [.sym 0] emptyH (fun r _ => Q.eqV r (.bool true)) = true := by kernel_rfl
theorem runOrder40 : Q.callK Tryz.prog (intFacts ⟨27, 28, 29⟩ ⟨false, false, true, false, false, false, true, true, false⟩) plansT 1000 60 7 [.sym 0] emptyH (fun r _ => Q.eqV r (.bool true)) = true := by kernel_rfl
theorem runOrder41 : Q.callK Tryz.prog (intFacts ⟨27, 28, 29⟩ ⟨false, false, true, false, false, false, true, true, true⟩) plansT 1000 60 7 [.sym 0] emptyH (fun r _ => Q.eqV r (.bool true)) = true := by kernel_rfl
theorem runOrder42 : Q.callK Tryz.prog (intFacts ⟨27, 28, 29⟩ ⟨false, false, true, false, false, true, true, false, false⟩) plansT 1000 60 7 [.sym 0] emptyH (fun r _ => Q.eqV r (.bool true)) = true := by kernel_rfl
theorem runOrder43 : Q.callK Tryz.prog (intFacts ⟨27, 28, 29⟩ ⟨false, false, true, false, false, true, true, false, true⟩) plansT 1000 60 7 [.sym 0] emptyH (fun r _ => Q.eqV r (.bool true)) = true := by kernel_rfl
theorem runOrder44 : Q.callK Tryz.prog (intFacts ⟨27, 28, 29⟩ ⟨false, false, true, false, false, true, true, true, false⟩) plansT 1000 60 7 [.sym 0] emptyH (fun r _ => Q.eqV r (.bool true)) = true := by kernel_rfl
theorem runOrder45 : Q.callK Tryz.prog (intFacts ⟨27, 28, 29⟩ ⟨false, false, true, false, false, true, true, true, true⟩) plansT 1000 60 7 [.sym 0] emptyH (fun r _ => Q.eqV r (.bool true)) = true := by kernel_rfl
theorem runOrder46 : Q.callK Tryz.prog (intFacts ⟨27, 28, 29⟩ ⟨false, false, true, false, true, false, true, false, false⟩) plansT 1000 60 7 [.sym 0] emptyH (fun r _ => Q.eqV r (.bool true)) = true := by kernel_rfl
theorem runOrder47 : Q.callK Tryz.prog (intFacts ⟨27, 28, 29⟩ ⟨false, false, true, false, true, false, true, true, false⟩) plansT 1000 60 7 [.sym 0] emptyH (fun r _ => Q.eqV r (.bool true)) = true := by kernel_rfl
theorem runOrder48 : Q.callK Tryz.prog (intFacts ⟨27, 28, 29⟩ ⟨false, false, true, false, true, true, true, false, false⟩) plansT 1000 60 7 [.sym 0] emptyH (fun r _ => Q.eqV r (.bool true)) = true := by kernel_rfl
theorem runOrder49 : Q.callK Tryz.prog (intFacts ⟨27, 28, 29⟩ ⟨false, false, true, false, true, true, true, true, false⟩) plansT 1000 60 7 [.sym 0] emptyH (fun r _ => Q.eqV r (.bool true)) = true := by kernel_rfl
theorem runOrder50 : Q.callK Tryz.prog (intFacts ⟨27, 28, 29⟩ ⟨false, false, true, true, false, false, true, false, false⟩) plansT 1000 60 7 [.sym 0] emptyH (fun r _ => Q.eqV r (.bool true)) = true := by kernel_rfl
theorem runOrder51 : Q.callK Tryz.prog (intFacts ⟨27, 28, 29⟩ ⟨false, false, true, true, false, false, true, false, true⟩) plansT 1000 60 7 [.sym 0] emptyH (fun r _ => Q.eqV r (.bool true)) = true := by kernel_rfl
theorem runOrder52 : Q.callK Tryz.prog (intFacts ⟨27, 28, 29⟩ ⟨false, false, true, true, false, false, true, true, false⟩) plansT 1000 60 7 [.sym 0] emptyH (fun r _ => Q.eqV r (.bool true)) = true := by kernel_rfl
theorem runOrder53 : Q.callK Tryz.prog (intFacts ⟨27, 28, 29⟩ ⟨false, false, true, true, false, false, true, true, true⟩) plansT 1000 60 7 [.sym 0] emptyH (fun r _ => Q.eqV r (.bool true)) = true := by kernel_rfl
theorem runOrder54 : Q.callK Tryz.prog (intFacts ⟨27, 28, 29⟩ ⟨false, false, true, true, false, true, true, false, false⟩) plansT 1000 60 7 [.sym 0] emptyH (fun r _ => Q.eqV r (.bool true)) = true := by kernel_rfl
theorem runOrder55 : Q.callK Tryz.prog (intFacts ⟨27, 28, 29⟩ ⟨false, false, true, true, false, true, true, false, true⟩) plansT 1000 60 7 [.sym 0] emptyH (fun r _ => Q.eqV r (.bool true)) = true := by kernel_rfl
theorem runOrder56 : Q.callK Tryz.prog (intFacts ⟨27, 28, 29⟩ ⟨false, false, true, true, false, true, true, true, false⟩) plansT 1000 60 7 [.sym 0] emptyH (fun r _ => Q.eqV r (.bool true)) = true := by kernel_rfl
theorem runOrder57 : Q.callK Tryz.prog (intFacts ⟨27, 28, 29⟩ ⟨false, false, true, true, false, true, true, true, true⟩) plansT 1000 60 7 [.sym 0] emptyH (fun r _ => Q.eqV r (.bool true)) = true := by kernel_rfl
theorem runOrder58 : Q.callK Tryz.prog (intFacts ⟨27, 28, 29⟩ ⟨false, false, true, true, true, false, true, false, false⟩) plansT 1000 60 7 [.sym 0] emptyH (fun r _ => Q.eqV r (.bool true)) = true := by kernel_rfl
theorem runOrder59 : Q.callK Tryz.prog (intFacts ⟨27, 28, 29⟩ ⟨false, false, true, true, true, false, true, true, false⟩) plansT 1000 60 7 [.sym 0] emptyH (fun r _ => Q.eqV r (.bool true)) = true := by kernel_rfl
theorem runOrder60 : Q.callK Tryz.prog (intFacts ⟨27, 28, 29⟩ ⟨false, false, true, true, true, true, true, false, false⟩) plansT 1000 60 7 [.sym 0] emptyH (fun r _ => Q.eqV r (.bool true)) = true := by kernel_rfl
theorem runOrder61 : Q.callK Tryz.prog (intFacts ⟨27, 28, 29⟩ ⟨false, false, true, true, true, true, true, true, false⟩) plansT 1000 60 7 [.sym 0] emptyH (fun r _ => Q.eqV r (.bool true)) = true := by kernel_rfl
theorem runOrder62 : Q.callK Tryz.prog (intFacts ⟨27, 28, 29⟩ ⟨false, true, false, false, false, false, true, false, false⟩) plansT 1000 60 7 [.sym 0] emptyH (fun r _ => Q.eqV r (.bool true)) = true := by kernel_rfl
theorem runOrder63 : Q.callK Tryz.prog (intFacts ⟨27, 28, 29⟩ ⟨false, true, false, false, false, false, true, false, true⟩) plansT 1000 60 7 [.sym 0] emptyH (fun r _ => Q.eqV r (.bool true)) = true := by kernel_rfl
theorem runOrder64 : Q.callK Tryz.prog (intFacts ⟨27, 28, 29⟩ ⟨false, true, false, false, false, false, true, true, false⟩) plansT 1000 60 7 [.sym 0] emptyH (fun r _ => Q.eqV r (.bool true)) = true := by kernel_rfl
theorem runOrder65 : Q.callK Tryz.prog (intFacts ⟨27, 28, 29⟩ ⟨false, true, false, false, false, false, true, true, true⟩) plansT 1000 60 7 [.sym 0] emptyH (fun r _ => Q.eqV r (.bool true)) = true := by kernel_rfl
theorem runOrder66 : Q.callK Tryz.prog (intFacts ⟨27, 28, 29⟩ ⟨false, true, false, false, false, true, true, false, false⟩) plansT 1000 60 7 [.sym 0] emptyH (fun r _ => Q.eqV r (.bool true)) = true := by kernel_rfl
theorem runOrder67 : Q.callK Tryz.prog (intFacts ⟨27, 28, 29⟩ ⟨false, true, false, false, false, true, true, false, true⟩) plansT 1000 60 7 [.sym 0] emptyH (fun r _ => Q.eqV r (.bool true)) = true := by kernel_rfl
theorem runOrder68 : Q.callK Tryz.prog (intFacts ⟨27, 28, 29⟩ ⟨false, true, false, false, false, true, true, true, false⟩) plansT 1000 60 7 [.sym 0] emptyH (fun r _ => Q.eqV r (.bool true)) = true := by kernel_rfl
theorem runOrder69 : Q.callK Tryz.prog (intFacts ⟨27, 28, 29⟩ ⟨false, true, false, false, false, true, true, true, true⟩) plansT 1000 60 7 [.sym 0] emptyH (fun r _ => Q.eqV r (.bool true)) = true := by kernel_rfl
theorem runOrder70 : Q.callK Tryz.prog (intFacts ⟨27, 28, 29⟩ ⟨false, true, false, false, true, false, true, false, false⟩) plansT 1000 60 7 [.sym 0] emptyH (fun r _ => Q.eqV r (.bool true)) = true := by kernel_rfl
theorem runOrder71 : Q.callK Tryz.prog (intFacts ⟨27, 28, 29⟩ ⟨false, true, false, false, true, false, true, false, true⟩) plansT 1000 60 7 [.sym 0] emptyH (fun r _ => Q.eqV r (.bool true)) = true := by kernel_rfl
theorem runOrder72 : Q.callK Tryz.prog (intFacts ⟨27, 28, 29⟩ ⟨false, true, false, false, true, false, true, true, false⟩) plansT 1000 60 7 [.sym 0] emptyH (fun r _ => Q.eqV r (.bool true)) = true := by kernel_rfl
theorem runOrder73 : Q.callK Tryz.prog (intFacts ⟨27, 28, 29⟩ ⟨false, true, false, false, true, false, true, true, true⟩) plansT 1000 60 7 [.sym 0] emptyH (fun r _ => Q.eqV r (.bool true)) = true := by kernel_rfl
theorem runOrder74 : Q.callK Tryz.prog (intFacts ⟨27, 28, 29⟩ ⟨false, true, false, false, true, true, true, false, false⟩) plansT 1000 60 7 [.sym 0] emptyH (fun r _ => Q.eqV r (.bool true)) = true := by kernel_rfl
theorem runOrder75 : Q.callK Tryz.prog (intFacts ⟨27, 28, 29⟩ ⟨false, true, false, false, true, true, true, false, true⟩) plansT 1000 60 7 [.sym 0] emptyH (fun r _ => Q.eqV r (.bool true)) = true := by kernel_rfl
theorem runOrder76 : Q.callK Tryz.prog (intFacts ⟨27, 28, 29⟩ ⟨false, true, false, false, true, true, true, true, false⟩) plansT 1000 60 7 [.sym 0] emptyH (fun r _ => Q.eqV r (.bool true)) = true := by kernel_rfl
theorem runOrder77 : Q.callK Tryz.prog (intFacts ⟨27, 28, 29⟩ ⟨false, true, false, false, true, true, true, true, true⟩) plansT 1000 60 7 [.sym 0] emptyH (fun r _ => Q.eqV r (.bool true)) = true := by kernel_rfl
theorem runOrder78 : Q.callK Tryz.prog (intFacts ⟨27, 28, 29⟩ ⟨false, true, false, true, false, false, true, false, false⟩) plansT 1000 60 7 [.sym 0] emptyH (fun r _ => Q.eqV r (.bool true)) = true := by kernel_rfl
theorem runOrder79 : Q.callK Tryz.prog (intFacts ⟨27, 28, 29⟩ ⟨false, true, false, true, false, false, true, false, true⟩) plansT 1000 60 7 [.sym 0] emptyH (fun r _ => Q.eqV r (.bool true)) = true := by kernel_rfl
theorem runOrder80 : Q.callK Tryz.prog (intFacts ⟨27, 28, 29⟩ ⟨false, true, false, true, false, false, true, true, false⟩) plansT 1000 60 7 [.sym 0] emptyH (fun r _ => Q.eqV r (.bool true)) = true := by kernel_rfl
theorem runOrder81 : Q.callK Tryz.prog (intFacts ⟨27, 28, 29⟩ ⟨false, true, false, true, false, false, true, true, true⟩) plansT 1000 60 7 [.sym 0] emptyH (fun r _ => Q.eqV r (.bool true)) = true := by kernel_rfl
theorem runOrder82 : Q.callK Tryz.prog (intFacts ⟨27, 28, 29⟩ ⟨false, true, false, true, false, true, true, false, false⟩) plansT 1000 60 7 [.sym 0] emptyH (fun r _ => Q.eqV r (.bool true)) = true := by kernel_rfl
theorem runOrder83 : Q.callK Tryz.prog (intFacts ⟨27, 28, 29⟩ ⟨false, true, false, true, false, true, true, false, true⟩) plansT 1000 60 7 [.sym 0] emptyH (fun r _ => Q.eqV r (.bool true)) = true := by kernel_rfl
theorem runOrder84 : Q.callK Tryz.prog (intFacts ⟨27, 28, 29⟩ ⟨false, true, false, true, false, true, true, true, false⟩) plansT 1000 60 7 [.sym 0] emptyH (fun r _ => Q.eqV r (.bool true)) = true := by kernel_rfl
theorem runOrder85 : Q.callK Tryz.prog (intFacts ⟨27, 28, 29⟩ ⟨false, true, false, true, false, true, true, true, true⟩) plansT 1000 60 7 [.sym 0] emptyH (fun r _ => Q.eqV r (.bool true)) = true := by kernel_rfl
theorem runOrder86 : Q.callK Tryz.prog (intFacts ⟨27, 28, 29⟩ ⟨false, true, false, true, true, false, true, false, false⟩) plansT 1000 60 7 [.sym 0] emptyH (fun r _ => Q.eqV r (.bool true)) = true := by kernel_rfl
theorem runOrder87 : Q.callK Tryz.prog (intFacts ⟨27, 28, 29⟩ ⟨false, true, false, true, true, false, true, false, true⟩) plansT 1000 60 7 [.sym 0] emptyH (fun r _ => Q.eqV r (.bool true)) = true := by kernel_rfl
theorem runOrder88 : Q.callK Tryz.prog (intFacts ⟨27, 28, 29⟩ ⟨false, true, false, true, true, false, true, true, false⟩) plansT 1000 60 7 [.sym 0] emptyH (fun r _ => Q.eqV r (.bool true)) = true := by kernel_rfl
theorem runOrder89 : Q.callK Tryz.prog (intFacts ⟨27, 28, 29⟩ ⟨false, true, false, true, true, false, true, true, true⟩) plansT 1000 60 7 [.sym 0] emptyH (fun r _ => Q.eqV r (.bool true)) = true := by kernel_rfl
theorem runOrder90 : Q.callK Tryz.prog (intFacts ⟨27, 28, 29⟩ ⟨false, true, false, true, true, true, true, false, false⟩) plansT 1000 60 7 [.sym 0] emptyH (fun r _ => Q.eqV r (.bool true)) = true := by kernel_rfl
theorem runOrder91 : Q.callK Tryz.prog (intFacts ⟨27, 28, 29⟩ ⟨false, true, false, true, true, true, true, false, true⟩) plansT 1000 60 7 [.sym 0] emptyH (fun r _ => Q.eqV r (.bool true)) = true := by kernel_rfl
theorem runOrder92 : Q.callK Tryz.prog (intFacts ⟨27, 28, 29⟩ ⟨false, true, false, true, true, true, true, true, false⟩) plansT 1000 60 7 [.sym 0] emptyH (fun r _ => Q.eqV r (.bool true)) = true := by kernel_rfl
theorem runOrder93 : Q.callK Tryz.prog (intFacts ⟨27, 28, 29⟩ ⟨false, true, false, true, true, true, true, true, true⟩) plansT 1000 60 7 [.sym 0] emptyH (fun r _ => Q.eqV r (.bool true)) = true := by kernel_rfl
theorem runOrder94 : Q.callK Tryz.prog (intFacts ⟨27, 28, 29⟩ ⟨true, false, false, false, false, true, true, false, false⟩) plansT 1000 60 7 [.sym 0] emptyH (fun r _ => Q.eqV r (.bool true)) = true := by kernel_rfl
theorem runOrder95 : Q.callK Tryz.prog (intFacts ⟨27, 28, 29⟩ ⟨true, false, false, false, false, true, true, true, false⟩) plansT 1000 60 7 [.sym 0] emptyH (fun r _ => Q.eqV r (.bool true)) = true := by kernel_rfl
end Go.Ev
