/- The kernel's runs of the law FnRunsAt: one for each drawn index and each case of the drawn text, part 4. -/
import Derived.Test.YtdbaglgkbfjbnaaGreatProg
import Derived.KernelRfl
import Derived.Test.YtdbaglgkbfjbnaaGreatEvP
import Derived.Test.YtdbaglgkbfjbnaaGreatAtFacts
import Derived.Test.YtdbaglgkbfjbnaaGreatEvW

set_option linter.unusedVariables false
set_option maxRecDepth 100000
namespace Go.Ev
open Go.Proofs
theorem atRun160 : Q.callK Tryz.prog (atFacts 4611686018427387904 ⟨false, false, false⟩) plansT 1000 60 6 [.sym 0] emptyH (fun r _ => Q.eqV r (.bool true)) = true := by kernel_rfl
theorem atRun161 : Q.callK Tryz.prog (atFacts 4611686018427387904 ⟨false, false, true⟩) plansT 1000 60 6 [.sym 0] emptyH (fun r _ => Q.eqV r (.bool true)) = true := by kernel_rfl
theorem atRun162 : Q.callK Tryz.prog (atFacts 4611686018427387904 ⟨false, true, false⟩) plansT 1000 60 6 [.sym 0] emptyH (fun r _ => Q.eqV r (.bool true)) = true := by kernel_rfl
theorem atRun163 : Q.callK Tryz.prog (atFacts 4611686018427387904 ⟨false, true, true⟩) plansT 1000 60 6 [.sym 0] emptyH (fun r _ => Q.eqV r (.bool true)) = true := by kernel_rfl
theorem atRun164 : Q.callK Tryz.prog (atFacts 4611686018427387904 ⟨true, false, false⟩) plansT 1000 60 6 [.sym 0] emptyH (fun r _ => Q.eqV r (.bool true)) = true := by kernel_rfl
theorem atRun165 : Q.callK Tryz.prog (atFacts 4611686018427387904 ⟨true, false, true⟩) plansT 1000 60 6 [.sym 0] emptyH (fun r _ => Q.eqV r (.bool true)) = true := by kernel_rfl
theorem atRun166 : Q.callK Tryz.prog (atFacts 4611686018427387904 ⟨true, true, false⟩) plansT 1000 60 6 [.sym 0] emptyH (fun r _ => Q.eqV r (.bool true)) = true := by kernel_rfl
theorem atRun167 : Q.callK Tryz.prog (atFacts 4611686018427387904 ⟨true, true, true⟩) plansT 1000 60 6 [.sym 0] emptyH (fun r _ => Q.eqV r (.bool true)) = true := by kernel_rfl
theorem atRun168 : Q.callK Tryz.prog (atFacts (-4611686018427387904) ⟨false, false, false⟩) plansT 1000 60 6 [.sym 0] emptyH (fun r _ => Q.eqV r (.bool true)) = true := by kernel_rfl
theorem atRun169 : Q.callK Tryz.prog (atFacts (-4611686018427387904) ⟨false, false, true⟩) plansT 1000 60 6 [.sym 0] emptyH (fun r _ => Q.eqV r (.bool true)) = true := by kernel_rfl
theorem atRun170 : Q.callK Tryz.prog (atFacts (-4611686018427387904) ⟨false, true, false⟩) plansT 1000 60 6 [.sym 0] emptyH (fun r _ => Q.eqV r (.bool true)) = true := by kernel_rfl
theorem atRun171 : Q.callK Tryz.prog (atFacts (-4611686018427387904) ⟨false, true, true⟩) plansT 1000 60 6 [.sym 0] emptyH (fun r _ => Q.eqV r (.bool true)) = true := by kernel_rfl
theorem atRun172 : Q.callK Tryz.prog (atFacts (-4611686018427387904) ⟨true, false, false⟩) plansT 1000 60 6 [.sym 0] emptyH (fun r _ => Q.eqV r (.bool true)) = true := by kernel_rfl
theorem atRun173 : Q.callK Tryz.prog (atFacts (-4611686018427387904) ⟨true, false, true⟩) plansT 1000 60 6 [.sym 0] emptyH (fun r _ => Q.eqV r (.bool true)) = true := by kernel_rfl
theorem atRun174 : Q.callK Tryz.prog (atFacts (-4611686018427387904) ⟨true, true, false⟩) plansT 1000 60 6 [.sym 0] emptyH (fun r _ => Q.eqV r (.bool true)) = true := by kernel_rfl
theorem atRun175 : Q.callK Tryz.prog (atFacts (-4611686018427387904) ⟨true, true, true⟩) plansT 1000 60 6 [.sym 0] emptyH (fun r _ => Q.eqV r (.bool true)) = true := by kernel_rfl
theorem atRun176 : Q.callK Tryz.prog (atFacts 1001 ⟨false, false, false⟩) plansT 1000 60 6 [.sym 0] emptyH (fun r _ => Q.eqV r (.bool true)) = true := by kernel_rfl
theorem atRun177 : Q.callK Tryz.prog (atFacts 1001 ⟨false, false, true⟩) plansT 1000 60 6 [.sym 0] emptyH (fun r _ => Q.eqV r (.bool true)) = true := by kernel_rfl
theorem atRun178 : Q.callK Tryz.prog (atFacts 1001 ⟨false, true, false⟩) plansT 1000 60 6 [.sym 0] emptyH (fun r _ => Q.eqV r (.bool true)) = true := by kernel_rfl
theorem atRun179 : Q.callK Tryz.prog (atFacts 1001 ⟨false, true, true⟩) plansT 1000 60 6 [.sym 0] emptyH (fun r _ => Q.eqV r (.bool true)) = true := by kernel_rfl
theorem atRun180 : Q.callK Tryz.prog (atFacts 1001 ⟨true, false, false⟩) plansT 1000 60 6 [.sym 0] emptyH (fun r _ => Q.eqV r (.bool true)) = true := by kernel_rfl
theorem atRun181 : Q.callK Tryz.prog (atFacts 1001 ⟨true, false, true⟩) plansT 1000 60 6 [.sym 0] emptyH (fun r _ => Q.eqV r (.bool true)) = true := by kernel_rfl
theorem atRun182 : Q.callK Tryz.prog (atFacts 1001 ⟨true, true, false⟩) plansT 1000 60 6 [.sym 0] emptyH (fun r _ => Q.eqV r (.bool true)) = true := by kernel_rfl
theorem atRun183 : Q.callK Tryz.prog (atFacts 1001 ⟨true, true, true⟩) plansT 1000 60 6 [.sym 0] emptyH (fun r _ => Q.eqV r (.bool true)) = true := by kernel_rfl
theorem atRun184 : Q.callK Tryz.prog (atFacts 1000001 ⟨false, false, false⟩) plansT 1000 60 6 [.sym 0] emptyH (fun r _ => Q.eqV r (.bool true)) = true := by kernel_rfl
theorem atRun185 : Q.callK Tryz.prog (atFacts 1000001 ⟨false, false, true⟩) plansT 1000 60 6 [.sym 0] emptyH (fun r _ => Q.eqV r (.bool true)) = true := by kernel_rfl
theorem atRun186 : Q.callK Tryz.prog (atFacts 1000001 ⟨false, true, false⟩) plansT 1000 60 6 [.sym 0] emptyH (fun r _ => Q.eqV r (.bool true)) = true := by kernel_rfl
theorem atRun187 : Q.callK Tryz.prog (atFacts 1000001 ⟨false, true, true⟩) plansT 1000 60 6 [.sym 0] emptyH (fun r _ => Q.eqV r (.bool true)) = true := by kernel_rfl
theorem atRun188 : Q.callK Tryz.prog (atFacts 1000001 ⟨true, false, false⟩) plansT 1000 60 6 [.sym 0] emptyH (fun r _ => Q.eqV r (.bool true)) = true := by kernel_rfl
theorem atRun189 : Q.callK Tryz.prog (atFacts 1000001 ⟨true, false, true⟩) plansT 1000 60 6 [.sym 0] emptyH (fun r _ => Q.eqV r (.bool true)) = true := by kernel_rfl
theorem atRun190 : Q.callK Tryz.prog (atFacts 1000001 ⟨true, true, false⟩) plansT 1000 60 6 [.sym 0] emptyH (fun r _ => Q.eqV r (.bool true)) = true := by kernel_rfl
theorem atRun191 : Q.callK Tryz.prog (atFacts 1000001 ⟨true, true, true⟩) plansT 1000 60 6 [.sym 0] emptyH (fun r _ => Q.eqV r (.bool true)) = true := by kernel_rfl
theorem atRun192 : Q.callK Tryz.prog (atFacts (-9223372036854775808) ⟨false, false, false⟩) plansT 1000 60 6 [.sym 0] emptyH (fun r _ => Q.eqV r (.bool true)) = true := by kernel_rfl
theorem atRun193 : Q.callK Tryz.prog (atFacts (-9223372036854775808) ⟨false, false, true⟩) plansT 1000 60 6 [.sym 0] emptyH (fun r _ => Q.eqV r (.bool true)) = true := by kernel_rfl
theorem atRun194 : Q.callK Tryz.prog (atFacts (-9223372036854775808) ⟨false, true, false⟩) plansT 1000 60 6 [.sym 0] emptyH (fun r _ => Q.eqV r (.bool true)) = true := by kernel_rfl
theorem atRun195 : Q.callK Tryz.prog (atFacts (-9223372036854775808) ⟨false, true, true⟩) plansT 1000 60 6 [.sym 0] emptyH (fun r _ => Q.eqV r (.bool true)) = true := by kernel_rfl
theorem atRun196 : Q.callK Tryz.prog (atFacts (-9223372036854775808) ⟨true, false, false⟩) plansT 1000 60 6 [.sym 0] emptyH (fun r _ => Q.eqV r (.bool true)) = true := by kernel_rfl
theorem atRun197 : Q.callK Tryz.prog (atFacts (-9223372036854775808) ⟨true, false, true⟩) plansT 1000 60 6 [.sym 0] emptyH (fun r _ => Q.eqV r (.bool true)) = true := by kernel_rfl
theorem atRun198 : Q.callK Tryz.prog (atFacts (-9223372036854775808) ⟨true, true, false⟩) plansT 1000 60 6 [.sym 0] emptyH (fun r _ => Q.eqV r (.bool true)) = true := by kernel_rfl
theorem atRun199 : Q.callK Tryz.prog (atFacts (-9223372036854775808) ⟨true, true, true⟩) plansT 1000 60 6 [.sym 0] emptyH (fun r _ => Q.eqV r (.bool true)) = true := by kernel_rfl
theorem atRun200 : Q.callK Tryz.prog (atFacts 9223372036854775807 ⟨false, false, false⟩) plansT 1000 60 6 [.sym 0] emptyH (fun r _ => Q.eqV r (.bool true)) = true := by kernel_rfl
theorem atRun201 : Q.callK Tryz.prog (atFacts 9223372036854775807 ⟨false, false, true⟩) plansT 1000 60 6 [.sym 0] emptyH (fun r _ => Q.eqV r (.bool true)) = true := by kernel_rfl
theorem atRun202 : Q.callK Tryz.prog (atFacts 9223372036854775807 ⟨false, true, false⟩) plansT 1000 60 6 [.sym 0] emptyH (fun r _ => Q.eqV r (.bool true)) = true := by kernel_rfl
theorem atRun203 : Q.callK Tryz.prog (atFacts 9223372036854775807 ⟨false, true, true⟩) plansT 1000 60 6 [.sym 0] emptyH (fun r _ => Q.eqV r (.bool true)) = true := by kernel_rfl
theorem atRun204 : Q.callK Tryz.prog (atFacts 9223372036854775807 ⟨true, false, false⟩) plansT 1000 60 6 [.sym 0] emptyH (fun r _ => Q.eqV r (.bool true)) = true := by kernel_rfl
theorem atRun205 : Q.callK Tryz.prog (atFacts 9223372036854775807 ⟨true, false, true⟩) plansT 1000 60 6 [.sym 0] emptyH (fun r _ => Q.eqV r (.bool true)) = true := by kernel_rfl
theorem atRun206 : Q.callK Tryz.prog (atFacts 9223372036854775807 ⟨true, true, false⟩) plansT 1000 60 6 [.sym 0] emptyH (fun r _ => Q.eqV r (.bool true)) = true := by kernel_rfl
theorem atRun207 : Q.callK Tryz.prog (atFacts 9223372036854775807 ⟨true, true, true⟩) plansT 1000 60 6 [.sym 0] emptyH (fun r _ => Q.eqV r (.bool true)) = true := by kernel_rfl
end Go.Ev
