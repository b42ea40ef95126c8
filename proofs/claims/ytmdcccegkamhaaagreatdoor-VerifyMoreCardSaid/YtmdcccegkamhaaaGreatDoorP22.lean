/- The program's verify, flow and code, followed by hand: part 22. -/
import Derived.Test.YtmdcccegkamhaaaGreatDoorP21
set_option maxHeartbeats 4000000
set_option maxRecDepth 100000
set_option linter.unusedSectionVars false
set_option linter.unusedVariables false
set_option linter.unusedSimpArgs false
namespace Go.Proofs.Vf
open Go.Ab (slot)
theorem mids105 : (pcs 105 && cl4 (oH (S5 105)) 100 (slot (oF (S5 105)) 65)) = true := by kernel_rfl
theorem mids108 : (pcs 108 && cl4 (oH (S5 108)) 101 (slot (oF (S5 108)) 65)) = true := by kernel_rfl
theorem mids119 : (pcs 119 && cl4 (oH (S5 119)) 102 (slot (oF (S5 119)) 65)) = true := by kernel_rfl
theorem mids113 : (pcs 113 && cl3 (oH (S5 113)) (slot (oF (S5 113)) 65)) = true := by kernel_rfl
end Go.Proofs.Vf
