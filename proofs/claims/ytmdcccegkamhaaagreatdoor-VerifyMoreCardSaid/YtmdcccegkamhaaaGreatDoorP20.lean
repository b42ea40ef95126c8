/- The program's verify, flow and code, followed by hand: part 20. -/
import Derived.Test.YtmdcccegkamhaaaGreatDoorP19
set_option maxHeartbeats 4000000
set_option maxRecDepth 100000
set_option linter.unusedSectionVars false
set_option linter.unusedVariables false
set_option linter.unusedSimpArgs false
namespace Go.Proofs.Vf
open Go.Ab (globHp)
open Go.Proofs.YtmdcccegkamhaaaGreatDoor (gl0 cK)
theorem run45 : resIs (tk 3) (cK [q96] 46 (fargs 45) (globHp gl0 12)) = true := by kernel_rfl
theorem run114 : resIs (tk 3) (cK [q93 (tk 6) (tk 3)] 46 (fargs 114) (globHp gl0 12)) = true := by kernel_rfl
theorem run107 : resIs (tk 3) (cK [q93 (tk 5) (tk 3)] 46 (fargs 107) (globHp gl0 12)) = true := by kernel_rfl
theorem run98 : resIs (tk 3) (cK [q93 (tk 10) (tk 3)] 46 (fargs 98) (globHp gl0 12)) = true := by kernel_rfl
theorem run115 : resIs (tk 3) (cK [q93 (tk 13) (tk 3)] 46 (fargs 115) (globHp gl0 12)) = true := by kernel_rfl
theorem run116 : resIs (tk 3) (cK [q93 (tk 17) (tk 3)] 46 (fargs 116) (globHp gl0 12)) = true := by kernel_rfl
theorem run99 : resIs (tk 3) (cK [q93 (tk 9) (tk 3)] 46 (fargs 99) (globHp gl0 12)) = true := by kernel_rfl
theorem run50 : resIs (tk 3) (cK [q93 (.int .i64 (.ofNat 15)) (tk 3)] 46 (fargs 50) (globHp gl0 12)) = true := by kernel_rfl
theorem run49 : resIs (tk 3) (cK [q93 (.int .i64 (.ofNat 2)) (tk 3)] 46 (fargs 49) (globHp gl0 12)) = true := by kernel_rfl
theorem run102 : resIs (tk 3) (cK [q93 (.int .i64 (.ofNat 10)) (tk 3)] 46 (fargs 102) (globHp gl0 12)) = true := by kernel_rfl
theorem run120 : resIs (tk 3) (cK [q93 (.int .i64 (.ofNat 60)) (tk 3)] 46 (fargs 120) (globHp gl0 12)) = true := by kernel_rfl
theorem run106 : resIs (tk 3) (cK [q97] 46 (fargs 106) (globHp gl0 12)) = true := by kernel_rfl
theorem run110 : resIs (tk 3) (cK [q98] 46 (fargs 110) (globHp gl0 12)) = true := by kernel_rfl
theorem run109 : resIs (tk 3) (cK [q99] 46 (fargs 109) (globHp gl0 12)) = true := by kernel_rfl
theorem run105 : resIs (.bool false) (cK [q93 (tk 9) (.bool false)] 46 (fargs 105) (globHp gl0 12)) = true := by kernel_rfl
theorem run108 : resIs (.bool false) (cK [q93 (tk 9) (.bool false)] 46 (fargs 108) (globHp gl0 12)) = true := by kernel_rfl
theorem run119 : resIs (.bool false) (cK [q93 (tk 9) (.bool false)] 46 (fargs 119) (globHp gl0 12)) = true := by kernel_rfl
theorem run113 : resIs (.bool false) (cK [q93 (tk 5) (.bool false)] 46 (fargs 113) (globHp gl0 12)) = true := by kernel_rfl
end Go.Proofs.Vf
