/- The program's verify, flow and code, followed by hand: part 25. -/
import Derived.Test.YtmdcccegkamhaaaGreatDoorP24
set_option maxHeartbeats 4000000
set_option maxRecDepth 100000
set_option linter.unusedSectionVars false
set_option linter.unusedVariables false
set_option linter.unusedSimpArgs false
namespace Go.Proofs.Vf
theorem func0 : funcB 0 = true := by kernel_rfl
theorem func1 : funcB 1 = true := by kernel_rfl
theorem func2 : funcB 2 = true := by kernel_rfl
theorem func3 : funcB 3 = true := by kernel_rfl
theorem func4 : funcB 4 = true := by kernel_rfl
theorem func5 : funcB 5 = true := by kernel_rfl
theorem func6 : funcB 6 = true := by kernel_rfl
theorem func7 : funcB 7 = true := by kernel_rfl
theorem func8 : funcB 8 = true := by kernel_rfl
theorem func9 : funcB 9 = true := by kernel_rfl
end Go.Proofs.Vf
namespace Go.Proofs.Vf
open Go Go.Proofs Go.RowKit Go.Lib
open Go.Ab (Val Holds)
open Go.Proofs.YtmdcccegkamhaaaGreatDoor (gl0)
theorem shape_all (o : Nat) (ho : o < 256) : shapeB o = true := by
 by_cases h0 : o < 16
 · exact allB_at 16 0 o shapes0 (by omega) (by omega)
 by_cases h16 : o < 32
 · exact allB_at 16 16 o shapes16 (by omega) (by omega)
 by_cases h32 : o < 48
 · exact allB_at 16 32 o shapes32 (by omega) (by omega)
 by_cases h48 : o < 64
 · exact allB_at 16 48 o shapes48 (by omega) (by omega)
 by_cases h64 : o < 80
 · exact allB_at 16 64 o shapes64 (by omega) (by omega)
 by_cases h80 : o < 96
 · exact allB_at 16 80 o shapes80 (by omega) (by omega)
 by_cases h96 : o < 112
 · exact allB_at 16 96 o shapes96 (by omega) (by omega)
 by_cases h112 : o < 128
 · exact allB_at 16 112 o shapes112 (by omega) (by omega)
 by_cases h128 : o < 144
 · exact allB_at 16 128 o shapes128 (by omega) (by omega)
 by_cases h144 : o < 160
 · exact allB_at 16 144 o shapes144 (by omega) (by omega)
 by_cases h160 : o < 176
 · exact allB_at 16 160 o shapes160 (by omega) (by omega)
 by_cases h176 : o < 192
 · exact allB_at 16 176 o shapes176 (by omega) (by omega)
 by_cases h192 : o < 208
 · exact allB_at 16 192 o shapes192 (by omega) (by omega)
 by_cases h208 : o < 224
 · exact allB_at 16 208 o shapes208 (by omega) (by omega)
 by_cases h224 : o < 240
 · exact allB_at 16 224 o shapes224 (by omega) (by omega)
 by_cases h240 : o < 256
 · exact allB_at 16 240 o shapes240 (by omega) (by omega)
 omega
theorem func_all (d : Nat) (hd : d < 10) : funcB d = true := by
 match d, hd with
 | 0, _ => exact func0
 | 1, _ => exact func1
 | 2, _ => exact func2
 | 3, _ => exact func3
 | 4, _ => exact func4
 | 5, _ => exact func5
 | 6, _ => exact func6
 | 7, _ => exact func7
 | 8, _ => exact func8
 | 9, _ => exact func9
 | m + 10, h => exact absurd h (by omega)
theorem known_all (W0 : World) (hh : ∀ V : Val, @Holds V gl0 W0) : Known W0 := ⟨aggOK W0, shapeOK_of shape_all W0 (hh _), funcOK_of func_all W0 (hh _), fieldOK W0 hh⟩
end Go.Proofs.Vf
