/- What the layers below do, once more. -/
import Derived.Test.YtfaogpjikadajaaGreatDoorM1
import Derived.Test.YtfaogpjikadajaaGreatDoorM2
import Derived.Test.YtfaogpjikadajaaGreatDoorM3
import Derived.Test.YtfaogpjikadajaaGreatDoorM4
import Derived.Test.YtfaogpjikadajaaGreatDoorM5
import Derived.Test.YtfaogpjikadajaaGreatDoorM6
namespace Go.Proofs.YtfaogpjikadajaaGreatDoor
open Go Go.Ab
noncomputable def aw : Kn := ⟨19, [], [], .bool true, []⟩
noncomputable def awKeep : List (Nat × Nat) := []
theorem aw_ok : aw.ok (cK [awk1, awk2, awk4, awk3, awk5, awk6, awk7, awk8, awk9, awk11, awk10, awk12, awk13, awk15, awk14, awk16]) gl0 12 awKeep = true := by kernel_rfl
theorem aw_known : Known aw := known_of (keep := awKeep) (known_cons awk1_known (known_cons awk2_known (known_cons awk4_known (known_cons awk3_known (known_cons awk5_known (known_cons awk6_known (known_cons awk7_known (known_cons awk8_known (known_cons awk9_known (known_cons awk11_known (known_cons awk10_known (known_cons awk12_known (known_cons awk13_known (known_cons awk15_known (known_cons awk14_known (known_cons awk16_known known_nil)))))))))))))))) aw_ok
end Go.Proofs.YtfaogpjikadajaaGreatDoor
