/- The example of the chapter. -/
import Derived.Test.YtldafmcioaijkaaGreatDoorAbS0
namespace Go.Proofs.YtldafmcioaijkaaGreatDoor
open Go Go.Ab
noncomputable def kn4 : Kn := ⟨11, [], [], .bool true, []⟩
noncomputable def kn4Keep : List (Nat × Nat) := []
theorem kn4_ok : kn4.ok (cK [kn1, kn2, kn3]) gl0 12 kn4Keep = true := by kernel_rfl
theorem kn4_known : Known kn4 := known_of (keep := kn4Keep) (known_cons kn1_known (known_cons kn2_known (known_cons kn3_known known_nil))) kn4_ok
/-- These four. -/
theorem known4 : ∀ q ∈ [kn1, kn2, kn3, kn4], Known q := known_cons kn1_known (known_cons kn2_known (known_cons kn3_known (known_cons kn4_known known_nil)))
theorem ck4 : CallOK C0 (cK [kn1, kn2, kn3, kn4]) := ck_ok _ known4
/-- The call returns true. -/
noncomputable def runs (g : Nat) (args : List AV) : Bool := R2.rec (motive := fun _ => Bool) (fun v _ => avEq v (.bool true)) (fun _ => false) (cK [kn1, kn2, kn3, kn4] g args (globHp gl0 12))
end Go.Proofs.YtldafmcioaijkaaGreatDoor
