/- Calls of the layers below, and what they come to. -/
import Derived.Test.YtmdcccegkamhaaaGreatDoorM0
import Derived.Test.YtmdcccegkamhaaaGreatDoorM3
set_option linter.unusedSectionVars false
namespace Go.Proofs.YtmdcccegkamhaaaGreatDoor
open Go Go.Ab
variable [Val]
noncomputable def sk19 : Kn := ⟨13, [.agg [.int .i64 (.ofNat 3), .int .i64 (.ofNat 3), .sl 0 0 0 1 6, .sl 1 0 0 1 10], .agg [.int .i64 (.ofNat 3), .int .i64 (.ofNat 4), .int .i64 (.ofNat 1), .sl 2 0 0 1 3, .sl 3 0 0 2 5, .sl 4 0 0 2 5, .sl 5 0 0 1 3, .nil 1, .sl 6 0 0 5 10]], [([.str 1 116, .sl 7 0 0 2 6, .int .i64 (.ofNat 1)], 0), ([.str 1 105, .str 1 116, .sl 8 0 0 1 4, .bool false, .int .i64 (.ofNat 2)], 0), ([.str 1 97], 0), ([.int .u8 (.ofNat 1), .int .i64 (.ofNat 5), .str 0 0, .int .u8 (.ofNat 2), .int .i64 (.ofNat 0), .str 1 120], 0), ([.str 1 116, .bool false, .bool true, .str 1 105, .bool true, .bool false], 0), ([.sl 9 0 0 1 3, .int .i64 (.ofNat 1), .bool false], 0), ([.int .u8 (.ofNat 1), .int .i64 (.ofNat 0), .int .i64 (.ofNat 0), .int .i64 (.ofNat 0), .int .i64 (.ofNat 0), .int .u8 (.ofNat 13), .int .i64 (.ofNat 0), .int .i64 (.ofNat 4), .int .i64 (.ofNat 0), .int .i64 (.ofNat 0), .int .u8 (.ofNat 29), .int .i64 (.ofNat 0), .int .i64 (.ofNat 0), .int .i64 (.ofNat 0), .int .i64 (.ofNat 0), .int .u8 (.ofNat 15), .int .i64 (.ofNat 0), .int .i64 (.ofNat 2), .int .i64 (.ofNat 0), .int .i64 (.ofNat 0), .int .u8 (.ofNat 35), .int .i64 (.ofNat 0), .int .i64 (.ofNat 0), .int .i64 (.ofNat 0), .int .i64 (.ofNat 0)], 0), ([.str 1 97, .bool false, .bool false, .str 1 98, .bool false, .bool false], 0), ([.int .i64 (.ofNat 1), .bool false], 0), ([.bool false], 0)], .int .i64 (.ofNat 143), []⟩
noncomputable def sk19Keep : List (Nat × Nat) := []
theorem sk19_ok : sk19.ok (cK [sk20, sk21, sk2]) gl0 12 sk19Keep = true := by kernel_rfl
theorem sk19_known : Known sk19 := known_of (keep := sk19Keep) (known_cons sk20_known (known_cons sk21_known (known_cons sk2_known known_nil))) sk19_ok
noncomputable def sk22 : Kn := ⟨172, [.str 62 81026390802643988464463386817582910606521728883753373778912236061247529032380502448413145048305647815299019217041425162012181478906658977365267211628], [], .sl 0 0 0 10 21, [([.str 6 114849160783212, .str 5 491328139381, .str 5 491328597868, .str 3 7561825, .str 6 112628629272948, .str 3 7890280, .str 6 119213082437225, .str 5 491579993705, .str 6 125844477605235, .str 8 7305809899972292451], 0)]⟩
noncomputable def sk22Keep : List (Nat × Nat) := [(12, 0)]
theorem sk22_ok : sk22.ok (cK []) gl0 12 sk22Keep = true := by kernel_rfl
theorem sk22_known : Known sk22 := known_of (keep := sk22Keep) known_nil sk22_ok
end Go.Proofs.YtmdcccegkamhaaaGreatDoor
