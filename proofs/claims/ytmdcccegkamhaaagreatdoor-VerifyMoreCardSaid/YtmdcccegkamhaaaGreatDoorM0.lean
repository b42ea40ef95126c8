/- Calls of the layers below, and what they come to. -/
import Derived.Test.YtmdcccegkamhaaaGreatDoorAbS0
set_option linter.unusedSectionVars false
namespace Go.Proofs.YtmdcccegkamhaaaGreatDoor
open Go Go.Ab
variable [Val]
noncomputable def sk2 : Kn := ⟨172, [.str 220 25750816965342907154720476199181913859981229822202877234116107629799660553285511113065182895625118208756135859944089845910688512427297251292652679884951071754267707123050255016388402920106778157855636546867579212033218180135891366524415516777865019929175068659457579867395320712412067903206701561032684207337986930826816668271513076231430712734420465269458415869345016213776149464329452789644763965501845707273056839994654143967411114840476718822691818067224063985845730794410096888043235800467109790753120741959629991327574552161], [], .sl 0 0 0 40 81, [([.str 3 6581857, .str 2 29537, .str 3 6517601, .str 5 474214786402, .str 7 31073733908391266, .str 2 31074, .str 4 1953718627, .str 6 127996156276579, .str 6 111550524650083, .str 6 111550592214372, .str 4 1668506980, .str 8 8386668330298337636, .str 4 1886351972, .str 4 1836020326, .str 5 483006575207, .str 6 113723913429352, .str 2 28265, .str 5 517097156201, .str 6 128034677157481, .str 3 7630441, .str 4 1869901417, .str 2 29545, .str 4 1852403562, .str 4 1701538156, .str 5 499984984428, .str 3 7630702, .str 4 1819047278, .str 6 127979076609647, .str 2 28271, .str 2 29295, .str 5 491327353455, .str 8 7738135660106379122, .str 6 127970252186995, .str 3 7628147, .str 5 435610083700, .str 4 1954047348, .str 6 111555088313973, .str 6 111550524584053, .str 6 126879598928246, .str 5 435710945399], 0)]⟩
noncomputable def sk2Keep : List (Nat × Nat) := [(12, 0)]
theorem sk2_ok : sk2.ok (cK []) gl0 12 sk2Keep = true := by kernel_rfl
theorem sk2_known : Known sk2 := known_of (keep := sk2Keep) known_nil sk2_ok
noncomputable def sk1 : Kn := ⟨131, [.str 21 60481765715955417117105412779796030446335724712547], [], .tup [.agg [.int .u8 (.ofNat 5), .str 1 116, .str 0 0, .nil 1, .nil 1, .nil 1, .nil 1, .nil 1, .sl 0 0 0 2 6, .nil 1, .bool false], .agg [.int .i64 (.ofNat 0), .int .i64 (.ofNat 0)]], [([.str 1 97, .bool false, .bool false, .str 1 98, .bool false, .bool false], 0)]⟩
noncomputable def sk1Keep : List (Nat × Nat) := [(79, 0)]
theorem sk1_ok : sk1.ok (cK [sk2]) gl0 12 sk1Keep = true := by kernel_rfl
theorem sk1_known : Known sk1 := known_of (keep := sk1Keep) (known_cons sk2_known known_nil) sk1_ok
noncomputable def sk3 : Kn := ⟨77, [.agg [.int .i64 (.ofNat 1), .int .i64 (.ofNat 1), .nil 1, .nil 1], .agg [.int .u8 (.ofNat 5), .str 1 116, .str 0 0, .nil 1, .nil 1, .nil 1, .nil 1, .nil 1, .sl 0 0 0 2 6, .nil 1, .bool false]], [([.str 1 97, .bool false, .bool false, .str 1 98, .bool false, .bool false], 0)], .tup [.agg [.int .i64 (.ofNat 2), .int .i64 (.ofNat 2), .sl 1 0 0 1 6, .nil 1], .int .i64 (.ofNat 0)], [([.str 1 116, .sl 2 0 0 2 6, .int .i64 (.ofNat 1)], 0), ([.str 1 97, .bool false, .bool false, .str 1 98, .bool false, .bool false], 0)]⟩
noncomputable def sk3Keep : List (Nat × Nat) := [(77, 0), (75, 0)]
theorem sk3_ok : sk3.ok (cK [sk2]) gl0 12 sk3Keep = true := by kernel_rfl
theorem sk3_known : Known sk3 := known_of (keep := sk3Keep) (known_cons sk2_known known_nil) sk3_ok
noncomputable def sk4 : Kn := ⟨131, [.str 23 3963744621889107409387074397720719605891083223309840995], [], .tup [.agg [.int .u8 (.ofNat 6), .str 1 116, .str 1 105, .nil 1, .nil 1, .nil 1, .nil 1, .nil 1, .nil 1, .sl 0 0 0 1 3, .bool false], .agg [.int .i64 (.ofNat 0), .int .i64 (.ofNat 0)]], [([.str 1 98, .bool false], 0)]⟩
noncomputable def sk4Keep : List (Nat × Nat) := [(77, 0)]
theorem sk4_ok : sk4.ok (cK [sk2]) gl0 12 sk4Keep = true := by kernel_rfl
theorem sk4_known : Known sk4 := known_of (keep := sk4Keep) (known_cons sk2_known known_nil) sk4_ok
noncomputable def sk5 : Kn := ⟨77, [.agg [.int .i64 (.ofNat 2), .int .i64 (.ofNat 2), .sl 0 0 0 1 6, .nil 1], .agg [.int .u8 (.ofNat 6), .str 1 116, .str 1 105, .nil 1, .nil 1, .nil 1, .nil 1, .nil 1, .nil 1, .sl 1 0 0 1 3, .bool false]], [([.str 1 116, .sl 2 0 0 2 6, .int .i64 (.ofNat 1)], 0), ([.str 1 98, .bool false], 0), ([.str 1 97, .bool false, .bool false, .str 1 98, .bool false, .bool false], 0)], .tup [.agg [.int .i64 (.ofNat 3), .int .i64 (.ofNat 3), .sl 3 0 0 1 6, .sl 4 0 0 1 10], .int .i64 (.ofNat 0)], [([.str 1 116, .sl 5 0 0 2 6, .int .i64 (.ofNat 1)], 0), ([.str 1 105, .str 1 116, .sl 6 0 0 1 4, .bool false, .int .i64 (.ofNat 2)], 0), ([.str 1 97, .bool false, .bool false, .str 1 98, .bool false, .bool false], 0), ([.int .i64 (.ofNat 1), .bool false], 0)]⟩
noncomputable def sk5Keep : List (Nat × Nat) := [(121, 0), (146, 0), (123, 0), (144, 0)]
theorem sk5_ok : sk5.ok (cK [sk2]) gl0 12 sk5Keep = true := by kernel_rfl
theorem sk5_known : Known sk5 := known_of (keep := sk5Keep) (known_cons sk2_known known_nil) sk5_ok
end Go.Proofs.YtmdcccegkamhaaaGreatDoor
