/-
  cardindexlaw17.VerifyLess returns true at every three arguments (any uint8 each) and leaves them alone, where the ten listed variables of the library hold what the program text lays; the card ties these to the text. Proved by running the law on named blocks, once for each of what is left of its numbers by 4, 4 and 3, in the kernel, and by the proof that such a run is what the model does on every schedule.
-/
import Derived.Test.YtldafmcioaijkaaGreatDoorAbS2
import Derived.Test.YtldafmcioaijkaaGreatDoorLessRuns0
import Derived.Test.YtldafmcioaijkaaGreatDoorLessRuns1
import Derived.Test.YtldafmcioaijkaaGreatDoorLessRuns2
import Derived.Test.YtldafmcioaijkaaGreatDoorLessRuns3
import Derived.Test.YtldafmcioaijkaaGreatDoorLessRuns4
import Derived.Test.YtldafmcioaijkaaGreatDoorLessRuns5
import Derived.Test.YtldafmcioaijkaaGreatDoorLessRuns6
import Derived.Test.YtldafmcioaijkaaGreatDoorLessRuns7
import Derived.Test.YtldafmcioaijkaaGreatDoorLessRuns8
import Derived.Test.YtldafmcioaijkaaGreatDoorLessRuns9
import Derived.Test.YtldafmcioaijkaaGreatDoorLessRuns10
import Derived.Test.YtldafmcioaijkaaGreatDoorLessRuns11
import Derived.Test.YtldafmcioaijkaaGreatDoorLessFacts
import Derived.Test.YtldafmcioaijkaaGreatDoorCards
import Derived.Test.YtldafmcioaijkaaGreatDoorTie
import Derived.WalkKit
import Derived.ProofKit
import Derived.OpenShut
import Derived.Lay
import Derived.LaidOnce
import Derived.SevenTiedAt
namespace Go.Proofs.YtldafmcioaijkaaGreatDoor
open Go.ChangeShapes Go.WideShapes Go.ChangeAt Go.RowKit

theorem less_runs (s t h : Nat) (hs : s < 4) (ht : t < 4) (hh : h < 3) : runs 6 [.nil (10 + 2 * (s + 256 * 4)), .nil (10 + 2 * (t + 256 * 4)), .nil (10 + 2 * (h + 256 * 3))] = true := by
  match s, t, h, hs, ht, hh with
  | 0, 0, 0, _, _, _ => exact less_0_0_0
  | 0, 0, 1, _, _, _ => exact less_0_0_1
  | 0, 0, 2, _, _, _ => exact less_0_0_2
  | 0, 1, 0, _, _, _ => exact less_0_1_0
  | 0, 1, 1, _, _, _ => exact less_0_1_1
  | 0, 1, 2, _, _, _ => exact less_0_1_2
  | 0, 2, 0, _, _, _ => exact less_0_2_0
  | 0, 2, 1, _, _, _ => exact less_0_2_1
  | 0, 2, 2, _, _, _ => exact less_0_2_2
  | 0, 3, 0, _, _, _ => exact less_0_3_0
  | 0, 3, 1, _, _, _ => exact less_0_3_1
  | 0, 3, 2, _, _, _ => exact less_0_3_2
  | 1, 0, 0, _, _, _ => exact less_1_0_0
  | 1, 0, 1, _, _, _ => exact less_1_0_1
  | 1, 0, 2, _, _, _ => exact less_1_0_2
  | 1, 1, 0, _, _, _ => exact less_1_1_0
  | 1, 1, 1, _, _, _ => exact less_1_1_1
  | 1, 1, 2, _, _, _ => exact less_1_1_2
  | 1, 2, 0, _, _, _ => exact less_1_2_0
  | 1, 2, 1, _, _, _ => exact less_1_2_1
  | 1, 2, 2, _, _, _ => exact less_1_2_2
  | 1, 3, 0, _, _, _ => exact less_1_3_0
  | 1, 3, 1, _, _, _ => exact less_1_3_1
  | 1, 3, 2, _, _, _ => exact less_1_3_2
  | 2, 0, 0, _, _, _ => exact less_2_0_0
  | 2, 0, 1, _, _, _ => exact less_2_0_1
  | 2, 0, 2, _, _, _ => exact less_2_0_2
  | 2, 1, 0, _, _, _ => exact less_2_1_0
  | 2, 1, 1, _, _, _ => exact less_2_1_1
  | 2, 1, 2, _, _, _ => exact less_2_1_2
  | 2, 2, 0, _, _, _ => exact less_2_2_0
  | 2, 2, 1, _, _, _ => exact less_2_2_1
  | 2, 2, 2, _, _, _ => exact less_2_2_2
  | 2, 3, 0, _, _, _ => exact less_2_3_0
  | 2, 3, 1, _, _, _ => exact less_2_3_1
  | 2, 3, 2, _, _, _ => exact less_2_3_2
  | 3, 0, 0, _, _, _ => exact less_3_0_0
  | 3, 0, 1, _, _, _ => exact less_3_0_1
  | 3, 0, 2, _, _, _ => exact less_3_0_2
  | 3, 1, 0, _, _, _ => exact less_3_1_0
  | 3, 1, 1, _, _, _ => exact less_3_1_1
  | 3, 1, 2, _, _, _ => exact less_3_1_2
  | 3, 2, 0, _, _, _ => exact less_3_2_0
  | 3, 2, 1, _, _, _ => exact less_3_2_1
  | 3, 2, 2, _, _, _ => exact less_3_2_2
  | 3, 3, 0, _, _, _ => exact less_3_3_0
  | 3, 3, 1, _, _, _ => exact less_3_3_1
  | 3, 3, 2, _, _, _ => exact less_3_3_2
theorem less_u8 {a : Int} (h : (Lit.int .u8 a).wf = true) : 0 ≤ a ∧ a < 256 := by
  have : 0 ≤ a ∧ a ≤ 255 := by simpa [Lit.wf, IntKind.min, IntKind.max, IntKind.signed, IntKind.bits] using h
  omega
theorem verifyLess_walk (a0 : Int) (w0 : (Lit.int .u8 a0).wf = true) (a1 : Int) (w1 : (Lit.int .u8 a1).wf = true) (a2 : Int) (w2 : (Lit.int .u8 a2).wf = true) (w : World) (h : laidMet Tryz.prog Rows.verifyLessRow.laid w) :
    Calls Tryz.prog 6 #[.int .u8 a0, .int .u8 a1, .int .u8 a2] w fun e w' => e = .returned (.bool true) ∧ w.keptBut w' fun _ => False := by
  have h0 := less_u8 w0
  have h1 := less_u8 w1
  have h2 := less_u8 w2
  exact law0 (args := [.nil (10 + 2 * (a0.toNat % 4 + 256 * 4)), .nil (10 + 2 * (a1.toNat % 4 + 256 * 4)), .nil (10 + 2 * (a2.toNat % 3 + 256 * 3))]) (args' := [.int .u8 a0, .int .u8 a1, .int .u8 a2]) Tryz.func6 (by kernel_rfl) rfl
    (less_runs _ _ _ (Nat.mod_lt _ (by omega)) (Nat.mod_lt _ (by omega)) (Nat.mod_lt _ (by omega))) h (by simp [Rows.verifyLessRow])
    (.cons _ _ _ _ (Go.Ab.VR.rest 4 (by omega) (by omega) h0.1 h0.2) (.cons _ _ _ _ (Go.Ab.VR.rest 4 (by omega) (by omega) h1.1 h1.2) (.cons _ _ _ _ (Go.Ab.VR.rest 3 (by omega) (by omega) h2.1 h2.2) .nil)))

set_option maxRecDepth 100000 in
theorem verifyLess_lifted (os : Os) (started : os.Started) (H : Type) (enc : TypeId × Value → H) :
    ReturnsInHanded {} Tryz.checked os 6 .any (fun w args => (Rows.verifyLessSpec.pre enc Tryz.prog Tryz.f6 [] false w args ∧ laidMetH Tryz.prog Rows.verifyLessRow.laid w) ∧ sizedMet enc Tryz.prog Tryz.f6 (OpenSpec.ofChange Rows.verifyLessSpec) false w args)
      (Rows.verifyLessSpec.post enc Tryz.prog Tryz.f6 false true false false) := by
  refine returnsInHanded_of_change_and (C := Tryz.checked) (X := fun w _ => laidMetH Tryz.prog Rows.verifyLessRow.laid w) (fun _ _ _ hh h => h.of_heap hh) own0 started (by kernel_rfl) Tryz.func6
    (ChangeSpec.witness_shaped (enc := enc) (C := Tryz.checked) (os := os) (X := fun w _ => laidMetH Tryz.prog Rows.verifyLessRow.laid w) false (World.laidAll Tryz.prog os Rows.verifyLessRow.laid) #[.int .u8 0, .int .u8 0, .int .u8 0] 8 (World.laidAll_os _ _ _)
      (World.shaped_of_ZipB (by kernel_rfl) (by kernel_rfl)) (by kernel_rfl) (by kernel_rfl) (by kernel_rfl)
      (by rw [MakeChecks.laidMetH_plain _ _ _ (by kernel_rfl)]; exact laidMet_laidAll _ (by kernel_rfl) (by kernel_rfl))) ?_
  intro W base args ds gs before hval0 hW _ _ hL _
  have hval : ∀ (j : Nat) t v, Tryz.f6.params[j]? = some t → args[j]? = some v → Value.okWide Tryz.prog W .any base t v := hval0
  have hW' := hW
  obtain ⟨p, q, hA0, hV, rfl, hfz, hnd⟩ := hW
  have hA : DataW.TrodAll enc Tryz.prog W 0 (fun _ => true) true Tryz.f6.params.toList args.toList ds p := hA0
  rw [Tryz.params6] at hA hval
  obtain ⟨v0, vs0, d0, ds0, p0, q0, hargs, rfl, rfl, h0, r0⟩ := trodAll_cons hA
  obtain ⟨v1, vs1, d1, ds1, p1, q1, rfl, rfl, rfl, h1, r1⟩ := trodAll_cons r0
  obtain ⟨v2, vs2, d2, ds2, p2, q2, rfl, rfl, rfl, h2, r2⟩ := trodAll_cons r1
  obtain ⟨rfl, rfl, rfl⟩ := trodAll_nil r2
  obtain rfl : args = #[v0, v1, v2] := by cases args; simp_all
  obtain ⟨rfl, rfl⟩ := trodVars_none hV
  obtain ⟨a0, rfl, rfl, rfl, w0⟩ := open_int Tryz.underlying5 (hval 0 5 v0 rfl rfl) h0
  obtain ⟨a1, rfl, rfl, rfl, w1⟩ := open_int Tryz.underlying5 (hval 1 5 v1 rfl rfl) h1
  obtain ⟨a2, rfl, rfl, rfl, w2⟩ := open_int Tryz.underlying5 (hval 2 5 v2 rfl rfl) h2
  clear hA0 hval0
  simp only [List.append_nil] at hW'
  rw [MakeChecks.laidMetH_plain _ _ _ (by kernel_rfl)] at hL
  refine (verifyLess_walk a0 w0 a1 w1 a2 w2 W hL).mono fun e W' ⟨he, hb⟩ => ?_
  subst he
  exact ⟨_, rfl, _, _, _, [], [], [], hW', trodAll_mk1 (shut_bool Tryz.underlying4 _), (trodAll_cons_mk (shut_int Tryz.underlying5 w0) (trodAll_cons_mk (shut_int Tryz.underlying5 w1) (trodAll_cons_mk (shut_int Tryz.underlying5 w2) trodAll_mk0))), rfl, World.keptBut_mono (fun _ hf => hf.elim) hb, fun h => by cases h⟩

theorem verifyLess_holds : Rows.VerifyLessSaid :=
  OpenClaim.holds_of_wide 6 Tryz.f6 rfl rfl rfl rfl rfl rfl rfl ⟨rfl, rfl, rfl, rfl, rfl⟩ rfl rfl rfl rfl rfl (by kernel_rfl) Tryz.func6 verifyLess_facts
    (of_decide_eq_true (by kernel_rfl)) (by unfold Func.isWrapper; first | (rw [if_pos (by decide +kernel)]; kernel_rfl) | (rw [if_neg (by decide +kernel)]; exact ⟨rfl, rfl⟩))
    (fun os started H enc _ => verifyLess_lifted os started H enc)

theorem verifyLess_card : Rows.VerifyLessCardSaid :=
  Claim7.holds_tied_plain_at .later [] [.data, .data, .data, .data, .sentinel, .sentinel, .listed, .data, .pinned, .pinned] true (true, "8d9b754a6cc351bdf752864462b1f606ac3cc82a52de7b448c7b15a8df382ebe") true
    verifyLess_holds (fun _ h => by cases h) (by kernel_rfl) (fun _ h => by cases h) verifyLess_row_tie rfl ⟨rfl, rfl⟩ (by kernel_rfl) rfl
    (fun f fn hf hfn => by
      obtain rfl : f = 6 := Option.some.inj ((show Tryz.prog.funcNamed "cardindex/cardindexlaw17.VerifyLess" = some 6 by kernel_rfl).symm.trans hf) |>.symm
      obtain rfl : fn = Tryz.f6 := (Option.some.inj (Tryz.func6.symm.trans hfn)).symm
      exact ⟨by kernel_rfl, fun j t ht => by
        rw [Tryz.params6] at ht
        have hm : t ∈ [5, 5, 5] := by simpa using Array.mem_of_getElem? ht
        have hall : ([5, 5, 5].all fun u => !Tryz.prog.wantsStandIn u) = true := by kernel_rfl
        exact (show Tryz.prog.wantsStandIn t = false by simpa using List.all_eq_true.1 hall t hm)⟩)
    (by kernel_rfl)
#print axioms verifyLess_card
end Go.Proofs.YtldafmcioaijkaaGreatDoor
