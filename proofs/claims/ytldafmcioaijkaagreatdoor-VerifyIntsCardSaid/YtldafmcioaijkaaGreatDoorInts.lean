/-
  cardindexlaw17.VerifyInts returns true at every two arguments (any uint8, any bool) and leaves them alone, where the ten listed variables of the library hold what the program text lays; the card ties these to the text. Proved by running the law on named blocks, once for each number left by 10 and each bool, in the kernel, and by the proof that such a run is what the model does on every schedule.
-/
import Derived.Test.YtldafmcioaijkaaGreatDoorAbS2
import Derived.Test.YtldafmcioaijkaaGreatDoorIntsRuns0
import Derived.Test.YtldafmcioaijkaaGreatDoorIntsRuns1
import Derived.Test.YtldafmcioaijkaaGreatDoorIntsRuns2
import Derived.Test.YtldafmcioaijkaaGreatDoorIntsRuns3
import Derived.Test.YtldafmcioaijkaaGreatDoorIntsFacts
import Derived.Test.YtldafmcioaijkaaGreatDoorCards
import Derived.Test.YtldafmcioaijkaaGreatDoorTie
import Derived.WalkKit
import Derived.ProofKit
import Derived.OpenShut
import Derived.Lay
import Derived.LaidOnce
import Derived.SevenTiedAt
namespace Go.Proofs.YtldafmcioaijkaaGreatDoor
open Go.ChangeShapes Go.WideShapes Go.ChangeAt Go.RowKit

theorem ints_runs (r : Nat) (hr : r < 10) (b : Bool) : runs 5 [.nil (10 + 2 * (r + 256 * 10)), .bool b] = true := by
  cases b
  · match r, hr with
    | 0, _ => exact ints_0_false
    | 1, _ => exact ints_1_false
    | 2, _ => exact ints_2_false
    | 3, _ => exact ints_3_false
    | 4, _ => exact ints_4_false
    | 5, _ => exact ints_5_false
    | 6, _ => exact ints_6_false
    | 7, _ => exact ints_7_false
    | 8, _ => exact ints_8_false
    | 9, _ => exact ints_9_false
  · match r, hr with
    | 0, _ => exact ints_0_true
    | 1, _ => exact ints_1_true
    | 2, _ => exact ints_2_true
    | 3, _ => exact ints_3_true
    | 4, _ => exact ints_4_true
    | 5, _ => exact ints_5_true
    | 6, _ => exact ints_6_true
    | 7, _ => exact ints_7_true
    | 8, _ => exact ints_8_true
    | 9, _ => exact ints_9_true
theorem verifyInts_walk (a0 : Int) (w0 : (Lit.int .u8 a0).wf = true) (a1 : Bool) (w : World) (h : laidMet Tryz.prog Rows.verifyIntsRow.laid w) :
    Calls Tryz.prog 5 #[.int .u8 a0, .bool a1] w fun e w' => e = .returned (.bool true) ∧ w.keptBut w' fun _ => False := by
  have hb : 0 ≤ a0 ∧ a0 < 256 := by
    have : 0 ≤ a0 ∧ a0 ≤ 255 := by simpa [Lit.wf, IntKind.min, IntKind.max, IntKind.signed, IntKind.bits] using w0
    omega
  exact law0 (args := [.nil (10 + 2 * (a0.toNat % 10 + 256 * 10)), .bool a1]) (args' := [.int .u8 a0, .bool a1]) Tryz.func5 (by kernel_rfl) rfl (ints_runs _ (Nat.mod_lt _ (by omega)) a1) h (by simp [Rows.verifyIntsRow])
    (.cons _ _ _ _ (Go.Ab.VR.rest 10 (by omega) (by omega) hb.1 hb.2) (.cons _ _ _ _ (.bool _) .nil))

set_option maxRecDepth 100000 in
theorem verifyInts_lifted (os : Os) (started : os.Started) (H : Type) (enc : TypeId × Value → H) :
    ReturnsInHanded {} Tryz.checked os 5 .any (fun w args => (Rows.verifyIntsSpec.pre enc Tryz.prog Tryz.f5 [] false w args ∧ laidMetH Tryz.prog Rows.verifyIntsRow.laid w) ∧ sizedMet enc Tryz.prog Tryz.f5 (OpenSpec.ofChange Rows.verifyIntsSpec) false w args)
      (Rows.verifyIntsSpec.post enc Tryz.prog Tryz.f5 false true false false) := by
  refine returnsInHanded_of_change_and (C := Tryz.checked) (X := fun w _ => laidMetH Tryz.prog Rows.verifyIntsRow.laid w) (fun _ _ _ hh h => h.of_heap hh) own0 started (by kernel_rfl) Tryz.func5
    (ChangeSpec.witness_shaped (enc := enc) (C := Tryz.checked) (os := os) (X := fun w _ => laidMetH Tryz.prog Rows.verifyIntsRow.laid w) false (World.laidAll Tryz.prog os Rows.verifyIntsRow.laid) #[.int .u8 0, .bool false] 8 (World.laidAll_os _ _ _)
      (World.shaped_of_ZipB (by kernel_rfl) (by kernel_rfl)) (by kernel_rfl) (by kernel_rfl) (by kernel_rfl)
      (by rw [MakeChecks.laidMetH_plain _ _ _ (by kernel_rfl)]; exact laidMet_laidAll _ (by kernel_rfl) (by kernel_rfl))) ?_
  intro W base args ds gs before hval0 hW _ _ hL _
  have hval : ∀ (j : Nat) t v, Tryz.f5.params[j]? = some t → args[j]? = some v → Value.okWide Tryz.prog W .any base t v := hval0
  have hW' := hW
  obtain ⟨p, q, hA0, hV, rfl, hfz, hnd⟩ := hW
  have hA : DataW.TrodAll enc Tryz.prog W 0 (fun _ => true) true Tryz.f5.params.toList args.toList ds p := hA0
  rw [Tryz.params5] at hA hval
  obtain ⟨v0, vs0, d0, ds0, p0, q0, hargs, rfl, rfl, h0, r0⟩ := trodAll_cons hA
  obtain ⟨v1, vs1, d1, ds1, p1, q1, rfl, rfl, rfl, h1, r1⟩ := trodAll_cons r0
  obtain ⟨rfl, rfl, rfl⟩ := trodAll_nil r1
  obtain rfl : args = #[v0, v1] := by cases args; simp_all
  obtain ⟨rfl, rfl⟩ := trodVars_none hV
  obtain ⟨a0, rfl, rfl, rfl, w0⟩ := open_int Tryz.underlying5 (hval 0 5 v0 rfl rfl) h0
  obtain ⟨a1, rfl, rfl, rfl⟩ := open_bool Tryz.underlying4 (hval 1 4 v1 rfl rfl) h1
  clear hA0 hval0
  simp only [List.append_nil] at hW'
  rw [MakeChecks.laidMetH_plain _ _ _ (by kernel_rfl)] at hL
  refine (verifyInts_walk a0 w0 a1 W hL).mono fun e W' ⟨he, hb⟩ => ?_
  subst he
  exact ⟨_, rfl, _, _, _, [], [], [], hW', trodAll_mk1 (shut_bool Tryz.underlying4 _), (trodAll_cons_mk (shut_int Tryz.underlying5 w0) (trodAll_cons_mk (shut_bool Tryz.underlying4 _) trodAll_mk0)), rfl, World.keptBut_mono (fun _ hf => hf.elim) hb, fun h => by cases h⟩

theorem verifyInts_holds : Rows.VerifyIntsSaid :=
  OpenClaim.holds_of_wide 5 Tryz.f5 rfl rfl rfl rfl rfl rfl rfl ⟨rfl, rfl, rfl, rfl, rfl⟩ rfl rfl rfl rfl rfl (by kernel_rfl) Tryz.func5 verifyInts_facts
    (of_decide_eq_true (by kernel_rfl)) (by unfold Func.isWrapper; first | (rw [if_pos (by decide +kernel)]; kernel_rfl) | (rw [if_neg (by decide +kernel)]; exact ⟨rfl, rfl⟩))
    (fun os started H enc _ => verifyInts_lifted os started H enc)

theorem verifyInts_card : Rows.VerifyIntsCardSaid :=
  Claim7.holds_tied_plain_at .later [] [.data, .data, .data, .data, .sentinel, .sentinel, .listed, .data, .pinned, .pinned] true (true, "8d9b754a6cc351bdf752864462b1f606ac3cc82a52de7b448c7b15a8df382ebe") true
    verifyInts_holds (fun _ h => by cases h) (by kernel_rfl) (fun _ h => by cases h) verifyInts_row_tie rfl ⟨rfl, rfl⟩ (by kernel_rfl) rfl
    (fun f fn hf hfn => by
      obtain rfl : f = 5 := Option.some.inj ((show Tryz.prog.funcNamed "cardindex/cardindexlaw17.VerifyInts" = some 5 by kernel_rfl).symm.trans hf) |>.symm
      obtain rfl : fn = Tryz.f5 := (Option.some.inj (Tryz.func5.symm.trans hfn)).symm
      exact ⟨by kernel_rfl, fun j t ht => by
        rw [Tryz.params5] at ht
        have hm : t ∈ [5, 4] := by simpa using Array.mem_of_getElem? ht
        have hall : ([5, 4].all fun u => !Tryz.prog.wantsStandIn u) = true := by kernel_rfl
        exact (show Tryz.prog.wantsStandIn t = false by simpa using List.all_eq_true.1 hall t hm)⟩)
    (by kernel_rfl)
#print axioms verifyInts_card
end Go.Proofs.YtldafmcioaijkaaGreatDoor
