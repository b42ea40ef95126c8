/-
  cardindexlaw17.VerifyLoops returns true at every two arguments (any uint8 each) and leaves them alone, where the ten listed variables of the library hold what the program text lays; the card ties these to the text. Proved by running the law on named blocks, once for each of what is left of its numbers by 6 and 21, in the kernel, and by the proof that such a run is what the model does on every schedule.
-/
import Derived.Test.YtldafmcioaijkaaGreatDoorLoopsR1a
import Derived.Test.YtldafmcioaijkaaGreatDoorLoopsR1b
import Derived.Test.YtldafmcioaijkaaGreatDoorLoopsR2a
import Derived.Test.YtldafmcioaijkaaGreatDoorLoopsR2b
import Derived.Test.YtldafmcioaijkaaGreatDoorLoopsR3a
import Derived.Test.YtldafmcioaijkaaGreatDoorLoopsR3b
import Derived.Test.YtldafmcioaijkaaGreatDoorLoopsR4a
import Derived.Test.YtldafmcioaijkaaGreatDoorLoopsR4b
import Derived.Test.YtldafmcioaijkaaGreatDoorLoopsR4c
import Derived.Test.YtldafmcioaijkaaGreatDoorLoopsR5a
import Derived.Test.YtldafmcioaijkaaGreatDoorLoopsR5b
import Derived.Test.YtldafmcioaijkaaGreatDoorLoopsR5c
import Derived.Test.YtldafmcioaijkaaGreatDoorLoopsR6a
import Derived.Test.YtldafmcioaijkaaGreatDoorLoopsR6b
import Derived.Test.YtldafmcioaijkaaGreatDoorLoopsR6c
import Derived.Test.YtldafmcioaijkaaGreatDoorLoopsFacts
import Derived.Test.YtldafmcioaijkaaGreatDoorCards
import Derived.Test.YtldafmcioaijkaaGreatDoorTie
import Derived.WalkKit
import Derived.ProofKit
import Derived.OpenShut
import Derived.Lay
import Derived.LaidOnce
import Derived.SevenTiedAt
namespace Go.Proofs.YtldafmcioaijkaaGreatDoor
open Go.ChangeShapes Go.WideShapes Go.ChangeAt Go.RowKit

theorem loops_runs1 (r : Nat) (hr : r < 21) : runsW all1 3 [.nil (10 + 2 * (0 + 256 * 6)), .nil (10 + 2 * (r + 256 * 21))] = true := by
  match r, hr with
  | 0, _ => exact loops_1_0
  | 1, _ => exact loops_1_1
  | 2, _ => exact loops_1_2
  | 3, _ => exact loops_1_3
  | 4, _ => exact loops_1_4
  | 5, _ => exact loops_1_5
  | 6, _ => exact loops_1_6
  | 7, _ => exact loops_1_7
  | 8, _ => exact loops_1_8
  | 9, _ => exact loops_1_9
  | 10, _ => exact loops_1_10
  | 11, _ => exact loops_1_11
  | 12, _ => exact loops_1_12
  | 13, _ => exact loops_1_13
  | 14, _ => exact loops_1_14
  | 15, _ => exact loops_1_15
  | 16, _ => exact loops_1_16
  | 17, _ => exact loops_1_17
  | 18, _ => exact loops_1_18
  | 19, _ => exact loops_1_19
  | 20, _ => exact loops_1_20
  | m + 21, h => exact absurd h (by omega)
theorem loops_runs2 (r : Nat) (hr : r < 21) : runsW all2 3 [.nil (10 + 2 * (1 + 256 * 6)), .nil (10 + 2 * (r + 256 * 21))] = true := by
  match r, hr with
  | 0, _ => exact loops_2_0
  | 1, _ => exact loops_2_1
  | 2, _ => exact loops_2_2
  | 3, _ => exact loops_2_3
  | 4, _ => exact loops_2_4
  | 5, _ => exact loops_2_5
  | 6, _ => exact loops_2_6
  | 7, _ => exact loops_2_7
  | 8, _ => exact loops_2_8
  | 9, _ => exact loops_2_9
  | 10, _ => exact loops_2_10
  | 11, _ => exact loops_2_11
  | 12, _ => exact loops_2_12
  | 13, _ => exact loops_2_13
  | 14, _ => exact loops_2_14
  | 15, _ => exact loops_2_15
  | 16, _ => exact loops_2_16
  | 17, _ => exact loops_2_17
  | 18, _ => exact loops_2_18
  | 19, _ => exact loops_2_19
  | 20, _ => exact loops_2_20
  | m + 21, h => exact absurd h (by omega)
theorem loops_runs3 (r : Nat) (hr : r < 21) : runsW all3 3 [.nil (10 + 2 * (2 + 256 * 6)), .nil (10 + 2 * (r + 256 * 21))] = true := by
  match r, hr with
  | 0, _ => exact loops_3_0
  | 1, _ => exact loops_3_1
  | 2, _ => exact loops_3_2
  | 3, _ => exact loops_3_3
  | 4, _ => exact loops_3_4
  | 5, _ => exact loops_3_5
  | 6, _ => exact loops_3_6
  | 7, _ => exact loops_3_7
  | 8, _ => exact loops_3_8
  | 9, _ => exact loops_3_9
  | 10, _ => exact loops_3_10
  | 11, _ => exact loops_3_11
  | 12, _ => exact loops_3_12
  | 13, _ => exact loops_3_13
  | 14, _ => exact loops_3_14
  | 15, _ => exact loops_3_15
  | 16, _ => exact loops_3_16
  | 17, _ => exact loops_3_17
  | 18, _ => exact loops_3_18
  | 19, _ => exact loops_3_19
  | 20, _ => exact loops_3_20
  | m + 21, h => exact absurd h (by omega)
theorem loops_runs4 (r : Nat) (hr : r < 21) : runsW all4 3 [.nil (10 + 2 * (3 + 256 * 6)), .nil (10 + 2 * (r + 256 * 21))] = true := by
  match r, hr with
  | 0, _ => exact loops_4_0
  | 1, _ => exact loops_4_1
  | 2, _ => exact loops_4_2
  | 3, _ => exact loops_4_3
  | 4, _ => exact loops_4_4
  | 5, _ => exact loops_4_5
  | 6, _ => exact loops_4_6
  | 7, _ => exact loops_4_7
  | 8, _ => exact loops_4_8
  | 9, _ => exact loops_4_9
  | 10, _ => exact loops_4_10
  | 11, _ => exact loops_4_11
  | 12, _ => exact loops_4_12
  | 13, _ => exact loops_4_13
  | 14, _ => exact loops_4_14
  | 15, _ => exact loops_4_15
  | 16, _ => exact loops_4_16
  | 17, _ => exact loops_4_17
  | 18, _ => exact loops_4_18
  | 19, _ => exact loops_4_19
  | 20, _ => exact loops_4_20
  | m + 21, h => exact absurd h (by omega)
theorem loops_runs5 (r : Nat) (hr : r < 21) : runsW all5 3 [.nil (10 + 2 * (4 + 256 * 6)), .nil (10 + 2 * (r + 256 * 21))] = true := by
  match r, hr with
  | 0, _ => exact loops_5_0
  | 1, _ => exact loops_5_1
  | 2, _ => exact loops_5_2
  | 3, _ => exact loops_5_3
  | 4, _ => exact loops_5_4
  | 5, _ => exact loops_5_5
  | 6, _ => exact loops_5_6
  | 7, _ => exact loops_5_7
  | 8, _ => exact loops_5_8
  | 9, _ => exact loops_5_9
  | 10, _ => exact loops_5_10
  | 11, _ => exact loops_5_11
  | 12, _ => exact loops_5_12
  | 13, _ => exact loops_5_13
  | 14, _ => exact loops_5_14
  | 15, _ => exact loops_5_15
  | 16, _ => exact loops_5_16
  | 17, _ => exact loops_5_17
  | 18, _ => exact loops_5_18
  | 19, _ => exact loops_5_19
  | 20, _ => exact loops_5_20
  | m + 21, h => exact absurd h (by omega)
theorem loops_runs6 (r : Nat) (hr : r < 21) : runsW all6 3 [.nil (10 + 2 * (5 + 256 * 6)), .nil (10 + 2 * (r + 256 * 21))] = true := by
  match r, hr with
  | 0, _ => exact loops_6_0
  | 1, _ => exact loops_6_1
  | 2, _ => exact loops_6_2
  | 3, _ => exact loops_6_3
  | 4, _ => exact loops_6_4
  | 5, _ => exact loops_6_5
  | 6, _ => exact loops_6_6
  | 7, _ => exact loops_6_7
  | 8, _ => exact loops_6_8
  | 9, _ => exact loops_6_9
  | 10, _ => exact loops_6_10
  | 11, _ => exact loops_6_11
  | 12, _ => exact loops_6_12
  | 13, _ => exact loops_6_13
  | 14, _ => exact loops_6_14
  | 15, _ => exact loops_6_15
  | 16, _ => exact loops_6_16
  | 17, _ => exact loops_6_17
  | 18, _ => exact loops_6_18
  | 19, _ => exact loops_6_19
  | 20, _ => exact loops_6_20
  | m + 21, h => exact absurd h (by omega)
theorem loops_runs (d r : Nat) (hd : d < 6) (hr : r < 21) : ∃ l : List Go.Ab.Kn, (∀ q ∈ l, Known q) ∧ runsW l 3 [.nil (10 + 2 * (d + 256 * 6)), .nil (10 + 2 * (r + 256 * 21))] = true := by
  match d, hd with
  | 0, _ => exact ⟨all1, all1_known, loops_runs1 r hr⟩
  | 1, _ => exact ⟨all2, all2_known, loops_runs2 r hr⟩
  | 2, _ => exact ⟨all3, all3_known, loops_runs3 r hr⟩
  | 3, _ => exact ⟨all4, all4_known, loops_runs4 r hr⟩
  | 4, _ => exact ⟨all5, all5_known, loops_runs5 r hr⟩
  | 5, _ => exact ⟨all6, all6_known, loops_runs6 r hr⟩
theorem loops_u8 {a : Int} (h : (Lit.int .u8 a).wf = true) : 0 ≤ a ∧ a < 256 := by
  have : 0 ≤ a ∧ a ≤ 255 := by simpa [Lit.wf, IntKind.min, IntKind.max, IntKind.signed, IntKind.bits] using h
  omega
theorem verifyLoops_walk (a0 : Int) (w0 : (Lit.int .u8 a0).wf = true) (a1 : Int) (w1 : (Lit.int .u8 a1).wf = true) (w : World) (h : laidMet Tryz.prog Rows.verifyLoopsRow.laid w) :
    Calls Tryz.prog 3 #[.int .u8 a0, .int .u8 a1] w fun e w' => e = .returned (.bool true) ∧ w.keptBut w' fun _ => False := by
  have h0 := loops_u8 w0
  have h1 := loops_u8 w1
  obtain ⟨l, hl, hx⟩ := loops_runs (a0.toNat % 6) (a1.toNat % 21) (Nat.mod_lt _ (by omega)) (Nat.mod_lt _ (by omega))
  exact lawW hl (args := [.nil (10 + 2 * (a0.toNat % 6 + 256 * 6)), .nil (10 + 2 * (a1.toNat % 21 + 256 * 21))]) (args' := [.int .u8 a0, .int .u8 a1]) Tryz.func3 (by kernel_rfl) rfl hx h (by simp [Rows.verifyLoopsRow])
    (.cons _ _ _ _ (Go.Ab.VR.rest 6 (by omega) (by omega) h0.1 h0.2) (.cons _ _ _ _ (Go.Ab.VR.rest 21 (by omega) (by omega) h1.1 h1.2) .nil))

set_option maxRecDepth 100000 in
theorem verifyLoops_lifted (os : Os) (started : os.Started) (H : Type) (enc : TypeId × Value → H) :
    ReturnsInHanded {} Tryz.checked os 3 .any (fun w args => (Rows.verifyLoopsSpec.pre enc Tryz.prog Tryz.f3 [] false w args ∧ laidMetH Tryz.prog Rows.verifyLoopsRow.laid w) ∧ sizedMet enc Tryz.prog Tryz.f3 (OpenSpec.ofChange Rows.verifyLoopsSpec) false w args)
      (Rows.verifyLoopsSpec.post enc Tryz.prog Tryz.f3 false true false false) := by
  refine returnsInHanded_of_change_and (C := Tryz.checked) (X := fun w _ => laidMetH Tryz.prog Rows.verifyLoopsRow.laid w) (fun _ _ _ hh h => h.of_heap hh) own0 started (by kernel_rfl) Tryz.func3
    (ChangeSpec.witness_shaped (enc := enc) (C := Tryz.checked) (os := os) (X := fun w _ => laidMetH Tryz.prog Rows.verifyLoopsRow.laid w) false (World.laidAll Tryz.prog os Rows.verifyLoopsRow.laid) #[.int .u8 0, .int .u8 0] 8 (World.laidAll_os _ _ _)
      (World.shaped_of_ZipB (by kernel_rfl) (by kernel_rfl)) (by kernel_rfl) (by kernel_rfl) (by kernel_rfl)
      (by rw [MakeChecks.laidMetH_plain _ _ _ (by kernel_rfl)]; exact laidMet_laidAll _ (by kernel_rfl) (by kernel_rfl))) ?_
  intro W base args ds gs before hval0 hW _ _ hL _
  have hval : ∀ (j : Nat) t v, Tryz.f3.params[j]? = some t → args[j]? = some v → Value.okWide Tryz.prog W .any base t v := hval0
  have hW' := hW
  obtain ⟨p, q, hA0, hV, rfl, hfz, hnd⟩ := hW
  have hA : DataW.TrodAll enc Tryz.prog W 0 (fun _ => true) true Tryz.f3.params.toList args.toList ds p := hA0
  rw [Tryz.params3] at hA hval
  obtain ⟨v0, vs0, d0, ds0, p0, q0, hargs, rfl, rfl, h0, r0⟩ := trodAll_cons hA
  obtain ⟨v1, vs1, d1, ds1, p1, q1, rfl, rfl, rfl, h1, r1⟩ := trodAll_cons r0
  obtain ⟨rfl, rfl, rfl⟩ := trodAll_nil r1
  obtain rfl : args = #[v0, v1] := by cases args; simp_all
  obtain ⟨rfl, rfl⟩ := trodVars_none hV
  obtain ⟨a0, rfl, rfl, rfl, w0⟩ := open_int Tryz.underlying5 (hval 0 5 v0 rfl rfl) h0
  obtain ⟨a1, rfl, rfl, rfl, w1⟩ := open_int Tryz.underlying5 (hval 1 5 v1 rfl rfl) h1
  clear hA0 hval0
  simp only [List.append_nil] at hW'
  rw [MakeChecks.laidMetH_plain _ _ _ (by kernel_rfl)] at hL
  refine (verifyLoops_walk a0 w0 a1 w1 W hL).mono fun e W' ⟨he, hb⟩ => ?_
  subst he
  exact ⟨_, rfl, _, _, _, [], [], [], hW', trodAll_mk1 (shut_bool Tryz.underlying4 _), (trodAll_cons_mk (shut_int Tryz.underlying5 w0) (trodAll_cons_mk (shut_int Tryz.underlying5 w1) trodAll_mk0)), rfl, World.keptBut_mono (fun _ hf => hf.elim) hb, fun h => by cases h⟩

theorem verifyLoops_holds : Rows.VerifyLoopsSaid :=
  OpenClaim.holds_of_wide 3 Tryz.f3 rfl rfl rfl rfl rfl rfl rfl ⟨rfl, rfl, rfl, rfl, rfl⟩ rfl rfl rfl rfl rfl (by kernel_rfl) Tryz.func3 verifyLoops_facts
    (of_decide_eq_true (by kernel_rfl)) (by unfold Func.isWrapper; first | (rw [if_pos (by decide +kernel)]; kernel_rfl) | (rw [if_neg (by decide +kernel)]; exact ⟨rfl, rfl⟩))
    (fun os started H enc _ => verifyLoops_lifted os started H enc)

theorem verifyLoops_card : Rows.VerifyLoopsCardSaid :=
  Claim7.holds_tied_plain_at .later [] [.data, .data, .data, .data, .sentinel, .sentinel, .listed, .data, .pinned, .pinned] true (true, "8d9b754a6cc351bdf752864462b1f606ac3cc82a52de7b448c7b15a8df382ebe") true
    verifyLoops_holds (fun _ h => by cases h) (by kernel_rfl) (fun _ h => by cases h) verifyLoops_row_tie rfl ⟨rfl, rfl⟩ (by kernel_rfl) rfl
    (fun f fn hf hfn => by
      obtain rfl : f = 3 := Option.some.inj ((show Tryz.prog.funcNamed "cardindex/cardindexlaw17.VerifyLoops" = some 3 by kernel_rfl).symm.trans hf) |>.symm
      obtain rfl : fn = Tryz.f3 := (Option.some.inj (Tryz.func3.symm.trans hfn)).symm
      exact ⟨by kernel_rfl, fun j t ht => by
        rw [Tryz.params3] at ht
        have hm : t ∈ [5, 5] := by simpa using Array.mem_of_getElem? ht
        have hall : ([5, 5].all fun u => !Tryz.prog.wantsStandIn u) = true := by kernel_rfl
        exact (show Tryz.prog.wantsStandIn t = false by simpa using List.all_eq_true.1 hall t hm)⟩)
    (by kernel_rfl)
#print axioms verifyLoops_card
end Go.Proofs.YtldafmcioaijkaaGreatDoor
