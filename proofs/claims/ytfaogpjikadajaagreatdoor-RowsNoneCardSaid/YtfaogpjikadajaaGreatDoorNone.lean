/-
  cardindexlaw18.RowsNone returns true at every two arguments (any operation, any values) and leaves them reading as they read, where the ten listed variables of the library hold what the program text lays; the card ties these to the text. Proved by running the law on named blocks, once for each number that is left of the operation's kind by 7, in the kernel, where the rest of the operation and the values stay opaque cells, and by the proof that such a run is what the model does on every schedule.
-/
import Derived.Test.YtfaogpjikadajaaGreatDoorLaw
import Derived.Test.YtfaogpjikadajaaGreatDoorNoneW
import Derived.Test.YtfaogpjikadajaaGreatDoorNoneG
import Derived.Test.YtfaogpjikadajaaGreatDoorFacts
import Derived.Test.YtfaogpjikadajaaGreatDoorCards
import Derived.Test.YtfaogpjikadajaaGreatDoorTie
import Derived.WalkKit
import Derived.ProofKit
import Derived.OpenShut
import Derived.Lay
import Derived.LaidOnce
import Derived.SevenTiedAt
namespace Go.Proofs.YtfaogpjikadajaaGreatDoor
open Go.ChangeShapes Go.WideShapes Go.ChangeAt Go.RowKit
set_option maxRecDepth 100000 in
theorem rowsNone_lifted (os : Os) (started : os.Started) (H : Type) (enc : TypeId × Value → H) :
    ReturnsInHanded {} Tryz.checked os 3 .any (fun w args => (Rows.rowsNoneSpec.pre enc Tryz.prog Tryz.f3 [] false w args ∧ laidMetH Tryz.prog Rows.rowsNoneRow.laid w) ∧ sizedMet enc Tryz.prog Tryz.f3 (OpenSpec.ofChange Rows.rowsNoneSpec) false w args)
      (Rows.rowsNoneSpec.post enc Tryz.prog Tryz.f3 false true false false) := by
  refine returnsInHanded_of_change_and (C := Tryz.checked) (X := fun w _ => laidMetH Tryz.prog Rows.rowsNoneRow.laid w) (fun _ _ _ hh h => h.of_heap hh) own0 started (by kernel_rfl) Tryz.func3
    (ChangeSpec.witness_shaped (enc := enc) (C := Tryz.checked) (os := os) (X := fun w _ => laidMetH Tryz.prog Rows.rowsNoneRow.laid w) false (World.laidAll Tryz.prog os Rows.rowsNoneRow.laid) #[.agg #[.int .i64 0, .string .empty, .int .i64 0, .slice none 0 0, .int .u8 0, .string .empty, .string .empty, .slice none 0 0, .slice none 0 0, .slice none 0 0, .slice none 0 0, .slice none 0 0, .slice none 0 0, .slice none 0 0, .bool false, .int .i64 0], .slice none 0 0] 8 (World.laidAll_os _ _ _)
      (World.shaped_of_ZipB (by kernel_rfl) (by kernel_rfl)) (by kernel_rfl) (by kernel_rfl) (by kernel_rfl)
      (by rw [MakeChecks.laidMetH_plain _ _ _ (by kernel_rfl)]; exact laidMet_laidAll _ (by kernel_rfl) (by kernel_rfl))) ?_
  intro W base args ds gs before hval0 hW _ _ hL _
  have hval : ∀ (j : Nat) t v, Tryz.f3.params[j]? = some t → args[j]? = some v → Value.okWide Tryz.prog W .any base t v := hval0
  have hW' := hW
  obtain ⟨p, q, hA0, hV, rfl, hfz, hnd⟩ := hW
  have hA : DataW.TrodAll enc Tryz.prog W 0 (fun _ => true) true Tryz.f3.params.toList args.toList ds p := hA0
  rw [Tryz.params3] at hA hval
  obtain ⟨v0, v1, d0, d1, p0, p1, rfl, rfl, rfl, h0, h1⟩ := trodAll_two hA
  obtain ⟨rfl, rfl⟩ := trodVars_none hV
  clear hA0 hval0
  simp only [List.append_nil] at hW'
  rw [MakeChecks.laidMetH_plain _ _ _ (by kernel_rfl)] at hL
  obtain ⟨n, l, rfl, hl, hone⟩ := rowsNone_open (hval 0 35 v0 rfl rfl)
  have g1 := Go.Ab.okWide_one (okWide_slc Tryz.underlying22 (hval 1 22 v1 rfl rfl))
  have hlt : ∀ x ∈ p0 ++ p1, x.block < W.heap.size := fun x hx => by simpa using hW'.lt x hx
  refine (rowsNone_walk n l hl hone v1 g1 W hL).mono fun e W' ⟨he, ho, hout, hb⟩ => ?_
  subst he
  refine ⟨_, rfl, _, _, _, [], _, [], hW', trodAll_mk1 (shut_bool Tryz.underlying4 _),
    trodAll_mk2 (WideElems.Trod_stays rowsNone_out rowsNone_rec0 rowsNone_lt0 h0 (fun x hx => Go.Ab.sameAt_kept hb (hlt x (List.mem_append_left _ hx))) (fun x hx => by simpa using hlt x (List.mem_append_left _ hx)))
      (WideElems.Trod_stays rowsNone_out rowsNone_rec1 rowsNone_lt1 h1 (fun x hx => Go.Ab.sameAt_kept hb (hlt x (List.mem_append_right _ hx))) (fun x hx => by simpa using hlt x (List.mem_append_right _ hx))), rfl, World.keptBut_mono (fun _ hf => hf.elim) (keptBut_of ho hout hb), fun h => by cases h⟩

theorem rowsNone_holds : Rows.RowsNoneSaid :=
  OpenClaim.holds_of_wide 3 Tryz.f3 rfl rfl rfl rfl rfl rfl rfl ⟨rfl, rfl, rfl, rfl, rfl⟩ rfl rfl rfl rfl rfl (by kernel_rfl) Tryz.func3 rowsNone_facts
    (of_decide_eq_true (by kernel_rfl)) (by unfold Func.isWrapper; first | (rw [if_pos (by decide +kernel)]; kernel_rfl) | (rw [if_neg (by decide +kernel)]; exact ⟨rfl, rfl⟩))
    (fun os started H enc _ => rowsNone_lifted os started H enc)

theorem rowsNone_card : Rows.RowsNoneCardSaid :=
  Claim7.holds_tied_plain_at .later [] [.data, .data, .data, .data, .sentinel, .sentinel, .listed, .data, .pinned, .pinned] true (true, "c9d2aa006ead1ccaf299f6d600c418287acc533d96721c3c893dca1d9341f4a1") true
    rowsNone_holds (fun _ h => by cases h) rowsNone_text (fun _ h => by cases h) rowsNone_row_tie rfl ⟨rfl, rfl⟩ rowsNone_main rfl
    (fun f fn hf hfn => by
      obtain rfl : f = 3 := Option.some.inj (rowsNone_named.symm.trans hf) |>.symm
      obtain rfl : fn = Tryz.f3 := (Option.some.inj (Tryz.func3.symm.trans hfn)).symm
      exact ⟨rowsNone_looks, fun j t ht => by
        rw [Tryz.params3] at ht
        have hm : t ∈ [35, 22] := by simpa using Array.mem_of_getElem? ht
        have hall : ([35, 22].all fun u => !Tryz.prog.wantsStandIn u) = true := by kernel_rfl
        exact (show Tryz.prog.wantsStandIn t = false by simpa using List.all_eq_true.1 hall t hm)⟩)
    rowsNone_goes
#print axioms rowsNone_card
end Go.Proofs.YtfaogpjikadajaaGreatDoor
