/-
  cardindexlaw20.GenMany returns true at every argument (any number below 256) and leaves it reading as it reads, where the two listed variables of the library hold what the program text lays; the card ties these to the text. The constants are followed by hand through any memory; the law's examples are a closed run on named blocks.
-/
import Derived.Test.YtkpaphoeldcakaaDoorAw
import Derived.Test.YtkpaphoeldcakaaDoorGenManyFacts
import Derived.Test.YtkpaphoeldcakaaDoorG5
import Derived.Test.YtkpaphoeldcakaaDoorCards
import Derived.Test.YtkpaphoeldcakaaDoorTie
import Derived.WalkKit
import Derived.ProofKit
import Derived.OpenShut
import Derived.Lay
import Derived.LaidOnce
import Derived.SevenTiedAt
namespace Go.Proofs.YtkpaphoeldcakaaDoor
open Go.ChangeShapes Go.WideShapes Go.ChangeAt Go.RowKit
theorem genMany_walk (a0 : Int) (w0 : (Lit.int .u8 a0).wf = true) (w : World) (h : laidMet Tryd.prog Rows.genManyRow.laid w) :
    Calls Tryd.prog 4 #[.int .u8 a0] w fun e w' => e = .returned (.bool true) ∧ w.keptBut w' fun _ => False := by
  have b0 : 0 ≤ a0 ∧ a0 < 256 := by
    have : 0 ≤ a0 ∧ a0 ≤ 255 := by simpa [Lit.wf, IntKind.min, IntKind.max, IntKind.signed, IntKind.bits] using w0
    omega
  have hm : ("strings.asciiSpace", Rows.laid_strings_asciiSpace) ∈ Rows.genManyRow.laid := by simp [Rows.genManyRow]
  have hh := holds0 h hm
  refine (Gm.many_any a0 w b0.1 b0.2 fun W hb => awake_any (holds_on hh hb.block)).mono fun e w' ⟨h1, h2, h3, h4⟩ => ⟨h1, h2, h3, fun i hi => ?_⟩
  rw [h4 i hi]
  cases w.heap[i]? with
  | none => rfl
  | some o => cases o <;> first | rfl | exact ⟨rfl, rfl, rfl, fun _ _ => rfl⟩ | exact .inr ⟨rfl, rfl⟩

set_option maxRecDepth 100000 in
theorem genMany_lifted (os : Os) (started : os.Started) (H : Type) (enc : TypeId × Value → H) :
    ReturnsInHanded {} Tryd.checked os 4 .any (fun w args => (Rows.genManySpec.pre enc Tryd.prog Tryd.f4 [] false w args ∧ laidMetH Tryd.prog Rows.genManyRow.laid w) ∧ sizedMet enc Tryd.prog Tryd.f4 (OpenSpec.ofChange Rows.genManySpec) false w args)
      (Rows.genManySpec.post enc Tryd.prog Tryd.f4 false true false false) := by
  refine returnsInHanded_of_change_and (C := Tryd.checked) (X := fun w _ => laidMetH Tryd.prog Rows.genManyRow.laid w) (fun _ _ _ hh h => h.of_heap hh) own0 started (by kernel_rfl) Tryd.func4
    (ChangeSpec.witness_shaped (enc := enc) (C := Tryd.checked) (os := os) (X := fun w _ => laidMetH Tryd.prog Rows.genManyRow.laid w) false (World.laidAll Tryd.prog os Rows.genManyRow.laid) #[.int .u8 0] 8 (World.laidAll_os _ _ _)
      (World.shaped_of_ZipB (by kernel_rfl) (by kernel_rfl)) (by kernel_rfl) (by kernel_rfl) (by kernel_rfl)
      (by rw [MakeChecks.laidMetH_plain _ _ _ (by kernel_rfl)]; exact laidMet_laidAll _ (by kernel_rfl) (by kernel_rfl))) ?_
  intro W base args ds gs before hval0 hW _ _ hL _
  have hval : ∀ (j : Nat) t v, Tryd.f4.params[j]? = some t → args[j]? = some v → Value.okWide Tryd.prog W .any base t v := hval0
  have hW' := hW
  obtain ⟨p, q, hA0, hV, rfl, hfz, hnd⟩ := hW
  have hA : DataW.TrodAll enc Tryd.prog W 0 (fun _ => true) true Tryd.f4.params.toList args.toList ds p := hA0
  rw [Tryd.params4] at hA hval
  obtain ⟨v0, vs0, d0, ds0, p0, q0, hargs, rfl, rfl, h0, r0⟩ := trodAll_cons hA
  obtain ⟨rfl, rfl, rfl⟩ := trodAll_nil r0
  obtain rfl : args = #[v0] := by cases args; simp_all
  obtain ⟨rfl, rfl⟩ := trodVars_none hV
  obtain ⟨a0, rfl, rfl, rfl, w0⟩ := open_int Tryd.underlying5 (hval 0 5 v0 rfl rfl) h0
  clear hA0 hval0
  simp only [List.append_nil] at hW'
  rw [MakeChecks.laidMetH_plain _ _ _ (by kernel_rfl)] at hL
  refine (genMany_walk a0 w0 W hL).mono fun e W' ⟨he, hb⟩ => ?_
  subst he
  exact ⟨_, rfl, _, _, _, [], [], [], hW', trodAll_mk1 (shut_bool Tryd.underlying4 _), (trodAll_cons_mk (shut_int Tryd.underlying5 w0) trodAll_mk0), rfl, World.keptBut_mono (fun _ hf => hf.elim) hb, fun h => by cases h⟩

theorem genMany_holds : Rows.GenManySaid :=
  OpenClaim.holds_of_wide 4 Tryd.f4 rfl rfl rfl rfl rfl rfl rfl ⟨rfl, rfl, rfl, rfl, rfl⟩ rfl rfl rfl rfl rfl (by kernel_rfl) Tryd.func4 genMany_facts
    (of_decide_eq_true (by kernel_rfl)) (by unfold Func.isWrapper; first | (rw [if_pos (by decide +kernel)]; kernel_rfl) | (rw [if_neg (by decide +kernel)]; exact ⟨rfl, rfl⟩))
    (fun os started H enc _ => genMany_lifted os started H enc)

theorem genMany_card : Rows.GenManyCardSaid :=
  Claim7.holds_tied_plain_at .later [] [.listed, .data] true (true, "2be0cbd310e9215f79380d7c3340a0601ce62fc708a915b4472c3e0f326b0564") false
    genMany_holds (fun _ h => by cases h) genMany_text (fun _ h => by cases h) genMany_row_tie rfl ⟨rfl, rfl⟩ genMany_main rfl
    (fun f fn hf hfn => by
      obtain rfl : f = 4 := Option.some.inj (genMany_named.symm.trans hf) |>.symm
      obtain rfl : fn = Tryd.f4 := (Option.some.inj (Tryd.func4.symm.trans hfn)).symm
      exact ⟨genMany_looks, fun j t ht => by
        rw [Tryd.params4] at ht
        have hm : t ∈ [5] := by simpa using Array.mem_of_getElem? ht
        have hall : ([5].all fun u => !Tryd.prog.wantsStandIn u) = true := by kernel_rfl
        exact (show Tryd.prog.wantsStandIn t = false by simpa using List.all_eq_true.1 hall t hm)⟩)
    genMany_goes
#print axioms genMany_card
end Go.Proofs.YtkpaphoeldcakaaDoor
