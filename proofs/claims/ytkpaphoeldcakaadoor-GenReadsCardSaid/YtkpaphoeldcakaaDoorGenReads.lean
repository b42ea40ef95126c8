/-
  cardindexlaw20.GenReads returns true at every two arguments (any program, any job) and leaves them reading as they read, where the two listed variables of the library hold what the program text lays; the card ties these to the text. The code is followed by hand through any memory; the law's examples and the tables of words are closed runs on named blocks.
-/
import Derived.Test.YtkpaphoeldcakaaDoorAw
import Derived.Test.YtkpaphoeldcakaaDoorTw
import Derived.Test.YtkpaphoeldcakaaDoorH36
import Derived.Test.YtkpaphoeldcakaaDoorGenReadsFacts
import Derived.Test.YtkpaphoeldcakaaDoorCards
import Derived.Test.YtkpaphoeldcakaaDoorTie
import Derived.WalkKit
import Derived.ProofKit
import Derived.OpenShut
import Derived.Lay
import Derived.LaidOnce
import Derived.SevenTiedAt
namespace Go.Proofs.YtkpaphoeldcakaaDoor
open Go.ChangeShapes Go.WideShapes Go.ChangeAt Go.RowKit
set_option maxRecDepth 100000
theorem genReads_out : laidOutB Tryd.prog = true := by kernel_rfl
theorem genReads_rec0 : Tryd.prog.readableRec 29 = true := by kernel_rfl
theorem genReads_rec1 : Tryd.prog.readableRec 38 = true := by kernel_rfl
theorem genReads_lt0 : 29 < Tryd.prog.types.size := of_decide_eq_true (by kernel_rfl)
theorem genReads_lt1 : 38 < Tryd.prog.types.size := of_decide_eq_true (by kernel_rfl)
theorem genReads_kept {w w' : World} (h2 : w'.os = w.os) (h3 : w'.output = w.output) (h4 : ∀ i, i < w.heap.size → w'.heap[i]? = w.heap[i]?) : w.keptBut w' fun _ => False := by
  refine ⟨h2, h3, fun i hi => ?_⟩
  rw [h4 i hi]
  cases w.heap[i]? with
  | none => rfl
  | some o => cases o <;> first | rfl | exact ⟨rfl, rfl, rfl, fun _ _ => rfl⟩ | exact .inr ⟨rfl, rfl⟩
theorem genReads_agg {w : World} {base t : Nat} {fs : Array Field} {v : Value} (ht : Tryd.prog.underlying t = some (.struct fs)) (h : Value.okWide Tryd.prog w .any base t v) : ∃ cs, v = .agg cs := by
  unfold Value.okWide at h
  rw [ht] at h
  obtain ⟨cs, h1, _⟩ := h
  exact ⟨cs, h1⟩
theorem genReads_walk {H : Type} {enc : TypeId × Value → H} (W : World) (c0 c1 : Array Value) (d0 d1 : DataW H) (p0 p1 : List MemPlace) (hL : laidMet Tryd.prog Rows.genReadsRow.laid W)
    (h0 : DataW.Trod enc Tryd.prog W 0 (fun _ => true) true 29 (.agg c0) d0 p0) (h1 : DataW.Trod enc Tryd.prog W 0 (fun _ => true) true 38 (.agg c1) d1 p1) :
    Calls Tryd.prog 3 #[.agg c0, .agg c1] W fun e w' => e = .returned (.bool true) ∧ w'.os = W.os ∧ w'.output = W.output ∧ ∀ i, i < W.heap.size → w'.heap[i]? = W.heap[i]? := by
  have hm : ("strings.asciiSpace", Rows.laid_strings_asciiSpace) ∈ Rows.genReadsRow.laid := by simp [Rows.genReadsRow]
  have hh := holds0 hL hm
  obtain ⟨tb, htb, hall⟩ := tab_of hh
  obtain ⟨n0, k0⟩ := h0
  obtain ⟨n1, k1⟩ := h1
  obtain ⟨p, xs, ys, e0, r1, hx, hxn, hy, hyn, l1, l2, l3, l4⟩ := Gr.open_prog (show Gr.Rd enc W n0 29 c0.toList _ from k0)
  obtain ⟨ev, q, tt, free, f, e1, htr, hsrc, hfree⟩ := Gr.open_job (show Gr.Rd enc W n1 38 c1.toList _ from k1)
  rw [e0, e1]
  exact Gr.law_any (sign_tells hall) (func_tells hall) f p ev q tt free xs ys W ⟨r1, htr, hsrc, hx, hxn, hy, hyn, l1, l2, l3, l4, hfree⟩ htb fun w hb => awake_any (holds_on hh hb.block)
theorem genReads_lifted (os : Os) (started : os.Started) (H : Type) (enc : TypeId × Value → H) :
    ReturnsInHanded {} Tryd.checked os 3 .any (fun w args => (Rows.genReadsSpec.pre enc Tryd.prog Tryd.f3 [] false w args ∧ laidMetH Tryd.prog Rows.genReadsRow.laid w) ∧ sizedMet enc Tryd.prog Tryd.f3 (OpenSpec.ofChange Rows.genReadsSpec) false w args)
      (Rows.genReadsSpec.post enc Tryd.prog Tryd.f3 false true false false) := by
  refine returnsInHanded_of_change_and (C := Tryd.checked) (X := fun w _ => laidMetH Tryd.prog Rows.genReadsRow.laid w) (fun _ _ _ hh h => h.of_heap hh) own0 started (by kernel_rfl) Tryd.func3
    (ChangeSpec.witness_shaped (enc := enc) (C := Tryd.checked) (os := os) (X := fun w _ => laidMetH Tryd.prog Rows.genReadsRow.laid w) false (World.laidAll Tryd.prog os Rows.genReadsRow.laid)
      #[.agg #[.int .i64 0, .int .i64 0, .int .i64 0, .slice none 0 0, .slice none 0 0, .slice none 0 0, .slice none 0 0, .slice none 0 0, .slice none 0 0], .agg #[.int .u8 0, .string .empty, .string .empty, .int .i64 0, .int .i64 0, .slice none 0 0, .slice none 0 0, .int .i64 0, .int .i64 0, .int .i64 0, .int .i64 0]] 8 (World.laidAll_os _ _ _)
      (World.shaped_of_ZipB (by kernel_rfl) (by kernel_rfl)) (by kernel_rfl) (by kernel_rfl) (by kernel_rfl)
      (by rw [MakeChecks.laidMetH_plain _ _ _ (by kernel_rfl)]; exact laidMet_laidAll _ (by kernel_rfl) (by kernel_rfl))) ?_
  intro W base args ds gs before hval0 hW _ _ hL _
  have hval : ∀ (j : Nat) t v, Tryd.f3.params[j]? = some t → args[j]? = some v → Value.okWide Tryd.prog W .any base t v := hval0
  have hW' := hW
  obtain ⟨p, q, hA0, hV, rfl, hfz, hnd⟩ := hW
  have hA : DataW.TrodAll enc Tryd.prog W 0 (fun _ => true) true Tryd.f3.params.toList args.toList ds p := hA0
  rw [Tryd.params3] at hA hval
  obtain ⟨v0, v1, d0, d1, p0, p1, rfl, rfl, rfl, h0, h1⟩ := trodAll_two hA
  obtain ⟨rfl, rfl⟩ := trodVars_none hV
  clear hA0 hval0
  simp only [List.append_nil] at hW'
  rw [MakeChecks.laidMetH_plain _ _ _ (by kernel_rfl)] at hL
  obtain ⟨c0, rfl⟩ := genReads_agg Tryd.underlying29 (hval 0 29 v0 rfl rfl)
  obtain ⟨c1, rfl⟩ := genReads_agg Tryd.underlying38 (hval 1 38 v1 rfl rfl)
  have hlt : ∀ x ∈ p0 ++ p1, x.block < W.heap.size := fun x hx => by simpa using hW'.lt x hx
  refine (genReads_walk W c0 c1 d0 d1 p0 p1 hL h0 h1).mono fun e W' ⟨he, ho, hout, hb⟩ => ?_
  subst he
  refine ⟨_, rfl, _, _, _, [], _, [], hW', trodAll_mk1 (shut_bool Tryd.underlying4 _),
    trodAll_mk2 (WideElems.Trod_stays genReads_out genReads_rec0 genReads_lt0 h0 (fun x hx => Go.Ab.sameAt_kept hb (hlt x (List.mem_append_left _ hx))) (fun x hx => by simpa using hlt x (List.mem_append_left _ hx)))
      (WideElems.Trod_stays genReads_out genReads_rec1 genReads_lt1 h1 (fun x hx => Go.Ab.sameAt_kept hb (hlt x (List.mem_append_right _ hx))) (fun x hx => by simpa using hlt x (List.mem_append_right _ hx))), rfl, World.keptBut_mono (fun _ hf => hf.elim) (genReads_kept ho hout hb), fun h => by cases h⟩

theorem genReads_holds : Rows.GenReadsSaid :=
  OpenClaim.holds_of_wide 3 Tryd.f3 rfl rfl rfl rfl rfl rfl rfl ⟨rfl, rfl, rfl, rfl, rfl⟩ rfl rfl rfl rfl rfl (by kernel_rfl) Tryd.func3 genReads_facts
    (of_decide_eq_true (by kernel_rfl)) (by unfold Func.isWrapper; first | (rw [if_pos (by decide +kernel)]; kernel_rfl) | (rw [if_neg (by decide +kernel)]; exact ⟨rfl, rfl⟩))
    (fun os started H enc _ => genReads_lifted os started H enc)

theorem genReads_card : Rows.GenReadsCardSaid :=
  Claim7.holds_tied_plain_at .later [] [.listed, .data] true (true, "2be0cbd310e9215f79380d7c3340a0601ce62fc708a915b4472c3e0f326b0564") false
    genReads_holds (fun _ h => by cases h) genReads_text (fun _ h => by cases h) genReads_row_tie rfl ⟨rfl, rfl⟩ genReads_main rfl
    (fun f fn hf hfn => by
      obtain rfl : f = 3 := Option.some.inj (genReads_named.symm.trans hf) |>.symm
      obtain rfl : fn = Tryd.f3 := (Option.some.inj (Tryd.func3.symm.trans hfn)).symm
      exact ⟨genReads_looks, fun j t ht => by
        rw [Tryd.params3] at ht
        have hm : t ∈ [29, 38] := by simpa using Array.mem_of_getElem? ht
        have hall : ([29, 38].all fun u => !Tryd.prog.wantsStandIn u) = true := by kernel_rfl
        exact (show Tryd.prog.wantsStandIn t = false by simpa using List.all_eq_true.1 hall t hm)⟩)
    genReads_goes
#print axioms genReads_card
end Go.Proofs.YtkpaphoeldcakaaDoor
