/-
  cardindexlaw17.VerifyMore returns true at every two arguments (any program, any number) and leaves them reading as they read, where the listed variables of the library hold what the program text lays; the card ties these to the text. The code is followed by hand through any memory; the law's examples, the tables of shapes and words, and the letters of fields are closed runs on named blocks.
-/
import Derived.Test.YtmdcccegkamhaaaGreatDoorAw
import Derived.Test.YtmdcccegkamhaaaGreatDoorP14
import Derived.Test.YtmdcccegkamhaaaGreatDoorP25
import Derived.Test.YtmdcccegkamhaaaGreatDoorP26
import Derived.Test.YtmdcccegkamhaaaGreatDoorVerifyMoreFacts
import Derived.Test.YtmdcccegkamhaaaGreatDoorCards
import Derived.Test.YtmdcccegkamhaaaGreatDoorTie
import Derived.WalkKit
import Derived.ProofKit
import Derived.OpenShut
import Derived.Lay
import Derived.LaidOnce
import Derived.SevenTiedAt
namespace Go.Proofs.YtmdcccegkamhaaaGreatDoor
open Go.ChangeShapes Go.WideShapes Go.ChangeAt Go.RowKit
set_option maxRecDepth 100000
theorem verifyMore_out : laidOutB Tryz.prog = true := by kernel_rfl
theorem verifyMore_rec0 : Tryz.prog.readableRec 29 = true := by kernel_rfl
theorem verifyMore_lt0 : 29 < Tryz.prog.types.size := of_decide_eq_true (by kernel_rfl)
theorem verifyMore_rec1 : Tryz.prog.readableRec 3 = true := by kernel_rfl
theorem verifyMore_lt1 : 3 < Tryz.prog.types.size := of_decide_eq_true (by kernel_rfl)
theorem verifyMore_kept {w w' : World} (h2 : w'.os = w.os) (h3 : w'.output = w.output) (h4 : ∀ i, i < w.heap.size → w'.heap[i]? = w.heap[i]?) : w.keptBut w' fun _ => False := by
  refine ⟨h2, h3, fun i hi => ?_⟩
  rw [h4 i hi]
  cases w.heap[i]? with
  | none => rfl
  | some o => cases o <;> first | rfl | exact ⟨rfl, rfl, rfl, fun _ _ => rfl⟩ | exact .inr ⟨rfl, rfl⟩
theorem verifyMore_agg {w : World} {base t : Nat} {fs : Array Field} {v : Value} (ht : Tryz.prog.underlying t = some (.struct fs)) (h : Value.okWide Tryz.prog w .any base t v) : ∃ cs, v = .agg cs := by
  unfold Value.okWide at h
  rw [ht] at h
  obtain ⟨cs, h1, _⟩ := h
  exact ⟨cs, h1⟩
theorem verifyMore_second {H : Type} {enc : TypeId × Value → H} {w : World} {base : Nat} {v : Value} {d : DataW H} {ps : List MemPlace} (h : Value.okWide Tryz.prog w .any base 3 v) (hd : DataW.Trod enc Tryz.prog w 0 (fun _ => true) true 3 v d ps) : ∃ a, v = .int .i64 a := (open_int Tryz.underlying3 h hd).imp fun _ h => h.1
theorem verifyMore_walk {H : Type} {enc : TypeId × Value → H} (W : World) (c0 : Array Value) (v1 : Value) (d0 d1 : DataW H) (p0 p1 : List MemPlace) (hL : laidMet Tryz.prog Rows.verifyMoreRow.laid W)
    (h0 : DataW.Trod enc Tryz.prog W 0 (fun _ => true) true 29 (.agg c0) d0 p0) (h1 : DataW.Trod enc Tryz.prog W 0 (fun _ => true) true 3 v1 d1 p1) (hv1 : ∃ a, v1 = .int .i64 a) :
    Calls Tryz.prog 4 #[.agg c0, v1] W fun e w' => e = .returned (.bool true) ∧ w'.os = W.os ∧ w'.output = W.output ∧ ∀ i, i < W.heap.size → w'.heap[i]? = W.heap[i]? := by
  have hm : ("strings.asciiSpace", Rows.laid_strings_asciiSpace) ∈ Rows.verifyMoreRow.laid := by simp [Rows.verifyMoreRow]
  have hh : ∀ V : Go.Ab.Val, @Go.Ab.Holds V gl0 W := fun V => @holds0 V _ _ hL hm
  obtain ⟨n0, k0⟩ := h0
  obtain ⟨p, D, e0, q1, q2, q3, q4⟩ := Vf.open_prog (show Vf.Rd enc W n0 29 c0.toList _ from k0)
  rw [e0]
  have hg : Vf.Giv W W p D := ⟨Vf.known_all W hh, Vf.Below.refl _ _, q1, q2, q3, q4⟩
  have hA : Vf.Wakes W := fun w hb => by
    letI : Go.Ab.Val := Vf.val0
    exact awake_any (holds_on (hh _) hb.block)
  obtain ⟨x0, rfl⟩ := hv1
  exact Vf.more_any hg x0 hA
theorem verifyMore_lifted (os : Os) (started : os.Started) (H : Type) (enc : TypeId × Value → H) :
    ReturnsInHanded {} Tryz.checked os 4 .any (fun w args => (Rows.verifyMoreSpec.pre enc Tryz.prog Tryz.f4 [] false w args ∧ laidMetH Tryz.prog Rows.verifyMoreRow.laid w) ∧ sizedMet enc Tryz.prog Tryz.f4 (OpenSpec.ofChange Rows.verifyMoreSpec) false w args)
      (Rows.verifyMoreSpec.post enc Tryz.prog Tryz.f4 false true false false) := by
  refine returnsInHanded_of_change_and (C := Tryz.checked) (X := fun w _ => laidMetH Tryz.prog Rows.verifyMoreRow.laid w) (fun _ _ _ hh h => h.of_heap hh) (@own0 Vf.val0) started (by kernel_rfl) Tryz.func4
    (ChangeSpec.witness_shaped (enc := enc) (C := Tryz.checked) (os := os) (X := fun w _ => laidMetH Tryz.prog Rows.verifyMoreRow.laid w) false (World.laidAll Tryz.prog os Rows.verifyMoreRow.laid)
      #[.agg #[.int .i64 0, .int .i64 0, .int .i64 0, .slice none 0 0, .slice none 0 0, .slice none 0 0, .slice none 0 0, .slice none 0 0, .slice none 0 0], .int .i64 0] 8 (World.laidAll_os _ _ _)
      (World.shaped_of_ZipB (by kernel_rfl) (by kernel_rfl)) (by kernel_rfl) (by kernel_rfl) (by kernel_rfl)
      (by rw [MakeChecks.laidMetH_plain _ _ _ (by kernel_rfl)]; exact laidMet_laidAll _ (by kernel_rfl) (by kernel_rfl))) ?_
  intro W base args ds gs before hval0 hW _ _ hL _
  have hval : ∀ (j : Nat) t v, Tryz.f4.params[j]? = some t → args[j]? = some v → Value.okWide Tryz.prog W .any base t v := hval0
  have hW' := hW
  obtain ⟨p, q, hA0, hV, rfl, hfz, hnd⟩ := hW
  have hA : DataW.TrodAll enc Tryz.prog W 0 (fun _ => true) true Tryz.f4.params.toList args.toList ds p := hA0
  rw [Tryz.params4] at hA hval
  obtain ⟨v0, v1, d0, d1, p0, p1, rfl, rfl, rfl, h0, h1⟩ := trodAll_two hA
  obtain ⟨rfl, rfl⟩ := trodVars_none hV
  clear hA0 hval0
  simp only [List.append_nil] at hW'
  rw [MakeChecks.laidMetH_plain _ _ _ (by kernel_rfl)] at hL
  obtain ⟨c0, rfl⟩ := verifyMore_agg Tryz.underlying29 (hval 0 29 v0 rfl rfl)
  have hv1 := verifyMore_second (hval 1 3 v1 rfl rfl) h1
  have hlt : ∀ x ∈ p0 ++ p1, x.block < W.heap.size := fun x hx => by simpa using hW'.lt x hx
  refine (verifyMore_walk W c0 v1 d0 d1 p0 p1 hL h0 h1 hv1).mono fun e W' ⟨he, ho, hout, hb⟩ => ?_
  subst he
  refine ⟨_, rfl, _, _, _, [], _, [], hW', trodAll_mk1 (shut_bool Tryz.underlying4 _),
    trodAll_mk2 (WideElems.Trod_stays verifyMore_out verifyMore_rec0 verifyMore_lt0 h0 (fun x hx => @Go.Ab.sameAt_kept Vf.val0 _ _ hb _ (hlt x (List.mem_append_left _ hx))) (fun x hx => by simpa using hlt x (List.mem_append_left _ hx)))
      (WideElems.Trod_stays verifyMore_out verifyMore_rec1 verifyMore_lt1 h1 (fun x hx => @Go.Ab.sameAt_kept Vf.val0 _ _ hb _ (hlt x (List.mem_append_right _ hx))) (fun x hx => by simpa using hlt x (List.mem_append_right _ hx))), rfl, World.keptBut_mono (fun _ hf => hf.elim) (verifyMore_kept ho hout hb), fun h => by cases h⟩

theorem verifyMore_holds : Rows.VerifyMoreSaid :=
  OpenClaim.holds_of_wide 4 Tryz.f4 rfl rfl rfl rfl rfl rfl rfl ⟨rfl, rfl, rfl, rfl, rfl⟩ rfl rfl rfl rfl rfl (by kernel_rfl) Tryz.func4 verifyMore_facts
    (of_decide_eq_true (by kernel_rfl)) (by unfold Func.isWrapper; first | (rw [if_pos (by decide +kernel)]; kernel_rfl) | (rw [if_neg (by decide +kernel)]; exact ⟨rfl, rfl⟩))
    (fun os started H enc _ => verifyMore_lifted os started H enc)

theorem verifyMore_card : Rows.VerifyMoreCardSaid :=
  Claim7.holds_tied_plain_at .later [] [.data, .data, .data, .data, .sentinel, .sentinel, .listed, .data, .pinned, .pinned] true (true, "c2629e0b344d38ee71bfb794638bb3789def49e0f19c995399a9bc1e88feb038") true
    verifyMore_holds (fun _ h => by cases h) verifyMore_text (fun _ h => by cases h) verifyMore_row_tie rfl ⟨rfl, rfl⟩ verifyMore_main rfl
    (fun f fn hf hfn => by
      obtain rfl : f = 4 := Option.some.inj (verifyMore_named.symm.trans hf) |>.symm
      obtain rfl : fn = Tryz.f4 := (Option.some.inj (Tryz.func4.symm.trans hfn)).symm
      exact ⟨verifyMore_looks, fun j t ht => by
        rw [Tryz.params4] at ht
        have hm : t ∈ [29, 3] := by simpa using Array.mem_of_getElem? ht
        have hall : ([29, 3].all fun u => !Tryz.prog.wantsStandIn u) = true := by kernel_rfl
        exact (show Tryz.prog.wantsStandIn t = false by simpa using List.all_eq_true.1 hall t hm)⟩)
    verifyMore_goes
#print axioms verifyMore_card
end Go.Proofs.YtmdcccegkamhaaaGreatDoor
