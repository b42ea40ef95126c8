/- An executable reading of the model's code on named blocks, and the proof that what it comes to is what the model does, in any order that is free: part 4. -/
import Derived.Test.YtmdcccegkamhaaaGreatDoorAbL3
import Derived.Laws.IdiomRangeMap
set_option linter.unusedSectionVars false
set_option linter.unusedVariables false
set_option linter.unusedSimpArgs false
namespace Go.Ab
variable [Val]
open Go
variable {C : Cx} {ds : List Deferred} {R : Option Nat → Prop}
def Lst (listed : Array Bool) (i : Nat) : Prop := listed.getD i false = true
theorem Lst.not {listed : Array Bool} {i : Nat} (h : i < listed.size) : ¬ Lst listed i ↔ listed.getD i true = false := by
 unfold Lst
 rw [Array.getD_eq_getD_getElem?, Array.getD_eq_getD_getElem?, Array.getElem?_eq_getElem h]
 cases listed[i] <;> simp
theorem Lst.set {listed : Array Bool} {i : Nat} (h : i < listed.size) (j : Nat) : Lst (listed.setIfInBounds i true) j ↔ (Lst listed j ∨ j = i) := by
 unfold Lst
 by_cases hj : j = i
 · subst hj; simp [h]
 · rw [getD_set_ne false (fun hh => hj hh.symm)]
   constructor
   · exact .inl
   · rintro (h | h)
     · exact h
     · exact absurd h hj
theorem count_listed {listed : Array Bool} {i : Nat} (h : i < listed.size) (hi : listed.getD i true = false) : (listed.setIfInBounds i true).toList.count false + 1 = listed.toList.count false := by
 have h2 : listed[i] = false := by
  rw [Array.getD_eq_getD_getElem?, Array.getElem?_eq_getElem h] at hi
  exact hi
 have hmem : false ∈ listed.toList := by
  rw [← h2]; simp
 have hpos : 0 < listed.toList.count false := List.count_pos_iff.2 hmem
 rw [Array.toList_setIfInBounds, List.count_set (by simpa using h)]
 have : listed.toList[i]'(by simpa using h) = false := by simpa using h2
 rw [this, if_pos (by decide), if_neg (by decide)]
 omega
theorem runR_norm (c : CallT) : ∀ (l : List CS) (f : Fr) (h : Hp), (∃ f' h', runR l c f h = .norm f' h') ∨ ∃ q, runR l c f h = .no q
 | [], f, h => .inl ⟨f, h, rfl⟩
 | s :: l, f, h => by
  show (∃ f' h', oneS s (runR l) c f h = .norm f' h') ∨ ∃ q, oneS s (runR l) c f h = .no q
  cases hs : s.again with
  | false =>
   rw [oneS_once hs]
   cases stepS s c f h with
   | no w => exact .inr ⟨w, rfl⟩
   | ok v h2 => exact runR_norm c l _ h2
  | true =>
   rw [oneS_again hs]
   cases stepS s c f h with
   | no w => exact .inr ⟨w, rfl⟩
   | ok v h2 =>
    show (∃ f' h', ifb (slotIs s.d v f) (runR l c f h2) (.no "not the same once more") = .norm f' h') ∨ ∃ q, ifb (slotIs s.d v f) (runR l c f h2) (.no "not the same once more") = .no q
    cases slotIs s.d v f with
    | false => exact .inr ⟨_, rfl⟩
    | true => exact runR_norm c l f h2
theorem runR_bad {q : String} {c : CallT} : ∀ {l : List CS} {f f' : Fr} {h h' : Hp}, runR l c f h = .norm f' h' → ⟨.bad q, none, none, false⟩ ∉ l
 | s :: l, f, f', h, h', hx, hm => by
  cases hs : s.again with
  | false =>
   obtain ⟨v, h2, h3, h4⟩ := runR_once hs hx
   cases hm with
   | head =>
    have h3 : R2.no q = .ok v h2 := h3
    cases h3
   | tail _ hm => exact runR_bad h4 hm
  | true =>
   obtain ⟨v, h2, _, _, h4⟩ := runR_again hs hx
   cases hm with
   | head => cases hs
   | tail _ hm => exact runR_bad h4 hm
section
variable {n : Nat} {ops : Array Oper} {F f0 : Fr} {c : CallT} {He : Hp} {e0 : Emb} {h0 : Hp} {w0 : World} {Q : Exit → Act → World → Prop}
theorem end_sim {ps : List Ep} (hord : OrderOK (Rgn.of C n ops) (ps.flatMap Ep.order) fun _ => False) (hlt : ∀ i ∈ ps.flatMap Ep.order, i < (Rgn.of C n ops).ss.length) (hq : ∀ e a w, Ext e0 h0 w0 e He w → FN ds n e F a → Q .normal a w)
 {listed : Array Bool} (hsz : listed.size = ops.size) {a : Act} {w : World} (I : InvE ds (Rgn.of C n ops) F f0 c He n e0 h0 w0 (Lst listed) a w) (hr : Region.ready .any ops listed = []) : Q .normal a w := by
 obtain ⟨dn, ld, last, rest, fj, H, nm, e, f, I⟩ := I
 have hall : ∀ i ∈ ps.flatMap Ep.order, Lst listed i := by
  intro i hi
  refine Classical.byContradiction fun hn => ?_
  obtain ⟨j, hj, hjn, hja⟩ := hord.first (E := Lst listed) (fun _ h => h.elim) ⟨i, hi, hn⟩
  have hjl : j < ops.size := by have := hlt j hj; rwa [of_length] at this
  have : j ∈ Region.ready .any ops listed := mem_ready.2 ⟨(Lst.not (by omega)).1 hjn, ops[j], by simp [hjl], fun d hd hb => hja _ (of_edge (by simp [hjl]) hd hb)⟩
  rw [hr] at this; cases this
 have hD : ∀ i, i < (Rgn.of C n ops).ss.length → Lst listed i := fun i hi => (hord.all i hi).elim (fun h => h.elim) (hall i)
 have hrest : rest = [] := by
  cases hrs : rest with
  | nil => rfl
  | cons ep rest' =>
   have h1 := I.mid.isSome ep (by rw [hrs]; exact .head _)
   obtain ⟨d, hd⟩ := Option.isSome_iff_exists.1 h1
   have hdm : d ∈ rest.flatMap Ep.order := by
    rw [hrs, List.flatMap_cons]
    refine List.mem_append_left _ ?_
    unfold Ep.order; rw [hd]; exact .head _
   exact absurd (I.sub d (hD d (I.mid.lt d hdm))) (I.mid.order.out d hdm)
 have hrun := I.mid.run
 rw [hrest] at hrun
 have hrun : Out.norm fj H = .norm F He := hrun
 cases hrun
 refine hq e a w I.ext ⟨⟨fun t => ?_, I.fn.1.2⟩, I.fn.2⟩
 have hslot : slot F t = slot f t := by
  by_cases hs : ∃ i, i < (Rgn.of C n ops).ss.length ∧ ((Rgn.of C n ops).s i).d = some (path t)
  · obtain ⟨i, hi, hid⟩ := hs
    rw [I.slots.1 i hi (hD i hi) t hid]
  · have hno : ∀ i, i < (Rgn.of C n ops).ss.length → ((Rgn.of C n ops).s i).d ≠ some (path t) := fun i hi hid => hs ⟨i, hi, hid⟩
    rw [I.slots.2 t fun i hi _ => hno i hi, I.mid.slots.2 t fun i hi _ => hno i hi]
 rw [hslot]; exact I.fn.1.1 t
theorem any_sim {ps : List Ep} (hord : OrderOK (Rgn.of C n ops) (ps.flatMap Ep.order) fun _ => False) (hlt : ∀ i ∈ ps.flatMap Ep.order, i < (Rgn.of C n ops).ss.length) (hq : ∀ e a w, Ext e0 h0 w0 e He w → FN ds n e F a → Q .normal a w)
 (hP : Plan (Rgn.of C n ops)) (hg : GR C e0) (hc : CallOK C c) : ∀ (fuel : Nat) (listed : Array Bool) (a : Act) (w : World), listed.size = ops.size → listed.toList.count false ≤ fuel → Closed ops (Lst listed) →
  InvE ds (Rgn.of C n ops) F f0 c He n e0 h0 w0 (Lst listed) a w → owAny C.P .any ops Q fuel listed a w
 | 0, listed, a, w, hsz, hf, _, I => by
  have hr : Region.ready .any ops listed = [] := by
   refine List.eq_nil_iff_forall_not_mem.2 fun j hj => ?_
   obtain ⟨h1, o, ho, _⟩ := mem_ready.1 hj
   have := count_listed (by rw [hsz]; exact (Array.getElem?_eq_some_iff.1 ho).1) h1
   omega
  exact ⟨hr, end_sim hord hlt hq hsz I hr⟩
 | fuel + 1, listed, a, w, hsz, hf, hcl, I => by
  refine ⟨fun hr => end_sim hord hlt hq hsz I hr, fun i hi => ?_⟩
  obtain ⟨h1, o, ho, h2⟩ := mem_ready.1 hi
  have hil : i < listed.size := by rw [hsz]; exact (Array.getElem?_eq_some_iff.1 ho).1
  have hn : ¬ Lst listed i := (Lst.not hil).2 h1
  have hanc : ∀ p, ((Rgn.of C n ops).a i).testBit p = true → Lst listed p := fun p hp => hcl.ahead (of_a hp) fun o' d ho' hd hb => by
   rw [ho] at ho'; cases ho'
   exact h2 d hd hb
  have hW : Whole (Rgn.of C n ops) (Lst listed) := fun p hp q hq => hcl.dep (of_a hq) hp
  have hcl' : Closed ops (Lst (listed.setIfInBounds i true)) := fun j o' d hj ho' hd hb => by
   refine (Lst.set hil _).2 (.inl ?_)
   rcases (Lst.set hil j).1 hj with hj | rfl
   · exact hcl j o' d hj ho' hd hb
   · rw [ho] at ho'; cases ho'
     exact h2 d hd hb
  have hK : ∀ a' w', InvE ds (Rgn.of C n ops) F f0 c He n e0 h0 w0 (fun j => Lst listed j ∨ j = i) a' w' → owAny C.P .any ops Q fuel (listed.setIfInBounds i true) a' w' := fun a' w' I' => by
   refine any_sim hord hlt hq hP hg hc fuel _ a' w' (by simpa using hsz) ?_ hcl' ?_
   · have := count_listed hil h1
     omega
   · have : Lst (listed.setIfInBounds i true) = fun j => Lst listed j ∨ j = i := funext fun j => propext (Lst.set hil j)
     rw [this]; exact I'
  obtain ⟨dn, ld, last, rest, fj, H, nm, e, f, I⟩ := I
  by_cases hd : dn i
  · exact owOp_mono hK (light_step hP hg hc I ho hd hn hanc hW)
  · exact owOp_mono hK (heavy_step hP hg hc I ho hd hanc hW)
end
theorem draw_by (hm : C.P.follows .mixedOrders = true) (n id : Nat) (ops : Array Oper) (c : CallT) (hc : CallOK C c) (f0 : Fr) (h0 : Hp) (e0 : Emb) (a : Act) (w : World) (Q : Exit → Act → World → Prop)
 (hg : GR C e0) (hf : FN ds n e0 f0 a) (hr : HR e0 h0 w) (hp : Post0 C ds n e0 h0 w Q (runR (drawBy (Rgn.of C n ops) (Rgn.of C n ops).plan) c f0 h0)) : (Code.region id ops true).ow R C.P Q a w := by
 refine ow_region_any hm ?_
 have hp : Post0 C ds n e0 h0 w Q (runR (ifb ((Rgn.of C n ops).ok (Rgn.of C n ops).plan) ((Rgn.of C n ops).plan.flatMap (Ep.out (Rgn.of C n ops))) [⟨.bad "a region that draws", none, none, false⟩]) c f0 h0) := hp
 cases hok : (Rgn.of C n ops).ok (Rgn.of C n ops).plan with
 | false => rw [hok] at hp; exact hp.elim
 | true =>
  rw [hok, ifb_true] at hp
  generalize (Rgn.of C n ops).plan = ps at hok hp
  rcases runR_norm c (ps.flatMap (Ep.out (Rgn.of C n ops))) f0 h0 with ⟨F, He, hx⟩ | ⟨q, hx⟩
  · rw [hx] at hp
    unfold Rgn.ok at hok
    simp only [Bool.and_eq_true] at hok
    obtain ⟨k1, k2, k3, k4, k5⟩ := hok
    have hord := okOrder_spec (seen := fun _ => False) (fun j => by simp) k1
    have hlt : ∀ i ∈ ps.flatMap Ep.order, i < (Rgn.of C n ops).ss.length := fun i hi => Classical.byContradiction fun hn => by
     obtain ⟨ep, hep, hi⟩ := List.mem_flatMap.1 hi
     refine runR_bad (q := "region") hx ?_
     rw [← of_far hn]
     refine List.mem_flatMap.2 ⟨ep, hep, ?_⟩
     unfold Ep.out
     exact List.mem_append_left _ (List.mem_map.2 ⟨i, hi, rfl⟩)
    have hP : Plan (Rgn.of C n ops) := by
     refine ⟨fun i hi => ?_, fun p q t hp hq h1 h2 => ?_, of_again, fun i hi hk => ?_⟩
     · have := List.all_eq_true.1 k3 i (all_mem.2 hi)
       rw [Bool.and_eq_true] at this
       exact this.1
     · obtain ⟨_, hpw⟩ := okDst_spec k2
       refine Classical.byContradiction fun hne => ?_
       have key : ∀ p q, p < (Rgn.of C n ops).ss.length → q < (Rgn.of C n ops).ss.length → p < q → ((Rgn.of C n ops).s p).d = some (path t) → ((Rgn.of C n ops).s q).d ≠ some (path t) := by
        intro p q hp hq hpq h1
        have := List.pairwise_iff_getElem.1 hpw p q (by simpa [Rgn.all] using hp) (by simpa [Rgn.all] using hq) hpq
        simp only [Rgn.all, List.getElem_range] at this
        exact this t h1
       rcases Nat.lt_or_gt_of_ne hne with hl | hl
       · exact key p q hp hq hl h1 h2
       · exact key q p hq hp hl h2 h1
     · have := List.all_eq_true.1 k3 i (all_mem.2 hi)
       rw [Bool.and_eq_true, Bool.or_eq_true, Bool.not_eq_true'] at this
       rcases this.2 with h | h
       · rw [beq_iff.2 hk] at h; cases h
       · exact h
    have heps := okEps_spec k4
    cases ps with
    | nil => cases k5
    | cons ep rest =>
     have k5 : and ep.hv.isNone (rest.all fun e => e.hv.isSome) = true := k5
     rw [Bool.and_eq_true] at k5
     obtain ⟨k6, k7⟩ := k5
     have hev : ep.hv = none := by simpa using k6
     have horder : ep.order = ep.ls := by unfold Ep.order; rw [hev]; rfl
     have hw0 : Ext e0 h0 w e0 h0 { w with drawn := w.drawn + 1 } := Ext.drew hr rfl rfl rfl
     obtain ⟨h1, h2, h3, h4, h5⟩ := heps
     rw [hev] at h5
     have hord0 := hord
     rw [List.flatMap_cons, horder] at hord0 hlt
     have hrun := hx
     rw [List.flatMap_cons, Ep.out, horder, List.append_assoc] at hrun
     have hS0 : Slots (Rgn.of C n ops) F f0 (fun _ => False) f0 := ⟨fun _ _ h => h.elim, fun _ _ => rfl⟩
     obtain ⟨f2, H2, nm, mid, hgrew, hls, hck, hnm, hinj⟩ := epoch_rest hP.use hP.once (fun i _ => hP.again i) (dn := fun _ => False) (ld := []) (ls := ep.ls) (ck := ep.ck) (last := none) (rest := rest) hrun hS0 (fun p h => h.elim) h5 hord0
      (fun e he => List.all_eq_true.1 k7 e he) (fun i h => h.elim) (fun i h => by cases h) hlt (fun i hi => (h2 i hi).1) (fun i hi => (h4 i hi)) (fun i h => h.elim)
     refine any_sim hord (by rw [List.flatMap_cons, horder]; exact hlt) (e0 := e0) (h0 := h0) (w0 := w) (c := c) (F := F) (f0 := f0) (He := He) (fun e' a' w' hext hfn => hp e' a' w' hext hfn) hP hg hc ops.size _ a _ (by simp) (by simp) ?_ ?_
     · intro i o d hi
       unfold Lst at hi
       rw [Array.getD_eq_getD_getElem?, Array.getElem?_replicate] at hi
       split at hi <;> cases hi
     · have hno : ∀ i, ¬ Lst (Array.replicate ops.size false) i := fun i hi => by
        unfold Lst at hi
        rw [Array.getD_eq_getD_getElem?, Array.getElem?_replicate] at hi
        split at hi <;> cases hi
       have hlst : Lst (Array.replicate ops.size false) = fun _ => False := funext fun i => propext ⟨hno i, False.elim⟩
       rw [hlst]
       refine ⟨_, _, _, _, f2, H2, nm, e0, f0, mid, hw0.grow hgrew, hf, hS0, fun i h => h.elim, ?_, ?_, ?_, fun i j b _ _ => hinj i j b⟩
       · rintro i (h | h) hk
         · exact h
         · exact absurd hk (h2 i h).1
       · rintro i (h | h) _
         · exact h.elim
         · by_cases hcond : (Rgn.of C n ops).k i = 1 → ∀ q ∈ ep.ls, (Rgn.of C n ops).k q ≠ 2
           · exact hls i h hcond
           · have hk1 : (Rgn.of C n ops).k i = 1 := Classical.byContradiction fun h => hcond fun h' => absurd h' h
             have hmk : ∃ q ∈ ep.ls, (Rgn.of C n ops).k q = 2 := Classical.byContradiction fun h => hcond fun _ q hq hq2 => h ⟨q, hq, hq2⟩
             rcases h3 i (.inr ⟨h, hmk⟩) hk1 with ⟨d, hd, _⟩ | hc'
             · rw [hev] at hd; cases hd
             · exact hck i hc' _
       · intro i b _ hb
         obtain ⟨_, k8, k9⟩ := hnm i b hb
         refine ⟨k8, k9, fun g => ?_⟩
         cases hy : e0 b g with
         | none => rfl
         | some y => have := (hr.lt b g y hy).2; omega
  · rw [hx] at hp; exact hp.elim
end Go.Ab
namespace Go.Ab
variable [Val]
open Go
variable {C : Cx}
mutual
theorem VR.back {e e' : Emb} (h : e.le e') : ∀ {v : AV} {v1 v2 : Value}, VR e v v1 → VR e' v v2 → VR e v v2
 | _, _, _, .int k n, q => by cases q; exact .int k n
 | _, _, _, .bool b, q => by cases q; exact .bool b
 | _, _, _, .str s, q => by
  generalize hv : AV.str s.size (packB s.data.toList) = v at q
  cases q <;> first | (cases hv; done) | skip
  case str s2 => exact .str s2
 | _, _, _, .ptr b g o x a c d, q => by
  cases q with
  | ptr _ _ _ y a' c' d' =>
   have := h _ _ _ a
   rw [a'] at this; cases this
   exact .ptr b g o _ a c' d'
 | _, _, _, .slc b g o n c cap x ad p q r s t u k, q2 => by
  cases q2 with
  | slc _ _ _ _ _ cap2 y ad' p' q' r' s' t' u' k' =>
   have := h _ _ _ p
   rw [p'] at this; cases this
   exact .slc b g o n c cap2 _ ad' p q' r' s' t' u' k'
 | _, _, _, .nilp, q => VR.atNil q
 | _, _, _, .nils, q => VR.atNil q
 | _, _, _, .nilm, q => VR.atNil q
 | _, _, _, .nilf, q => VR.atNil q
 | _, _, _, .nili, q => VR.atNil q
 | _, _, _, .map r x p pb, q => by
  cases q with
  | map _ y p' =>
   have := h _ _ _ p
   rw [p'] at this; cases this
   exact .map r _ p pb
 | _, _, _, .fn g a b a' b' hy p q, q2 => by
  cases q2 with
  | fn _ _ _ a2 b2 _ p2 q2 => exact .fn g a b a2 b2 hy (VRL.back h p p2) (VRL.back h q q2)
  | yld m y _ _ => exact absurd hy (by decide)
 | _, _, _, .yld m x p pb, q2 => by
  cases q2 with
  | fn _ _ _ a2 b2 hy _ _ => exact absurd hy (by decide)
  | yld _ y p' _ =>
   have := h _ _ _ p
   rw [p'] at this; cases this
   exact .yld m _ p pb
 | _, _, _, .ifc t v v' p, q => by
  cases q with
  | ifc _ _ v2 p2 => exact .ifc t v v2 (VR.back h p p2)
 | _, _, _, .agg l l' p q, q2 => by
  cases q2 with
  | agg _ l2 p2 q2 => exact .agg l l2 (VRL.back h p p2) q
 | _, _, _, .tup l l' p, q2 => by
  cases q2 with
  | tup _ l2 p2 => exact .tup l l2 (VRL.back h p p2)
 | _, _, v2, .any _, _ => .any v2
 | _, _, v2, .modv _ _ _ _ _ _ _, q => VR.atNil q
 | _, _, v2, .remv _ _ _ _ _, q => VR.atNil q
 | _, _, v2, .tok _ _ _ _, q => VR.atNil q
 | _, _, v2, .opq _ _, q => VR.atNil q
theorem VRL.back {e e' : Emb} (h : e.le e') : ∀ {l : List AV} {l1 l2 : List Value}, VRL e l l1 → VRL e' l l2 → VRL e l l2
 | _, _, _, .nil, q => by cases q; exact .nil
 | _, _, _, .cons v v' l l' p q, q2 => by
  cases q2 with
  | cons _ v2 _ l2 p2 q2 => exact .cons v v2 l l2 (VR.back h p p2) (VRL.back h q q2)
end
theorem VR.prim {e e' : Emb} {v : AV} {v' : Value} (hp : primV v = true) (h : VR e v v') : VR e' v v' := by
 cases h <;> first | (cases hp; done) | constructor <;> assumption
theorem slot_path (f : Fr) (p : List Bool) : slot f (unpath p) = (getP p f).getD undefA := by rw [slot_eq, path_unpath]
theorem slot_put (v : AV) (p : List Bool) (f : Fr) (t : Nat) : slot (setP v p f).out t = if path t = p then v else slot f t := by
 have := slot_putD (some p) v f t
 rw [show (putD (some p) v f).out = (setP v p f).out from rfl] at this
 rw [this]
 by_cases h : path t = p
 · rw [if_pos h, if_pos (by rw [h])]
 · rw [if_neg h, if_neg (fun hh => h (Option.some.inj hh).symm)]
theorem anyAll_slot : ∀ (l : List (List Bool)) (f : Fr) (t : Nat), slot (anyAll l f).out t = if path t ∈ l then anyA else slot f t
 | [], f, t => by rw [if_neg (by simp)]; rfl
 | p :: l, f, t => by
  have h1 : (anyAll (p :: l) f).out = (anyAll l (setP anyA p f).out).out := by
   show ((setP anyA p f).bd fun f => anyAll l f).out = _
   rw [Bx.eta (setP anyA p f)]; rfl
  rw [h1, anyAll_slot l, slot_put]
  by_cases h2 : path t ∈ l
  · rw [if_pos h2, if_pos (.tail _ h2)]
  · rw [if_neg h2]
    by_cases h3 : path t = p
    · rw [if_pos h3, if_pos (by rw [h3]; exact .head _)]
    · rw [if_neg h3, if_neg]
      intro h
      rcases List.mem_cons.1 h with h | h
      · exact h3 h
      · exact h2 h
theorem slotV_spec {f : Fr} {p : List Bool} {v : AV} (h : slotV f p = some v) : primV v = true ∧ getP p f = some v := by
 unfold slotV at h
 cases hg : getP p f with
 | none => rw [hg] at h; cases h
 | some u =>
  rw [hg] at h
  cases hp : primV u with
  | false => simp only [hp] at h; cases h
  | true => simp only [hp] at h; cases h; exact ⟨hp, rfl⟩
theorem putSs_slot : ∀ (l : List (List Bool)) (vs : List AV) (f g : Fr) (t : Nat), readSs g l = some vs → slot (putSs l vs f).out t = if path t ∈ l then slot g t else slot f t
 | [], vs, f, g, t, h => by rw [if_neg (by simp)]; cases vs <;> rfl
 | p :: l, vs, f, g, t, h => by
  unfold readSs at h
  cases hs : slotV g p with
  | none => rw [hs] at h; cases h
  | some v =>
   rw [hs] at h
   cases hr : readSs g l with
   | none => rw [hr] at h; cases h
   | some r =>
    rw [hr] at h; cases h
    have h1 : (putSs (p :: l) (v :: r) f).out = (putSs l r (setP v p f).out).out := by
     show ((setP v p f).bd fun f => putSs l r f).out = _
     rw [Bx.eta (setP v p f)]; rfl
    rw [h1, putSs_slot l r _ g t hr, slot_put]
    by_cases h2 : path t ∈ l
    · rw [if_pos h2, if_pos (.tail _ h2)]
    · rw [if_neg h2]
      by_cases h3 : path t = p
      · rw [if_pos h3, if_pos (by rw [h3]; exact .head _), slot_eq, h3, (slotV_spec hs).2]; rfl
      · rw [if_neg h3, if_neg]
        intro h
        rcases List.mem_cons.1 h with h | h
        · exact h3 h
        · exact h2 h
theorem readSs_prim : ∀ {l : List (List Bool)} {vs : List AV} {g : Fr} {t : Nat}, readSs g l = some vs → path t ∈ l → primV (slot g t) = true
 | p :: l, vs, g, t, h, hm => by
  unfold readSs at h
  cases hs : slotV g p with
  | none => rw [hs] at h; cases h
  | some v =>
   rw [hs] at h
   cases hr : readSs g l with
   | none => rw [hr] at h; cases h
   | some r =>
    rcases List.mem_cons.1 hm with hh | hh
    · rw [slot_eq, hh, (slotV_spec hs).2]; exact (slotV_spec hs).1
    · exact readSs_prim hr hh
theorem cellV_spec {h : Hp} {b : Nat} {v : AV} (hc : cellV h b = some v) : primV v = true ∧ h.get b = some (.flat [v] 0) := by
 unfold cellV at hc
 split at hc
 · rename_i u z hg
   cases hz : Nat.beq z 0 with
   | false => rw [hz] at hc; cases hc
   | true => cases hp : primV u with
    | false => rw [hz, hp] at hc; cases hc
    | true =>
     rw [hz, hp] at hc; cases hc
     rw [hg, beq_iff.1 hz]; exact ⟨hp, rfl⟩
 · cases hc
theorem putCs_spec : ∀ (l : List Nat) (vs : List AV) (h h' : Hp), readCs h' l = some vs → (putCs l vs h).out.n = h.n ∧ (putCs l vs h).out.lk = h.lk ∧ ∀ b, (putCs l vs h).out.get b = if b ∈ l then h'.get b else h.get b
 | [], vs, h, h', _ => ⟨by cases vs <;> rfl, by cases vs <;> rfl, fun b => by rw [if_neg (by simp)]; cases vs <;> rfl⟩
 | p :: l, vs, h, h', hr => by
  unfold readCs at hr
  cases hs : cellV h' p with
  | none => rw [hs] at hr; cases hr
  | some v =>
   rw [hs] at hr
   cases hr2 : readCs h' l with
   | none => rw [hr2] at hr; cases hr
   | some r =>
    rw [hr2] at hr; cases hr
    have h1 : (putCs (p :: l) (v :: r) h).out = (putCs l r ⟨setT (.flat [v] 0) (path p) h.t, h.n, h.lk⟩).out := by
     show ((h.put p (.flat [v] 0)).bd fun h => putCs l r h).out = _
     rw [Hp.put_eq, Bx.bd_mk]
    rw [h1]
    obtain ⟨k1, k2, k3⟩ := putCs_spec l r ⟨setT (.flat [v] 0) (path p) h.t, h.n, h.lk⟩ h' hr2
    refine ⟨k1, k2, fun b => ?_⟩
    rw [k3 b, Hp.get_set _ _ h.n]
    by_cases h2 : b ∈ l
    · rw [if_pos h2, if_pos (.tail _ h2)]
    · rw [if_neg h2]
      by_cases h3 : b = p
      · rw [if_pos h3, if_pos (by rw [h3]; exact .head _), h3, (cellV_spec hs).2]
      · rw [if_neg h3, if_neg]
        intro h
        rcases List.mem_cons.1 h with h | h
        · exact h3 h
        · exact h2 h
theorem readCs_cell : ∀ {l : List Nat} {vs : List AV} {h : Hp} {b : Nat}, readCs h l = some vs → b ∈ l → ∃ v, primV v = true ∧ h.get b = some (.flat [v] 0)
 | p :: l, vs, h, b, hr, hm => by
  unfold readCs at hr
  cases hs : cellV h p with
  | none => rw [hs] at hr; cases hr
  | some v =>
   rw [hs] at hr
   cases hr2 : readCs h l with
   | none => rw [hr2] at hr; cases hr
   | some r =>
    rcases List.mem_cons.1 hm with hh | hh
    · rw [hh]; exact ⟨v, (cellV_spec hs).1, (cellV_spec hs).2⟩
    · exact readCs_cell hr2 hh
theorem readSt_spec {ex : List Nat} {cs : List (List Bool)} {f : Fr} {h : Hp} {s : St} (hr : readSt ex cs f h = .ok s) : readCs h ex = some s.1 ∧ readSs f cs = some s.2 := by
 unfold readSt at hr
 cases h1 : readCs h ex with
 | none => rw [h1] at hr; cases hr
 | some a => cases h2 : readSs f cs with
  | none => rw [h1, h2] at hr; cases hr
  | some b => rw [h1, h2] at hr; cases hr; exact ⟨rfl, rfl⟩
theorem mem_setsR {l : List CS} {s : CS} {p : List Bool} (hs : s ∈ l) (hd : s.d = some p) : p ∈ setsR l := List.mem_filterMap.2 ⟨s, hs, hd⟩
theorem runR_keep {c : CallT} {l : List CS} {f f' : Fr} {h h' : Hp} (hx : runR l c f h = .norm f' h') {t : Nat} (ht : path t ∉ setsR l) : slot f' t = slot f t :=
 runR_slot hx fun _ hs _ hd => ht (mem_setsR hs hd)
def Out.keeps (t : Nat) (f : Fr) : Out → Prop
 | .norm f' _ => slot f' t = slot f t
 | .exit _ f' _ => slot f' t = slot f t
 | .ret f' _ => slot f' t = slot f t
 | .no _ => True
theorem Out.keeps.trans {t : Nat} {f f' : Fr} (h : slot f' t = slot f t) {o : Out} (ho : o.keeps t f') : o.keeps t f := by
 cases o with
 | norm g k => exact Eq.trans ho h
 | exit i g k => exact Eq.trans ho h
 | ret g k => exact Eq.trans ho h
 | no w => trivial
theorem runR_keeps {c : CallT} {l : List CS} {f : Fr} {h : Hp} {t : Nat} (ht : path t ∉ setsR l) : (runR l c f h).keeps t f := by
 rcases runR_norm c l f h with ⟨f', h', hx⟩ | ⟨q, hx⟩
 · rw [hx]; exact runR_keep hx ht
 · rw [hx]; trivial
theorem rounds_keeps {b : CallT → Fr → Hp → Out} {c : CallT} {t : Nat} (hb : ∀ f h, (b c f h).keeps t f) : ∀ (m : Nat) (f : Fr) (h : Hp), (rounds b c m f h).keeps t f
 | 0, _, _ => trivial
 | m + 1, f, h => by
  show ((b c f h).bd Out.no (rounds b c m) Out.exit).keeps t f
  have := hb f h
  cases hx : b c f h with
  | norm f' h' => rw [hx] at this; exact (rounds_keeps hb m f' h').trans this
  | exit i f' h' => rw [hx] at this; exact this
  | ret f' h' => rw [hx] at this; exact this
  | no w => trivial
end Go.Ab
namespace Go.Ab
variable [Val]
open Go
variable {C : Cx}
theorem putSs_out : ∀ (l : List (List Bool)) (vs : List AV) (f : Fr) (t : Nat), path t ∉ l → slot (putSs l vs f).out t = slot f t
 | [], vs, f, t, _ => by cases vs <;> rfl
 | p :: l, [], f, t, _ => rfl
 | p :: l, v :: vs, f, t, h => by
  have h1 : (putSs (p :: l) (v :: vs) f).out = (putSs l vs (setP v p f).out).out := by
   show ((setP v p f).bd fun f => putSs l vs f).out = _
   rw [Bx.eta (setP v p f)]; rfl
  rw [h1, putSs_out l vs _ t (fun hh => h (.tail _ hh)), slot_put, if_neg (fun hh => h (by rw [hh]; exact .head _))]
theorem mapEs_keeps (m : ML) (b : CallT → Fr → Hp → Out) (c : CallT) (f : Fr) (h : Hp) (es : Es) {t : Nat} (h1 : path t ∉ m.ds) (h2 : path t ∉ m.cs) : (mapEs m b c f h es).keeps t f := by
 unfold mapEs
 rw [Bx.eta (anyAll m.ds f), Bx.bd_mk]
 simp only
 split
 · trivial
 · rename_i s _
   split
   · trivial
   · rename_i rows _
     cases and ((exOf h f []).all h.okw) (okRows (lenA es) rows) with
     | false => trivial
     | true =>
      rw [ifb_true]
      split
      · rename_i s2 _
        rw [Bx.eta (putSs _ s2.2 _), Bx.bd_mk, Bx.eta (putCs _ s2.1 _), Bx.bd_mk]
        show slot (putSs _ s2.2 _).out t = slot f t
        rw [putSs_out _ _ _ _ (fun hh => h2 (List.mem_filter.1 hh).1), anyAll_slot, if_neg h1]
      · trivial
theorem fillEs_out {m : ML} {q : List CS × Nat × List Bool × List Bool × List Bool} {c : CallT} {f : Fr} {h : Hp} {r : Nat} {es : Es} : (∃ w, fillEs m q c f h r es = .no w) ∨ ∃ h', fillEs m q c f h r es = .norm (anyAll m.ds f).out h' := by
 generalize ho : fillEs m q c f h r es = o
 unfold fillEs at ho
 rw [Bx.eta (anyAll m.ds f), Bx.bd_mk] at ho
 split at ho
 · exact .inl ⟨_, ho.symm⟩
 · rename_i kv l
   split at ho
   · exact .inl ⟨_, ho.symm⟩
   · rename_i r0 hr0
     unfold Hp.onMap at ho
     cases hg : h.get r0.1 with
     | none => rw [hg] at ho; exact .inl ⟨_, ho.symm⟩
     | some blk =>
     rw [hg] at ho
     cases blk with
     | flat _ _ => exact .inl ⟨_, ho.symm⟩
     | grown _ _ _ _ => exact .inl ⟨_, ho.symm⟩
     | sit _ _ _ => exact .inl ⟨_, ho.symm⟩
     | lp _ => exact .inl ⟨_, ho.symm⟩
     | map est =>
     have ho : ifb (and (hasMap r0.1 f) (and (h.okw r0.1) (not (Nat.beq r0.1 r)))) ((h.put r0.1 (.sit 0 0 8)).bd fun hb =>
      match fillAll m q c (anyAll m.ds f).out ⟨hb.t, hb.n, ⟨hb.n, []⟩⟩ r0.1 (kv :: l) hb with
      | .no w => .no w
      | .ok p => (entsB p.2).bd fun ens => (appS est ens).bd fun esn => ifb (okKs esn) ((p.1.put r0.1 (.map esn)).bd fun hf => .norm (anyAll m.ds f).out hf) (.no "fill: keys")) (.no "fill: locked") = o := ho
     cases hc : and (hasMap r0.1 f) (and (h.okw r0.1) (not (Nat.beq r0.1 r))) with
     | false => rw [hc] at ho; exact .inl ⟨_, ho.symm⟩
     | true =>
     rw [hc, ifb_true, Bx.eta (h.put _ _), Bx.bd_mk] at ho
     split at ho
     · exact .inl ⟨_, ho.symm⟩
     · rename_i p hp
       rw [Bx.eta (entsB p.2), Bx.bd_mk, Bx.eta (appS _ _), Bx.bd_mk] at ho
       cases hk : okKs (appS est (entsB p.2).out).out with
       | false => rw [hk] at ho; exact .inl ⟨_, ho.symm⟩
       | true =>
       rw [hk, ifb_true, Bx.eta (p.1.put _ _), Bx.bd_mk] at ho
       exact .inr ⟨_, ho.symm⟩
theorem loopEs_cases (m : ML) (b : CallT → Fr → Hp → Out) (c : CallT) (f : Fr) (h : Hp) (r : Nat) (es : Es) : loopEs m b c f h r es = mapEs m b c f h es ∨
 ∃ q, m.fl = some q ∧ loopEs m b c f h r es = fillEs m q c f h r es ∧ ∃ h', fillEs m q c f h r es = .norm (anyAll m.ds f).out h' := by
 unfold loopEs
 cases hf : m.fl with
 | none => exact .inl rfl
 | some q =>
  simp only
  rcases fillEs_out (m := m) (q := q) (c := c) (f := f) (h := h) (r := r) (es := es) with ⟨w, ho⟩ | ⟨h', ho⟩
  · rw [ho]; exact .inl rfl
  · exact .inr ⟨q, rfl, by rw [ho], h', ho⟩
theorem loopEs_keeps (m : ML) (b : CallT → Fr → Hp → Out) (c : CallT) (f : Fr) (h : Hp) (r : Nat) (es : Es) {t : Nat} (h1 : path t ∉ m.ds) (h2 : path t ∉ m.cs) : (loopEs m b c f h r es).keeps t f := by
 rcases loopEs_cases m b c f h r es with hx | ⟨q, _, hx, h', ho⟩
 · rw [hx]; exact mapEs_keeps m b c f h es h1 h2
 · rw [hx, ho]
   show slot (anyAll m.ds f).out t = slot f t
   rw [anyAll_slot, if_neg h1]
theorem runC_rf (P : Cx) (x : Sx) (n : Nat) (ps : List Nat) (a b : Code) (k : Nat) (c : CallT) (f : Fr) (h : Hp) {g : Nat} {caps : List AV} (hx : ev f x = .fn g [] caps) (hb : and (hasBody P g) (not (Nat.ble yF g)) = true) :
 runC (.rf P x n ps a b) k c f h = (c g (.fn yF [] [.ptr h.n 0 0] :: caps) ⟨setT (.lp ⟨n, f, ps, a, b⟩) (path h.n) h.t, h.n + 1, h.lk⟩).bd Out.no fun _ h3 => .norm f ⟨setT (.sit 0 0 8) (path h.n) h3.t, h3.n, h3.lk⟩ := by
 show (ev f x).onFn Out.no _ = _
 rw [hx]
 show ifb (and (hasBody P g) (not (Nat.ble yF g))) (natF h.n fun m => (h.add (.lp ⟨n, f, ps, a, b⟩)).bd fun h2 => (c g (.fn yF [] [.ptr m 0 0] :: caps) h2).bd Out.no fun _ h3 => (h3.put m (.sit 0 0 8)).bd fun h4 => .norm f h4) (.no "range: no function") = _
 rw [hb, ifb_true]
 simp only [Hp.add_eq, Bx.bd_mk, natF_eq, Hp.put_eq]
theorem runC_rf_no (P : Cx) (x : Sx) (n : Nat) (ps : List Nat) (a b : Code) (k : Nat) (c : CallT) (f : Fr) (h : Hp) (hx : ∀ g caps, ev f x = .fn g [] caps → and (hasBody P g) (not (Nat.ble yF g)) = false) : ∃ w, runC (.rf P x n ps a b) k c f h = .no w := by
 show ∃ w, (ev f x).onFn Out.no _ = .no w
 cases hv : ev f x
 case fn g first caps =>
  cases first with
  | nil =>
   refine ⟨ "range: no function", ?_⟩
   show ifb (and (hasBody P g) (not (Nat.ble yF g))) _ _ = _
   rw [hx g caps hv]; rfl
  | cons _ _ => exact ⟨_, rfl⟩
 all_goals exact ⟨_, rfl⟩
theorem runC_keeps (k : Nat) {t : Nat} : ∀ (cc : CC) (c : CallT) (f : Fr) (h : Hp), path t ∉ cc.sets → (runC cc k c f h).keeps t f := by
 intro cc
 induction cc with
 | skip => intro c f h _; exact rfl
 | reg l => intro c f h ht; exact runR_keeps ht
 | exit i => intro c f h _; exact rfl
 | ret => intro c f h _; exact rfl
 | bad w => intro c f h _; trivial
 | seq x y ihx ihy =>
  intro c f h ht
  have ht : path t ∉ x.sets ++ y.sets := ht
  have h1 := ihx c f h (fun hh => ht (List.mem_append_left _ hh))
  show ((runC x k c f h).bd Out.no (runC y k c) Out.exit).keeps t f
  cases hx : runC x k c f h with
  | norm f' h' => rw [hx] at h1; exact (ihy c f' h' (fun hh => ht (List.mem_append_right _ hh))).trans h1
  | exit i f' h' => rw [hx] at h1; exact h1
  | ret f' h' => rw [hx] at h1; exact h1
  | no w => trivial
 | cond x y z ihy ihz =>
  intro c f h ht
  have ht : path t ∉ y.sets ++ z.sets := ht
  show ((ev f x).onBool Out.no fun b => Bool.rec (motive := fun _ => Out) (runC z k c f h) (runC y k c f h) b).keeps t f
  cases ev f x <;> try trivial
  case bool b =>
   cases b with
   | true => exact ihy c f h (fun hh => ht (List.mem_append_left _ hh))
   | false => exact ihz c f h (fun hh => ht (List.mem_append_right _ hh))
 | blk id b ih =>
  intro c f h ht
  have h1 := ih c f h ht
  show ((runC b k c f h).bd Out.no Out.norm fun i f h => Bool.rec (motive := fun _ => Out) (.exit i f h) (.norm f h) (Nat.beq i id)).keeps t f
  cases hx : runC b k c f h with
  | norm f' h' => rw [hx] at h1; exact h1
  | ret f' h' => rw [hx] at h1; exact h1
  | no w => trivial
  | exit i f' h' =>
   rw [hx] at h1
   show (Bool.rec (motive := fun _ => Out) (.exit i f' h') (.norm f' h') (Nat.beq i id) : Out).keeps t f
   cases Nat.beq i id <;> exact h1
 | loop b ih => intro c f h ht; exact rounds_keeps (fun f h => ih c f h ht) k f h
 | rf P x n ps a b =>
  intro c f h _
  by_cases hx : ∃ g caps, ev f x = .fn g [] caps ∧ and (hasBody P g) (not (Nat.ble yF g)) = true
  · obtain ⟨g, caps, hx, hb⟩ := hx
    rw [runC_rf P x n ps a b k c f h hx hb]
    cases c g (.fn yF [] [.ptr h.n 0 0] :: caps) ⟨setT (.lp ⟨n, f, ps, a, b⟩) (path h.n) h.t, h.n + 1, h.lk⟩ with
    | no w => trivial
    | ok v h3 => exact rfl
  · obtain ⟨w, hw⟩ := runC_rf_no P x n ps a b k c f h fun g caps hh => by
     cases hb : and (hasBody P g) (not (Nat.ble yF g)) with
     | false => rfl
     | true => exact absurd ⟨g, caps, hh, hb⟩ hx
    rw [hw]; trivial
 | mloop m b ih =>
  intro c f h ht
  have ht0 : path t ∉ m.it :: (setsR m.pre ++ (m.ds ++ (m.cs ++ b.sets))) := ht
  have ht : path t ∉ setsR m.pre ++ (m.ds ++ (m.cs ++ b.sets)) := fun hh => ht0 (.tail _ hh)
  show ((runR m.pre c f h).bd Out.no (fun f h => (ev f m.x).onMap Out.no (.no "range: nil map") fun r => h.onMap r (.no "range: no map") fun es => ifb (h.okw h.n) ((h.add (.sit 0 0 7)).bd fun h2 => (setP (.ptr h.n 0 0) m.it f).bd fun f2 => loopEs m (runC b k) c f2 h2 r es) (.no "range: locked")) Out.exit).keeps t f
  have h1 : (runR m.pre c f h).keeps t f := runR_keeps fun hh => ht (List.mem_append_left _ hh)
  rcases runR_norm c m.pre f h with ⟨f', h', hx⟩ | ⟨q, hx⟩
  · rw [hx] at h1 ⊢
    have h1 : slot f' t = slot f t := h1
    show ((ev f' m.x).onMap Out.no (.no "range: nil map") fun r => h'.onMap r (.no "range: no map") fun es => ifb (h'.okw h'.n) ((h'.add (.sit 0 0 7)).bd fun h2 => (setP (.ptr h'.n 0 0) m.it f').bd fun f2 => loopEs m (runC b k) c f2 h2 r es) (.no "range: locked")).keeps t f
    cases ev f' m.x <;> try trivial
    case nil u =>
     show (Bool.rec (motive := fun _ => Out) (.no "map") (.no "range: nil map") (Nat.beq u 2) : Out).keeps t f
     cases Nat.beq u 2 <;> trivial
    case map r =>
     show (h'.onMap r (.no "range: no map") fun es => ifb (h'.okw h'.n) ((h'.add (.sit 0 0 7)).bd fun h2 => (setP (.ptr h'.n 0 0) m.it f').bd fun f2 => loopEs m (runC b k) c f2 h2 r es) (.no "range: locked") : Out).keeps t f
     unfold Hp.onMap
     cases h'.get r with
     | none => trivial
     | some blk =>
      cases blk <;> try trivial
      case map es =>
       show (ifb (h'.okw h'.n) ((h'.add (.sit 0 0 7)).bd fun h2 => (setP (.ptr h'.n 0 0) m.it f').bd fun f2 => loopEs m (runC b k) c f2 h2 r es) (.no "range: locked")).keeps t f
       cases h'.okw h'.n with
       | false => trivial
       | true =>
        rw [ifb_true, Bx.eta (h'.add _), Bx.bd_mk, Bx.eta (setP (AV.ptr h'.n 0 0) m.it f'), Bx.bd_mk]
        have h2 := loopEs_keeps m (runC b k) c (setP (AV.ptr h'.n 0 0) m.it f').out (h'.add (.sit 0 0 7)).out r es (t := t) (fun hh => ht (List.mem_append_right _ (List.mem_append_left _ hh))) (fun hh => ht (List.mem_append_right _ (List.mem_append_right _ (List.mem_append_left _ hh))))
        refine h2.trans ?_
        rw [slot_put, if_neg (fun hh => ht0 (by rw [hh]; exact .head _))]
        exact h1
  · rw [hx]; trivial
theorem eqSt_eq {a b : St} (h : eqSt a b = true) : a = b := by
 unfold eqSt at h
 simp only [Bool.and_eq_true] at h
 exact Prod.ext (avEqL_eq h.1) (avEqL_eq h.2)
theorem rowOf_spec {s : St} : ∀ {rows : Rows} {ts : List St}, rowOf s rows = some ts → (s, ts) ∈ rows
 | r :: l, ts, h => by
  have h : ifb (eqSt s r.1) (some r.2) (rowOf s l) = some ts := h
  cases he : eqSt s r.1 with
  | true =>
   rw [he] at h; cases h
   rw [eqSt_eq he]; exact .head _
  | false => rw [he] at h; exact .tail _ (rowOf_spec h)
theorem walkM_append (rows : Rows) : ∀ (a b : List Nat) (s : St), walkM rows s (a ++ b) = (walkM rows s a).bind fun t => walkM rows t b
 | [], b, s => rfl
 | i :: a, b, s => by
  show (match rowOf s rows with
   | some ts => match nthA ts i with
    | some t => walkM rows t (a ++ b)
    | none => none
   | none => none) = (match rowOf s rows with
   | some ts => match nthA ts i with
    | some t => walkM rows t a
    | none => none
   | none => none).bind fun t => walkM rows t b
  cases rowOf s rows with
  | none => rfl
  | some ts => cases h : nthA ts i with
   | none => simp only [h]; rfl
   | some t => simp only [h]; exact walkM_append rows a b t
theorem okRows_spec {n : Nat} {rows : Rows} (h : okRows n rows = true) {s : St} {ts : List St} (hs : (s, ts) ∈ rows) : ∀ i j, i < n → j < n → i ≠ j → walkM rows s [i, j] = walkM rows s [j, i] := by
 have h3 := List.all_eq_true.1 h _ hs
 have key : ∀ i j, i < n → j < i → walkM rows s [i, j] = walkM rows s [j, i] := by
  intro i j hi hj
  have h4 := List.all_eq_true.1 (List.all_eq_true.1 h3 i (List.mem_range.2 hi)) j (List.mem_range.2 hj)
  unfold eqOS at h4
  split at h4
  · rename_i x y hx hy
    rw [hx, hy, eqSt_eq h4]
  · rename_i hx hy
    rw [hx, hy]
  · cases h4
 intro i j hi hj hne
 rcases Nat.lt_or_gt_of_ne hne with hl | hl
 · exact (key j i hj hl).symm
 · exact key i j hi hl
theorem walk_step {rows : Rows} {s : St} {ts : List St} (hs : rowOf s rows = some ts) (i : Nat) (l : List Nat) : walkM rows s (i :: l) = (nthA ts i).bind fun t => walkM rows t l := by
 show (match rowOf s rows with
  | some ts => match nthA ts i with
   | some t => walkM rows t l
   | none => none
  | none => none) = _
 rw [hs]
 cases h : nthA ts i with
 | none => simp only [h]; rfl
 | some t => simp only [h]; rfl
theorem walk_none {rows : Rows} {s : St} (hs : rowOf s rows = none) (i : Nat) (l : List Nat) : walkM rows s (i :: l) = none := by
 show (match rowOf s rows with
  | some ts => match nthA ts i with
   | some t => walkM rows t l
   | none => none
  | none => none) = none
 rw [hs]
theorem walk_perm {n : Nat} {rows : Rows} (h : okRows n rows = true) {l l' : List Nat} (hp : l.Perm l') : ∀ {s : St}, (∀ i ∈ l, i < n) → walkM rows s l = walkM rows s l' := by
 induction hp with
 | nil => intro s _; rfl
 | cons x hp ih =>
  intro s hl
  cases hs : rowOf s rows with
  | none => rw [walk_none hs, walk_none hs]
  | some ts =>
   rw [walk_step hs, walk_step hs]
   cases hx : nthA ts x with
   | none => rfl
   | some t => exact ih fun i hi => hl i (.tail _ hi)
 | swap x y l =>
  intro s hl
  by_cases hxy : x = y
  · rw [hxy]
  · cases hs : rowOf s rows with
    | none => rw [walk_none hs, walk_none hs]
    | some ts =>
     have := okRows_spec h (rowOf_spec hs) y x (hl y (.head _)) (hl x (.tail _ (.head _))) (fun hh => hxy hh.symm)
     rw [show y :: x :: l = [y, x] ++ l from rfl, show x :: y :: l = [x, y] ++ l from rfl, walkM_append, walkM_append, this]
 | trans h1 h2 ih1 ih2 =>
  intro s hl
  rw [ih1 hl, ih2 fun i hi => hl i (h1.mem_iff.2 hi)]
theorem eachM_get {step : AV × AV → Res St} : ∀ {es : Es} {ts : List St}, eachM step es = .ok ts → ts.length = es.length ∧ ∀ (i : Nat) (kv : AV × AV) (t : St), es[i]? = some kv → ts[i]? = some t → step kv = .ok t
 | [], ts, h => by
  cases h
  exact ⟨rfl, fun i kv t h => by simp at h⟩
 | kv :: es, ts, h => by
  unfold eachM at h
  cases hs : step kv with
  | no w => rw [hs] at h; cases h
  | ok t =>
   rw [hs] at h
   cases hr : eachM step es with
   | no w => rw [hr] at h; cases h
   | ok r =>
    rw [hr] at h; cases h
    obtain ⟨h1, h2⟩ := eachM_get hr
    refine ⟨by simp [h1], fun i kv' t' hi ht => ?_⟩
    cases i with
    | zero => simp at hi ht; subst hi; subst ht; exact hs
    | succ i => exact h2 i kv' t' (by simpa using hi) (by simpa using ht)
theorem growS_ok {step : St → Res (List St)} : ∀ (todo : List St) (rows0 : Rows) (next : List St) (q : Rows × List St), growS step todo rows0 next = .ok q → (∀ r ∈ rows0, step r.1 = .ok r.2) → ∀ r ∈ q.1, step r.1 = .ok r.2
 | [], rows0, next, q, h, h0 => by cases h; exact h0
 | s :: todo, rows0, next, q, h, h0 => by
  unfold growS at h
  cases hr : rowOf s rows0 with
  | some us => rw [hr] at h; exact growS_ok todo rows0 next q h h0
  | none =>
   rw [hr] at h
   cases hst : step s with
   | no w => rw [hst] at h; cases h
   | ok ts =>
    rw [hst] at h
    refine growS_ok todo ((s, ts) :: rows0) (ts ++ next) q h fun r hr' => ?_
    rcases List.mem_cons.1 hr' with rfl | hr'
    · exact hst
    · exact h0 r hr'
theorem growM_ok {step : St → Res (List St)} : ∀ (n : Nat) (todo : List St) (rows0 rows : Rows), growM step n todo rows0 = .ok rows → (∀ r ∈ rows0, step r.1 = .ok r.2) → ∀ r ∈ rows, step r.1 = .ok r.2
 | 0, _, rows0, rows, h, h0 => by cases h; exact h0
 | n + 1, todo, rows0, rows, h, h0 => by
  unfold growM at h
  cases hq : growS step todo rows0 [] with
  | no w => rw [hq] at h; cases h
  | ok q => rw [hq] at h; exact growM_ok n q.2 q.1 rows h (growS_ok todo rows0 [] q hq h0)
theorem walk_row {rows : Rows} {s s' : St} {i : Nat} {l : List Nat} (h : walkM rows s (i :: l) = some s') : ∃ ts, rowOf s rows = some ts := by
 cases hr : rowOf s rows with
 | some ts => exact ⟨ts, rfl⟩
 | none =>
  have h : (match rowOf s rows with
   | some ts => match nthA ts i with
    | some t => walkM rows t l
    | none => none
   | none => none) = some s' := h
  rw [hr] at h; cases h
end Go.Ab
namespace Go.Ab
variable [Val]
open Go
variable {C : Cx}
theorem memN_iff {b : Nat} : ∀ {l : List Nat}, memN b l = true ↔ b ∈ l
 | [] => by
  show false = true ↔ _
  simp
 | x :: l => by
  show ifb (Nat.beq b x) true (memN b l) = true ↔ _
  cases hb : Nat.beq b x with
  | true => rw [ifb_true, beq_iff.1 hb]; simp
  | false =>
   rw [ifb_false, memN_iff, List.mem_cons]
   constructor
   · exact .inr
   · rintro (h | h)
     · rw [beq_iff.2 h] at hb; cases hb
     · exact h
theorem run_nextM {P : Program} (w : World) (ty : TypeId) {I bm clock : Nat} {seen : Array Nat} {es : Array MapEntry} (hI : w.heap[I]? = some (.mapIter (some bm) clock seen clock)) (hb : w.heap[bm]? = some (.map es clock)) (hold : ∀ x ∈ es.toList, x.born < clock) :
 ((leftOf es seen).size = 0 ∧ (Instr.next (.pointer (some ⟨I, 0, none⟩)) false ty).run P w = .ok (.tuple #[.bool false]) w) ∨
 ∃ e ∈ (leftOf es seen).toList, ∃ w1 : World, w1.heap = w.heap ∧ w1.os = w.os ∧ w1.output = w.output ∧
  (Instr.next (.pointer (some ⟨I, 0, none⟩)) false ty).run P w = .ok (.tuple #[.bool true, e.key, e.val]) { w1 with heap := w1.heap.setIfInBounds I (.mapIter (some bm) clock (seen.push e.born) clock) } := by
 simp only [Instr.next, getObj, Sem.run_bind, Sem.run, hI, hb, Result.andThen, next_test_false seen es clock clock hold (Nat.le_refl _), Bool.false_eq_true, if_false]
 unfold leftOf
 have hmem : ∀ x ∈ (Array.filter (fun e => !seen.contains e.born) es).toList, x.born < clock := fun x hx => hold x (by simp at hx ⊢; exact hx.1)
 generalize Array.filter (fun e => !seen.contains e.born) es = L at hmem ⊢
 have e1 : L.filter (fun x => decide (x.born < clock)) = L := Array.filter_eq_self.2 (fun x hx => by simpa using hmem x (by simpa using hx))
 have e2 : L.filter (fun x => decide (x.born ≥ clock)) = #[] := by
  rw [Array.filter_eq_empty_iff]
  intro x hx
  have := hmem x (by simpa using hx)
  simp
  omega
 simp only [e1, e2, Array.append_empty]
 by_cases h0 : L.size = 0
 · left
   have : L = #[] := Array.eq_empty_of_size_eq_zero h0
   subst this
   refine ⟨rfl, ?_⟩
   simp [choose, Sem.run, Question.forced]
 · right
   have hne : L.isEmpty = false := by simp [Array.isEmpty, h0]
   simp only [hne, Bool.false_eq_true, if_false, Array.empty_append, Array.size_map]
   have hch : ∃ (j : Nat) (w1 : World), j < L.size ∧ (w1.heap = w.heap ∧ w1.os = w.os ∧ w1.output = w.output) ∧ (choose (Question.mapNext L.size)).run P w = .ok j w1 := by
    by_cases hf : L.size ≤ 1
    · exact ⟨0, w, by omega, ⟨rfl, rfl, rfl⟩, by simp [choose, Sem.run, Question.forced, hf]⟩
    · exact ⟨_, w.drew, Nat.mod_lt _ (by omega), ⟨rfl, rfl, rfl⟩, by
       simp only [choose, Sem.run, Question.forced, decide_eq_true_eq, hf, if_false, Question.cut]
       rfl⟩
   obtain ⟨j, w1, hj, hal, hrun⟩ := hch
   refine ⟨L[j], by simp, w1, hal.1, hal.2.1, hal.2.2, ?_⟩
   have hset : ∀ (o' : Obj), (setObj I o').run P w1 = .ok () { w1 with heap := w1.heap.setIfInBounds I o' } := fun o' => by
    simp only [setObj, Sem.run]
    rw [hal.1, hI]
   simp only [hrun, Array.getElem?_map, Array.getElem?_eq_getElem hj, Option.map_some, Sem.run_bind, hset, Result.andThen]
   rfl
theorem run_entryM {P : Program} (w : World) {I bm clock : Nat} {since : Nat} {seen : Array Nat} {es : Array MapEntry} {e : MapEntry} (hI : w.heap[I]? = some (.mapIter (some bm) since (seen.push e.born) clock)) (hb : w.heap[bm]? = some (.map es clock)) (he : e ∈ es.toList) (hn : (es.toList.map (·.born)).Nodup) :
 (Instr.entry (.pointer (some ⟨I, 0, none⟩))).run P w = .ok (.tuple #[e.key, e.val]) w := by
 have hf : es.find? (·.born == e.born) = some e := by rw [← Array.find?_toList]; exact find_born e es.toList hn he
 simp only [Instr.entry, getObj, Sem.run_bind, Sem.run, hI, hb, Result.andThen, Array.back?_push, bne_self_eq_false, Bool.false_eq_true, if_false, hf]
 rfl
theorem leftOf_push {es : Array MapEntry} {seen : Array Nat} {e : MapEntry} (hn : (es.toList.map (·.born)).Nodup) (he : e ∈ (leftOf es seen).toList) : (leftOf es seen).toList.Perm (e :: (leftOf es (seen.push e.born)).toList) := by
 have h1 : (leftOf es (seen.push e.born)).toList = (leftOf es seen).toList.filter fun m => m.born != e.born := by
  unfold leftOf
  rw [Array.toList_filter, Array.toList_filter, List.filter_filter]
  apply List.filter_congr
  intro m _
  simp only [Array.contains_eq_mem, Array.mem_push]
  by_cases h1 : m.born ∈ seen <;> by_cases h2 : m.born = e.born <;> simp [h1, h2]
 rw [h1]
 have h2 : ((leftOf es seen).toList.map (·.born)).Nodup := by
  unfold leftOf
  rw [Array.toList_filter]
  exact hn.sublist ((List.filter_sublist).map _)
 revert he h2
 generalize (leftOf es seen).toList = L
 intro he h2
 induction L with
 | nil => cases he
 | cons x L ih =>
  rw [List.map_cons, List.nodup_cons] at h2
  by_cases hx : x.born = e.born
  · have hxe : x = e := by
     rcases List.mem_cons.1 he with h | h
     · exact h.symm
     · exact absurd (by rw [hx]; exact List.mem_map.2 ⟨e, h, rfl⟩) h2.1
    subst hxe
    have h3 : (x :: L).filter (fun m => m.born != x.born) = L := by
     rw [List.filter_cons_of_neg (by simp), List.filter_eq_self]
     intro m hm
     simp only [bne_iff_ne, ne_eq]
     intro hh
     exact h2.1 (by rw [← hh]; exact List.mem_map.2 ⟨m, hm, rfl⟩)
    rw [h3]
  · have he' : e ∈ L := by
     rcases List.mem_cons.1 he with h | h
     · exact absurd (by rw [h]) hx
     · exact h
    rw [List.filter_cons_of_pos (by simpa using hx)]
    exact ((ih he' h2.2).cons x).trans (.swap _ _ _)
theorem BR.prim {e e' : Emb} {v : AV} {g : Nat} {x : Loc} {ob : Option Obj} (hp : primV v = true) (h : BR e' (.flat [v] 0) g x ob) : BR e (.flat [v] 0) g x ob := by
 cases h with
 | map es es' clock l a _ _ _ _ _ => cases a
 | sit s pos a _ => cases a
 | iter m since seen stepped a _ => cases a
 | lp q0 fn0 tm0 df0 a => cases a
 | busy o0 a => cases a
 | dfr a => cases a
 | cells c t fr q =>
  refine .cells c t fr ⟨q.cells, q.lo, q.sz, q.gen, q.known, fun i u hi hu => ?_, q.fz2, q.fz0⟩
  obtain ⟨h1, v', h2, h3⟩ := q.at' i u hi hu
  have huv : u = v := by
   have hu : ifb (Nat.beq g 0) (nthA [v] i) none = some u := hu
   cases hg : Nat.beq g 0 with
   | false => rw [hg] at hu; cases hu
   | true =>
    rw [hg, ifb_true, nthA_eq] at hu
    cases i with
    | zero => simpa using hu.symm
    | succ i => simp at hu
  subst huv
  exact ⟨h1, v', h2, h3.prim hp⟩
theorem iter_back {e e' : Emb} {h h' : Hp} {w1 w w' : World} {ex : List Nat} {s s' : St} (hex : ∀ b ∈ ex, h.okw b = true ∧ ∃ v, h.get b = some (.flat [v] 0)) {hr0 : Hp} (hs : readCs hr0 ex = some s.1)
 (x0 : Ext e h w1 e (putCs ex s.1 h).out w) (x : Ext e ⟨(putCs ex s.1 h).out.t, (putCs ex s.1 h).out.n, ⟨(putCs ex s.1 h).out.n, ex⟩⟩ w e' h' w') (hs' : readCs h' ex = some s'.1) : Ext e h w1 e (putCs ex s'.1 h).out w' := by
 obtain ⟨k1, k2, k3⟩ := putCs_spec ex s.1 h hr0 hs
 obtain ⟨j1, j2, j3⟩ := putCs_spec ex s'.1 h h' hs'
 generalize (putCs ex s.1 h).out = hm at k1 k2 k3 x0 x
 generalize (putCs ex s'.1 h).out = hm' at j1 j2 j3
 have hget : ∀ b, Hp.get (⟨hm.t, hm.n, ⟨hm.n, ex⟩⟩ : Hp) b = hm.get b := fun b => rfl
 have hlock : ∀ b, b < h.n → b ∉ ex → Hp.ro (⟨hm.t, hm.n, ⟨hm.n, ex⟩⟩ : Hp) b := by
  intro b hb hbe
  refine ⟨by show b < hm.n; omega, .inr ?_⟩
  show ifb (Nat.ble hm.n b) true (memN b ex) = false
  have h1 : Nat.ble hm.n b = false := by
   cases hh : Nat.ble hm.n b with
   | false => rfl
   | true => have := Nat.le_of_ble_eq_true hh; omega
  have h2 : memN b ex = false := by
   cases hh : memN b ex with
   | false => rfl
   | true => exact absurd (memN_iff.1 hh) hbe
  rw [h1, h2]; rfl
 have hroex : ∀ b, h.ro b → b ∉ ex := by
  intro b hb hbe
  obtain ⟨h1, v, h2⟩ := hex b hbe
  rcases hb.2 with ⟨l, hl⟩ | hl
  · rw [h2] at hl; cases hl.1; exact absurd (show (0 : Nat) = 3 from hl.2) (by omega)
  · rw [h1] at hl; cases hl
 have hroms : ∀ b, h.ro b → Hp.ro (⟨hm.t, hm.n, ⟨hm.n, ex⟩⟩ : Hp) b := fun b hb => hlock b hb.1 (hroex b hb)
 refine ⟨.refl e, ⟨x0.hr.inj, ?_, ?_⟩, fun b g y hy => .inl ⟨g, y, hy⟩, fun b g y hy => .inl ⟨g, y, hy, rfl⟩, ?_, ?_, ?_, by omega, Nat.le_trans x0.size x.size, x.os.trans x0.os, x.output.trans x0.output, j2⟩
 · intro b g y hy
   have h1 := x0.hr.lt b g y hy
   exact ⟨Nat.lt_of_lt_of_le h1.1 x.size, by rw [j1]; have := h1.2; omega⟩
 · intro b g y hy
   by_cases hbe : b ∈ ex
   · obtain ⟨v, hp, hv⟩ := readCs_cell hs' hbe
     obtain ⟨blk, h1, h2⟩ := x.hr.at' b g y (x.le _ _ _ hy)
     rw [hv] at h1; cases h1
     exact ⟨.flat [v] 0, by rw [j3, if_pos hbe]; exact hv, h2.prim hp⟩
   · obtain ⟨blk, h1, h2⟩ := x0.hr.at' b g y hy
     have hlt := x0.hr.lt b g y hy
     refine ⟨blk, by rw [j3, if_neg hbe]; rw [k3, if_neg hbe] at h1; exact h1, ?_⟩
     rw [x.frame y.r hlt.1 fun b2 g2 y2 h3 h4 => by
      have := (x0.hr.inj _ _ _ _ _ _ h3 hy h4).1
      subst this
      exact hlock b2 (by have := hlt.2; omega) hbe]
     exact h2
 · intro r hr hro
   rw [x.frame r (Nat.lt_of_lt_of_le hr x0.size) fun b g y hy hyr => hroms b (hro b g y hy hyr)]
   exact x0.frame r hr hro
 · intro b hb hno
   rw [j3]
   by_cases hbe : b ∈ ex
   · rw [if_pos hbe, x.ours b (by show b < hm.n; omega) hno, hget]
     exact x0.ours b hb hno
   · rw [if_neg hbe]
 · intro b hb
   rw [j3, if_neg (hroex b hb)]
theorem Ext.setIter {e0 e : Emb} {h hm : Hp} {w1 w : World} (x : Ext e0 h w1 e hm w) {N I : Nat} {xN : Loc} (hN0 : e0 N 0 = some xN) (hN : e N 0 = some xN) (hI : xN.r = I) (hblk : h.get N = some (.sit 0 0 7)) (hblk' : hm.get N = some (.sit 0 0 7)) (hok : h.okw N = true)
 {m : Option Nat} {since : Nat} {seen : Array Nat} {stp : Nat} (hob : w.heap[I]? = some (.mapIter m since seen stp)) {m' : Option Nat} {since' : Nat} {seen' : Array Nat} {stp' : Nat} {w2 : World} (h1 : w2.heap = w.heap.setIfInBounds I (.mapIter m' since' seen' stp')) (h2 : w2.os = w.os) (h3 : w2.output = w.output) : Ext e0 h w1 e hm w2 := by
 have hIlt : I < w.heap.size := (Array.getElem?_eq_some_iff.1 hob).1
 have hne : ∀ r, r ≠ I → w2.heap[r]? = w.heap[r]? := fun r hr => by rw [h1, Array.getElem?_setIfInBounds_ne (Ne.symm hr)]
 have hsz : w2.heap.size = w.heap.size := by rw [h1, Array.size_setIfInBounds]
 refine ⟨x.le, ⟨x.hr.inj, fun b g y hy => by rw [hsz]; exact x.hr.lt b g y hy, ?_⟩, x.names, x.blocks, ?_, x.ours, x.ro, x.n, by rw [hsz]; exact x.size, h2.trans x.os, h3.trans x.output, x.lk⟩
 · intro b g y hy
   obtain ⟨blk, k1, k2⟩ := x.hr.at' b g y hy
   refine ⟨blk, k1, ?_⟩
   by_cases hr : y.r = I
   · have hb : b = N := (x.hr.inj _ _ _ _ _ _ hy hN (hr.trans hI.symm)).1
     subst hb
     rw [hblk'] at k1; cases k1
     rw [hr, hob] at k2
     have hob2 : w2.heap[y.r]? = some (.mapIter m' since' seen' stp') := by rw [h1, hr]; simp [hIlt]
     rw [hob2]
     cases k2 with
     | iter _ _ _ _ _ hg hb => exact .iter _ _ _ _ rfl hg hb
     | busy o0 hh => cases hh
   · rw [hne _ hr]; exact k2
 · intro r hr hro
   rw [hne r]
   · exact x.frame r hr hro
   · intro hh
     subst hh
     rcases (hro N 0 xN hN0 hI).2 with ⟨l, hl⟩ | hl
     · rw [hblk] at hl; cases hl.1
       have hl2 : (0 = 0 ∧ 0 = 0 ∧ (7 = 8 ∨ 7 = 9)) := hl.2
       omega
     · rw [hok] at hl; cases hl
end Go.Ab
namespace Go.Ab
variable [Val]
open Go
variable {C : Cx} {ds : List Deferred} {b0 : Nat}
theorem seq_simK {n : Nat} {ops : Array Oper} {c : CallT} (hc : CallOK C c) {Q : Exit → Act → World → Prop} {js : List Nat} : ∀ (l : List Oper) (s : Nat), (∀ i o, l[i]? = some o → ops[s + i]? = some o) → ∀ (f : Fr) (h : Hp) (e : Emb) (a : Act) (w : World) (f' : Fr) (h' : Hp),
 GR C e → FN ds n e f a → HR e h w → runR (mkSeq C n ops.toList l) c f h = .norm f' h' → (∀ e' a' w', Ext e h w e' h' w' → FN ds n e' f' a' → owOps C.P ops Q js a' w') → owOps C.P ops Q (List.range' s l.length ++ js) a w
 | [], s, _, f, h, e, a, w, f', h', _, hf, hr, hx, hk => by
  cases hx
  exact hk e a w (.refl hr) hf
 | o :: l, s, hl, f, h, e, a, w, f', h', hg, hf, hr, hx, hk => by
  have ho : ops[s]? = some o := by simpa using hl 0 o rfl
  have hag : (mkS C n ops.toList o).again = false := by rw [← of_s (C := C) (n := n) ho]; exact of_again s
  obtain ⟨v, h2, hst, hx⟩ := runR_once hag hx
  have hst' : stepS ((Rgn.of C n ops).s s) c f h = .ok v h2 := by rw [of_s ho]; exact hst
  obtain ⟨hd1, hd2⟩ := of_d ho hst'
  rw [of_s ho] at hd1
  show owOps C.P ops Q (s :: (List.range' (s + 1) l.length ++ js)) a w
  rw [owOps_cons]
  refine stepS_sim hc ho hst' hg hf hr fun e' v' w' hext hvr => ?_
  refine seq_simK hc l (s + 1) (fun i o' hi => ?_) _ h2 e' _ w' f' h' (hg.mono hext.le) ?_ hext.hr hx fun e2 a2 w2 x2 f2 => hk e2 a2 w2 (hext.trans x2) f2
  · have := hl (i + 1) o' (by simpa using hi)
    rw [show s + 1 + i = s + (i + 1) by omega]; exact this
  · rw [hd1]; exact (hf.mono hext.le).putO hd2 hvr
theorem owOp_val {P : Program} {ops : Array Oper} {Q : Exit → Act → World → Prop} {i : Nat} {o : Oper} {K : Act → World → Prop} {a : Act} {w w' : World} {v : Value} (ho : ops[i]? = some o) (hg : o.guard = none) (h : (execOp a.eval o).run P w = .ok (.value v) w') (hk : K (a.put o.dst v) w') : owOp P ops Q i K a w := by
 unfold owOp
 simp only [ho]
 rw [if_pos (by simp [Region.wanted, hg])]
 exact .inl (wp_val h hk)
theorem FN.putAny {n : Nat} {e : Emb} {f : Fr} {a : Act} (h : FN ds n e f a) {d : Nat} (hd : slot f d = anyA) (v' : Value) : FN ds n e f (a.put (some d) v') := by
 refine ⟨⟨fun t => ?_, h.1.2⟩, by simpa [Act.put] using h.2.1, h.2.2⟩
 by_cases ht : t = d
 · subst ht; rw [hd]; exact .any _
 · have : (a.put (some d) v').tmps.getD t undef = a.tmps.getD t undef := by
    simp [Act.put, Array.getElem?_setIfInBounds_ne (Ne.symm ht)]
   rw [this]; exact h.1.1 t
theorem slotOK_spec {n : Nat} {o : Oper} {d : Nat} (h : slotOK n o = some d) : o.guard = none ∧ o.dst = some d ∧ d < n := by
 unfold slotOK at h
 cases hg : o.guard with
 | some g => rw [hg] at h; cases h
 | none => cases hd : o.dst with
  | none => rw [hg, hd] at h; cases h
  | some d' =>
   rw [hg, hd] at h
   obtain ⟨h1, h2⟩ := (show Nat.ble (Nat.succ d') n = true ∧ d' = d by
    have h : ifb (Nat.ble (Nat.succ d') n) (some d') none = some d := h
    cases hb : Nat.ble (Nat.succ d') n with
    | false => rw [hb] at h; cases h
    | true => rw [hb] at h; cases h; exact ⟨rfl, rfl⟩)
   exact ⟨rfl, by rw [h2], h2 ▸ Nat.le_of_ble_eq_true h1⟩
theorem put_get {a : Act} {d : Nat} {v : Value} (h : d < a.tmps.size) : (a.put (some d) v).eval (.tmp d) = v := by
 simp [Act.eval, Act.put, h]
theorem round1_spec {m : ML} {b : CallT → Fr → Hp → Out} {c : CallT} {fa : Fr} {h : Hp} {ex : List Nat} {cs : List (List Bool)} {s t : St} {kv : AV × AV} (hx : round1 m b c fa h ex cs s kv = .ok t) :
 ∃ f3 h3 f4 h4, runR m.ent c (entF m.pr kv (putSs cs s.2 fa).out).out ⟨(putCs ex s.1 h).out.t, (putCs ex s.1 h).out.n, ⟨(putCs ex s.1 h).out.n, ex⟩⟩ = .norm f3 h3 ∧ (b c f3 h3 = .norm f4 h4 ∨ b c f3 h3 = .exit m.nxt f4 h4) ∧ readSt ex cs f4 h4 = .ok t := by
 unfold round1 at hx
 rw [Bx.eta (putSs cs s.2 fa), Bx.bd_mk, Bx.eta (entF _ _ _), Bx.bd_mk, Bx.eta (putCs ex s.1 h), Bx.bd_mk] at hx
 generalize hr : runR m.ent c (entF m.pr kv (putSs cs s.2 fa).out).out ⟨(putCs ex s.1 h).out.t, (putCs ex s.1 h).out.n, ⟨(putCs ex s.1 h).out.n, ex⟩⟩ = o at hx
 cases o with
 | no w => cases hx
 | exit i f' h' => cases hx
 | ret f' h' => cases hx
 | norm f3 h3 =>
  simp only at hx
  cases hb : b c f3 h3 with
  | no w => rw [hb] at hx; cases hx
  | ret f' h' => rw [hb] at hx; cases hx
  | norm f4 h4 => rw [hb] at hx; exact ⟨f3, h3, f4, h4, rfl, .inl hb, hx⟩
  | exit i f4 h4 =>
   rw [hb] at hx
   have hx : ifb (Nat.beq i m.nxt) (readSt ex cs f4 h4) (.no "map: a round that leaves") = .ok t := hx
   cases hi : Nat.beq i m.nxt with
   | false => rw [hi] at hx; cases hx
   | true =>
    rw [hi] at hx
    rw [beq_iff.1 hi] at hb
    exact ⟨f3, h3, f4, h4, rfl, .inr hb, hx⟩
theorem ERL.getM {e : Emb} {es : Es} {l : List (Value × Value)} (h : ERL e es l) {i : Nat} {kv' : Value × Value} (hi : l[i]? = some kv') : ∃ kv : AV × AV, (es : List (AV × AV))[i]? = some kv ∧ VR e kv.1 kv'.1 ∧ VR e kv.2 kv'.2 := by
 induction h generalizing i with
 | nil => simp at hi
 | cons k v k' v' l l' a b _ _ ih =>
  cases i with
  | zero => simp at hi; subst hi; exact ⟨(k, v), rfl, a, b⟩
  | succ i => simpa using ih (by simpa using hi)
structure MapAt (C : Cx) (n : Nat) (m : ML) (b : CC) (it nx mr : Nat) (e : Emb) (h : Hp) (w1 : World) (f : Fr) (ex : List Nat) (cs : List (List Bool)) (N I rm bm clock : Nat) (xN xm : Loc) (es : Es) (l : List (Value × Value)) (es' : Array MapEntry) : Prop where
 it' : m.it = path it
 itds : path it ∉ m.ds
 itcs : path it ∉ cs
 nxds : path nx ∈ m.ds
 nxcs : path nx ∉ cs
 mrds : path mr ∈ m.ds
 mrcs : path mr ∉ cs
 mrn : mr < n
 ent : ∀ p ∈ setsR m.ent, p ∈ m.ds
 body : ∀ p ∈ b.sets, p ∈ m.ds
 prds : ∀ p, m.pr = some p → p ∈ m.ds
 ex : ∀ b ∈ ex, h.okw b = true ∧ ∃ v, h.get b = some (.flat [v] 0)
 hN : e N 0 = some xN
 hNI : xN = ⟨I, 0, 0, 0⟩
 bN : h.get N = some (.sit 0 0 7)
 okN : h.okw N = true
 hm : e rm 0 = some xm
 hmb : xm.r = bm
 bm' : h.get rm = some (.map es)
 erl : ERL e es l
 born : bornOK es' clock
 itf : slot f it = .ptr N 0 0
 gr : GR C e
structure Rd (b0 n : Nat) (m : ML) (it : Nat) (e : Emb) (h : Hp) (w1 : World) (f : Fr) (ex : List Nat) (cs : List (List Bool)) (I bm clock : Nat) (es : Es) (l : List (Value × Value)) (es' : Array MapEntry) (rows : Rows) (sf : St) (L : List Nat) (s : St) (a : Act) (w : World) : Prop where
 ext : Ext e h w1 e (putCs ex s.1 h).out w
 fn : FN a.defers n e (putSs cs s.2 (anyAll m.ds f).out).out a
 map : w.heap[bm]? = some (.map es' clock)
 iter : ∃ seen, w.heap[I]? = some (.mapIter (some bm) clock seen clock) ∧ (L.map fun i => l[i]?).Perm ((leftOf es' seen).toList.map fun m => some (m.key, m.val))
 lt : ∀ i ∈ L, i < es.length
 walk : walkM rows s L = some sf
 read : ∃ f0 h0, readSt ex cs f0 h0 = .ok s
 df : DF b0 e w a.defers
section
variable {n : Nat} {m : ML} {b : CC} {it nx mr : Nat} {e : Emb} {h : Hp} {w1 : World} {f : Fr} {ex : List Nat} {cs : List (List Bool)} {N I rm bm clock : Nat} {xN xm : Loc} {es : Es} {l : List (Value × Value)} {es' : Array MapEntry} {rows : Rows} {sf : St} {k : Nat} {c : CallT}
theorem MapAt.nex (M : MapAt C n m b it nx mr e h w1 f ex cs N I rm bm clock xN xm es l es') : N ∉ ex := fun hh => by
 obtain ⟨_, v, hv⟩ := M.ex N hh
 rw [M.bN] at hv; cases hv
theorem MapAt.rex (M : MapAt C n m b it nx mr e h w1 f ex cs N I rm bm clock xN xm es l es') : rm ∉ ex := fun hh => by
 obtain ⟨_, v, hv⟩ := M.ex rm hh
 rw [M.bm'] at hv; cases hv
theorem lock_ro {hm : Hp} {ex : List Nat} {b : Nat} (hb : b < hm.n) (hbe : b ∉ ex) : Hp.ro (⟨hm.t, hm.n, ⟨hm.n, ex⟩⟩ : Hp) b := by
 refine ⟨hb, .inr ?_⟩
 show ifb (Nat.ble hm.n b) true (memN b ex) = false
 have h1 : Nat.ble hm.n b = false := by
  cases hh : Nat.ble hm.n b with
  | false => rfl
  | true => have := Nat.le_of_ble_eq_true hh; omega
 have h2 : memN b ex = false := by
  cases hh : memN b ex with
  | false => rfl
  | true => exact absurd (memN_iff.1 hh) hbe
 rw [h1, h2]; rfl
theorem round_after (M : MapAt C n m b it nx mr e h w1 f ex cs N I rm bm clock xN xm es l es') {s t : St} {a : Act} {w : World} (x0 : Ext e h w1 e (putCs ex s.1 h).out w) (fn0 : FN ds n e (putSs cs s.2 (anyAll m.ds f).out).out a) (hread : ∃ f0 h0, readSt ex cs f0 h0 = .ok s)
 (hmap : w.heap[bm]? = some (.map es' clock)) {seen : Array Nat} (hiter : w.heap[I]? = some (.mapIter (some bm) clock seen clock)) {L : List Nat} (hleft : (L.map fun i => l[i]?).Perm ((leftOf es' seen).toList.map fun m => some (m.key, m.val))) (hlt : ∀ i ∈ L, i < es.length) (hwalk : walkM rows t L = some sf)
 {kv : AV × AV} {f3 f4 : Fr} {h3 h4 : Hp} (hr3 : runR m.ent c (entF m.pr kv (putSs cs s.2 (anyAll m.ds f).out).out).out ⟨(putCs ex s.1 h).out.t, (putCs ex s.1 h).out.n, ⟨(putCs ex s.1 h).out.n, ex⟩⟩ = .norm f3 h3) (hb4 : runC b k c f3 h3 = .norm f4 h4 ∨ runC b k c f3 h3 = .exit m.nxt f4 h4) (ht : readSt ex cs f4 h4 = .ok t)
 {e' : Emb} {a' : Act} {w' : World} (hext : Ext e ⟨(putCs ex s.1 h).out.t, (putCs ex s.1 h).out.n, ⟨(putCs ex s.1 h).out.n, ex⟩⟩ w e' h4 w') (hfn : FN a'.defers n e' f4 a') (hdf : DF b0 e' w' a'.defers) : Rd b0 n m it e h w1 f ex cs I bm clock es l es' rows sf L t a' w' := by
 obtain ⟨f0, h0, hread⟩ := hread
 obtain ⟨hr1, hr2⟩ := readSt_spec hread
 obtain ⟨ht1, ht2⟩ := readSt_spec ht
 obtain ⟨k1, k2, k3⟩ := putCs_spec ex s.1 h h0 hr1
 have hframe : ∀ b2 x2, e b2 0 = some x2 → b2 ∉ ex → w'.heap[x2.r]? = w.heap[x2.r]? := by
  intro b2 x2 h2 hne
  have hl := x0.hr.lt _ _ _ h2
  exact hext.frame x2.r hl.1 fun b3 g3 x3 h3' h4' => by
   have := (x0.hr.inj _ _ _ _ _ _ h3' h2 h4').1
   subst this
   exact lock_ro hl.2 hne
 refine ⟨iter_back M.ex hr1 x0 hext ht1, ⟨⟨fun q => ?_, hfn.1.2⟩, hfn.2⟩, ?_, ⟨seen, ?_, hleft⟩, hlt, hwalk, ⟨f4, h4, ht⟩, hdf.sub hext.le⟩
 · rw [putSs_slot cs t.2 _ f4 q ht2]
   by_cases hq : path q ∈ cs
   · rw [if_pos hq]
     exact (hfn.1.1 q).prim (readSs_prim ht2 hq)
   · rw [if_neg hq, anyAll_slot]
     by_cases hd : path q ∈ m.ds
     · rw [if_pos hd]; exact .any _
     · rw [if_neg hd]
       have h1 : slot f4 q = slot f3 q := by
        have hk := runC_keeps k b c f3 h3 (fun hh => hd (M.body _ hh)) (t := q)
        rcases hb4 with hb4 | hb4 <;> rw [hb4] at hk <;> exact hk
       have h2 : slot f3 q = slot (entF m.pr kv (putSs cs s.2 (anyAll m.ds f).out).out).out q := runR_keep hr3 fun hh => hd (M.ent _ hh)
       have h3 : slot (entF m.pr kv (putSs cs s.2 (anyAll m.ds f).out).out).out q = slot (putSs cs s.2 (anyAll m.ds f).out).out q := by
        unfold entF
        cases hp : m.pr with
        | none => rfl
        | some p =>
         simp only
         rw [slot_put, if_neg (fun hh => hd (by rw [hh]; exact M.prds p hp))]
       have h4 : slot (putSs cs s.2 (anyAll m.ds f).out).out q = slot f q := by
        rw [putSs_out _ _ _ _ hq, anyAll_slot, if_neg hd]
       have h5 := fn0.1.1 q
       rw [h4] at h5
       have h6 := hfn.1.1 q
       rw [h1, h2, h3, h4] at h6
       exact h5.back hext.le h6
 · have := hframe rm xm M.hm M.rex
   rw [M.hmb] at this
   rw [this]; exact hmap
 · have := hframe N xN M.hN M.nex
   rw [M.hNI] at this
   exact this.trans hiter
end
end Go.Ab
namespace Go.Ab
variable [Val]
open Go
variable {C : Cx} {ds : List Deferred} {R : Option Nat → Prop} {b0 : Nat}
def RoundOK (C : Cx) (R : Option Nat → Prop) (n : Nat) (m : ML) (b : CC) (it : Nat) (body : Code) : Prop := ∀ (b0 k : Nat) (c : CallT), CallOK C c → ∀ (kv : AV × AV) (key val : Value) (fs f3 f4 : Fr) (hl h3 h4 : Hp) (e : Emb) (a : Act) (w : World) (I bm clock : Nat) (seen : Array Nat) (es' : Array MapEntry) (en : MapEntry) (Q : Exit → Act → World → Prop),
 GR C e → FN a.defers n e fs a → DF b0 e w a.defers → HR e hl w → a.eval (.tmp it) = .pointer (some ⟨I, 0, none⟩) → w.heap[I]? = some (.mapIter (some bm) clock (seen.push en.born) clock) → w.heap[bm]? = some (.map es' clock) → en ∈ es'.toList → (es'.toList.map (·.born)).Nodup → en.key = key → en.val = val → VR e kv.1 key → VR e kv.2 val →
 runR m.ent c (entF m.pr kv fs).out hl = .norm f3 h3 → (runC b k c f3 h3 = .norm f4 h4 ∨ runC b k c f3 h3 = .exit m.nxt f4 h4) →
 (∀ e' a' w', Ext e hl w e' h4 w' → FN a'.defers n e' f4 a' → DF b0 e' w' a'.defers → Q .normal a' w' ∧ Q (.exit m.nxt) a' w') → body.ow R C.P Q a w
theorem round_plain {n : Nat} {m : ML} {b : CC} {it : Nat} {body : Code} (hp : m.pr = none) (he : m.ent = []) (hb : b = mkC C n body) (hcode : CodeOK C R n body) : RoundOK C R n m b it body := by
 intro b0 k c hc kv key val fs f3 f4 hl h3 h4 e a w I bm clock seen es' en Q hg hf hd hr _ _ _ _ _ _ _ _ _ hx hb4 hk
 rw [hp, he] at hx
 have hx : Out.norm fs hl = .norm f3 h3 := hx
 cases hx
 refine hcode b0 k c hc fs hl e a w Q hg hf hd hr ?_
 rw [← hb]
 rcases hb4 with hb4 | hb4
 · rw [hb4]; exact fun e' a' w' hext hfn hdf => (hk e' a' w' hext hfn hdf).1
 · rw [hb4]; exact fun e' a' w' hext hfn hdf => (hk e' a' w' hext hfn hdf).2
theorem round_entry {n : Nat} {m : ML} {b : CC} {it pr id : Nat} {ops2 : Array Oper} {oe : Oper} {ents : List Oper} {code : Code} (hops : ops2.toList = oe :: ents) (hoe : oe.op = .entry (.tmp it)) (hsl : slotOK n oe = some pr) (hp : m.pr = some (path pr)) (he : m.ent = mkSeq C n ops2.toList ents) (hb : b = mkC C n code) (hcode : CodeOK C R n code) :
 RoundOK C R n m b it (.seq (.region id ops2 false) code) := by
 intro b0 k c hc kv key val fs f3 f4 hl h3 h4 e a w I bm clock seen es' en Q hg hf hd hr hit hI hbm hen hnd hkey hval v1 v2 hx hb4 hk
 obtain ⟨g1, g2, g3⟩ := slotOK_spec hsl
 have ho : ops2[0]? = some oe := by rw [← Array.getElem?_toList, hops]; rfl
 have hsz : ops2.size = ents.length + 1 := by rw [← Array.length_toList, hops]; rfl
 refine ow_seq (ow_region ?_)
 rw [hsz, List.range_eq_range']
 show owOps C.P ops2 _ (0 :: List.range' 1 ents.length) a w
 rw [owOps_cons]
 refine owOp_val (v := .tuple #[key, val]) (w' := w) ho g1 ?_ ?_
 · have := run_entryM (P := C.P) w hI hbm hen hnd
   simp only [execOp, hoe, hit, this, Sem.run_bind, Result.andThen_ok, Sem.run_pure, hkey, hval]
 · rw [g2]
   have hfn : FN a.defers n e (entF m.pr kv fs).out (a.put (some pr) (.tuple #[key, val])) := by
    rw [hp]
    show FN a.defers n e (setP (.tup [kv.1, kv.2]) (path pr) fs).out _
    rw [setP_eq]
    exact hf.put g3 (.tup _ [key, val] (.cons _ _ _ _ v1 (.cons _ _ _ _ v2 .nil)))
   have hl' : ∀ (i : Nat) (o : Oper), ents[i]? = some o → ops2[1 + i]? = some o := by
    intro i o hi
    rw [← Array.getElem?_toList, hops, Nat.add_comm 1 i]
    simpa using hi
   rw [he] at hx
   have := seq_simK (C := C) hc (Q := Exit.then (code.ow R C.P Q) Q) (js := []) ents 1 hl' _ hl e _ w f3 h3 hg hfn hr hx fun e' a' w' hext hfn' => ?_
   · rw [List.append_nil] at this
     exact this
   · show code.ow R C.P Q a' w'
     refine hcode b0 k c hc f3 h3 e' a' w' Q (hg.mono hext.le) (by rw [hfn'.2.2]; exact hfn') (by rw [hfn'.2.2]; exact hd.ext hext) hext.hr ?_
     rw [← hb]
     rcases hb4 with hb4 | hb4
     · rw [hb4]; exact fun e2 a2 w2 x2 fn2 d2 => (hk e2 a2 w2 (hext.trans x2) fn2 d2).1
     · rw [hb4]; exact fun e2 a2 w2 x2 fn2 d2 => (hk e2 a2 w2 (hext.trans x2) fn2 d2).2
section
variable {n : Nat} {m : ML} {b : CC} {it nx mr : Nat} {e : Emb} {h : Hp} {w1 : World} {f : Fr} {ex : List Nat} {cs : List (List Bool)} {N I rm bm clock : Nat} {xN xm : Loc} {es : Es} {l : List (Value × Value)} {es' : Array MapEntry} {rows : Rows} {sf : St} {k : Nat} {c : CallT}
theorem iter_slot (M : MapAt C n m b it nx mr e h w1 f ex cs N I rm bm clock xN xm es l es') {vs : List AV} {a : Act} (fn : FN ds n e (putSs cs vs (anyAll m.ds f).out).out a) : a.eval (.tmp it) = .pointer (some ⟨I, 0, none⟩) := by
 have h1 := fn.1.1 it
 rw [putSs_out _ _ _ _ M.itcs, anyAll_slot, if_neg M.itds, M.itf] at h1
 have h2 : a.eval (.tmp it) = a.tmps.getD it undef := by simp [Act.eval]
 rw [h2]
 generalize a.tmps.getD it undef = u at h1
 cases h1 with
 | ptr _ _ _ x p1 p2 p3 =>
  have := M.hN
  rw [p1] at this; cases this
  rw [M.hNI]
  rfl
theorem rounds_sim (M : MapAt C n m b it nx mr e h w1 f ex cs N I rm bm clock xN xm es l es') (hrows1 : ∀ r ∈ rows, eachM (round1 m (runC b k) c (anyAll m.ds f).out h ex cs r.1) es = .ok r.2) (hrows2 : okRows es.length rows = true) (hc : CallOK C c) {body : Code} (hround : RoundOK C R n m b it body)
 {id1 out nxt : Nat} {ops1 : Array Oper} {o1 o2 : Oper} (hops : ops1.toList = [o1, o2]) (ho1 : o1.op = .next (.tmp it) false) (hs1 : slotOK n o1 = some nx) (ho2 : o2.op = .extract (.tmp nx) 0) (hs2 : slotOK n o2 = some mr) (hnxt : nxt = m.nxt)
 {Q : Exit → Act → World → Prop} (hQ : ∀ a w, Ext e h w1 e (putCs ex sf.1 h).out w → FN a.defers n e (putSs cs sf.2 (anyAll m.ds f).out).out a → DF b0 e w a.defers → Q (.exit out) a w) :
 ∀ (q : Nat) (L : List Nat), L.length = q → ∀ (s : St) (a : Act) (w : World), Rd b0 n m it e h w1 f ex cs I bm clock es l es' rows sf L s a w → owL R C.P (.seq (.region id1 ops1 false) (.seq (.cond (.tmp mr) .skip (.exit out)) (.block nxt body))) Q a w := by
 subst hnxt
 intro q
 induction q using Nat.strongRecOn with
 | ind q ih =>
  intro L hL s a w R
  obtain ⟨g1, g2, g3⟩ := slotOK_spec hs1
  obtain ⟨i1, i2, i3⟩ := slotOK_spec hs2
  have e1 : ops1[0]? = some o1 := by rw [← Array.getElem?_toList, hops]; rfl
  have e2 : ops1[1]? = some o2 := by rw [← Array.getElem?_toList, hops]; rfl
  have hsz : ops1.size = 2 := by rw [← Array.length_toList, hops]; rfl
  have hit := iter_slot M R.fn
  obtain ⟨seen, hI, hperm⟩ := R.iter
  have hold : ∀ x ∈ es'.toList, x.born < clock := fun x hx => M.born.1 _ (List.mem_map.2 ⟨x, hx, rfl⟩)
  have hnd : (es'.toList.map (·.born)).Nodup := M.born.2
  have hslot : ∀ (vs : List AV) (d : Nat), path d ∈ m.ds → path d ∉ cs → slot (putSs cs vs (anyAll m.ds f).out).out d = anyA := fun vs d h1 h2 => by rw [putSs_out _ _ _ _ h2, anyAll_slot, if_pos h1]
  refine owL_step (ow_seq (ow_region ?_))
  rw [hsz]
  show owOps C.P ops1 _ [0, 1] a w
  rw [owOps_cons]
  rcases run_nextM (P := C.P) w o1.type hI R.map hold with ⟨h0, hrun⟩ | ⟨en, hen, w1', u1, u2, u3, hrun⟩
  ·
   refine owOp_val (v := .tuple #[.bool false]) (w' := w) e1 g1 (by simp only [execOp, ho1, hit, hrun, Sem.run_bind, Result.andThen_ok, Sem.run_pure]) ?_
   rw [g2, owOps_cons]
   have hf1 := R.fn.putAny (hslot s.2 nx M.nxds M.nxcs) (.tuple #[.bool false])
   have hev : (a.put (some nx) (.tuple #[.bool false])).eval (.tmp nx) = .tuple #[.bool false] := put_get (Nat.lt_of_lt_of_le g3 R.fn.2.1)
   refine owOp_val (v := .bool false) (w' := w) e2 i1 (by simp [execOp, ho2, hev, Instr.extract]) ?_
   rw [i2]
   have hf2 := hf1.putAny (hslot s.2 mr M.mrds M.mrcs) (.bool false)
   have hLn : L = [] := by
    have h1 := hperm.length_eq
    simp at h1
    have : L.length = 0 := by omega
    exact List.eq_nil_of_length_eq_zero this
   have hsf : s = sf := by
    have h1 := R.walk
    rw [hLn] at h1
    cases h1; rfl
   refine ow_seq (ow_cond_false (put_get (Nat.lt_of_lt_of_le i3 hf1.2.1)) (ow_exit ?_))
   subst hsf
   exact hQ _ w R.ext (by rw [put_defers, put_defers]; exact hf2) (by rw [put_defers, put_defers]; exact R.df)
  ·
   have hhm : (putCs ex s.1 h).out.get N = some (.sit 0 0 7) := by
    obtain ⟨f0, h0, hread⟩ := R.read
    obtain ⟨_, _, k3⟩ := putCs_spec ex s.1 h h0 (readSt_spec hread).1
    rw [k3, if_neg M.nex]; exact M.bN
   have hx2 : Ext e h w1 e (putCs ex s.1 h).out { w1' with heap := w1'.heap.setIfInBounds I (.mapIter (some bm) clock (seen.push en.born) clock) } :=
    R.ext.setIter M.hN M.hN (by rw [M.hNI]) M.bN hhm M.okN hI (by show w1'.heap.setIfInBounds I _ = _; rw [u1]) u2 u3
   refine owOp_val (v := .tuple #[.bool true, en.key, en.val]) (w' := { w1' with heap := w1'.heap.setIfInBounds I (.mapIter (some bm) clock (seen.push en.born) clock) }) e1 g1 (by simp only [execOp, ho1, hit, hrun, Sem.run_bind, Result.andThen_ok, Sem.run_pure]) ?_
   have hIlt : I < w.heap.size := (Array.getElem?_eq_some_iff.1 hI).1
   have hI2 : ({ w1' with heap := w1'.heap.setIfInBounds I (.mapIter (some bm) clock (seen.push en.born) clock) } : World).heap[I]? = some (.mapIter (some bm) clock (seen.push en.born) clock) := by
    show (w1'.heap.setIfInBounds I _)[I]? = _
    rw [u1]; simp [hIlt]
   have hbI : bm ≠ I := by
    intro hh
    have := R.map
    rw [hh, hI] at this; cases this
   have hm2 : ({ w1' with heap := w1'.heap.setIfInBounds I (.mapIter (some bm) clock (seen.push en.born) clock) } : World).heap[bm]? = some (.map es' clock) := by
    show (w1'.heap.setIfInBounds I _)[bm]? = _
    rw [u1, Array.getElem?_setIfInBounds_ne (Ne.symm hbI)]; exact R.map
   have hd2 : DF b0 e ({ w1' with heap := w1'.heap.setIfInBounds I (.mapIter (some bm) clock (seen.push en.born) clock) } : World) a.defers := by
    refine ⟨fun d hd => ?_, R.df.2.1, by show b0 ≤ (w1'.heap.setIfInBounds I _).size; rw [u1, Array.size_setIfInBounds]; exact R.df.2.2⟩
    obtain ⟨D, j1, j2, j3, j4⟩ := R.df.1 d hd
    have hne : I ≠ D := by
     intro hh
     subst hh
     rw [hI] at j2; cases j2
    refine ⟨D, j1, ?_, j3, j4⟩
    show (w1'.heap.setIfInBounds I _)[D]? = _
    rw [u1, Array.getElem?_setIfInBounds_ne hne]; exact j2
   generalize ({ w1' with heap := w1'.heap.setIfInBounds I (.mapIter (some bm) clock (seen.push en.born) clock) } : World) = w2 at hx2 hI2 hm2 hd2
   rw [g2, owOps_cons]
   have hf1 := R.fn.putAny (hslot s.2 nx M.nxds M.nxcs) (.tuple #[.bool true, en.key, en.val])
   have hev : (a.put (some nx) (.tuple #[.bool true, en.key, en.val])).eval (.tmp nx) = .tuple #[.bool true, en.key, en.val] := put_get (Nat.lt_of_lt_of_le g3 R.fn.2.1)
   refine owOp_val (v := .bool true) (w' := w2) e2 i1 (by simp [execOp, ho2, hev, Instr.extract]) ?_
   rw [i2]
   have hf2 := hf1.putAny (hslot s.2 mr M.mrds M.mrcs) (.bool true)
   refine ow_seq (ow_cond_true (put_get (Nat.lt_of_lt_of_le i3 hf1.2.1)) (ow_skip (ow_block ?_)))
   have hit2 := iter_slot M hf2
   have hmem : some (en.key, en.val) ∈ (leftOf es' seen).toList.map fun m => some (m.key, m.val) := List.mem_map.2 ⟨en, hen, rfl⟩
   obtain ⟨i, hiL, hil⟩ := List.mem_map.1 (hperm.mem_iff.2 hmem)
   obtain ⟨kv, hkv, v1, v2⟩ := M.erl.getM hil
   have hpe : L.Perm (i :: L.erase i) := List.perm_cons_erase hiL
   have hwalk : walkM rows s (i :: L.erase i) = some sf := by
    obtain ⟨ts, hts⟩ : ∃ ts, rowOf s rows = some ts := by
     cases hLL : L with
     | nil => rw [hLL] at hiL; cases hiL
     | cons j L' => have := R.walk; rw [hLL] at this; exact walk_row this
    rw [← walk_perm hrows2 hpe R.lt]; exact R.walk
   obtain ⟨ts, hts⟩ := walk_row hwalk
   rw [walk_step hts] at hwalk
   cases hti : nthA ts i with
   | none => rw [hti] at hwalk; cases hwalk
   | some t =>
    rw [hti] at hwalk
    have hwalk : walkM rows t (L.erase i) = some sf := hwalk
    rw [nthA_eq] at hti
    have hr1 := (eachM_get (hrows1 _ (rowOf_spec hts))).2 i kv t hkv hti
    obtain ⟨f3, h3, f4, h4, q1, q2, q3⟩ := round1_spec hr1
    have hHR : HR e (⟨(putCs ex s.1 h).out.t, (putCs ex s.1 h).out.n, ⟨(putCs ex s.1 h).out.n, ex⟩⟩ : Hp) w2 := ⟨hx2.hr.inj, hx2.hr.lt, hx2.hr.at'⟩
    have hen2 : en ∈ es'.toList := by
     unfold leftOf at hen
     rw [Array.toList_filter] at hen
     exact (List.mem_filter.1 hen).1
    refine hround b0 k c hc kv en.key en.val _ f3 f4 _ h3 h4 e _ w2 I bm clock seen es' en _ M.gr (by rw [put_defers, put_defers]; exact hf2) (by rw [put_defers, put_defers]; exact hd2) hHR hit2 hI2 hm2 hen2 hnd rfl rfl v1 v2 q1 q2 fun e' a' w' hext hfn hdf => ?_
    have hlen : (L.erase i).length < q := by
     have := hpe.length_eq
     simp only [List.length_cons] at this
     omega
    have hleft : ((L.erase i).map fun i => l[i]?).Perm ((leftOf es' (seen.push en.born)).toList.map fun m => some (m.key, m.val)) := by
     have p1 := (hpe.map fun i => l[i]?).symm.trans (hperm.trans ((leftOf_push hnd hen).map fun m => some (m.key, m.val)))
     simp only [List.map_cons, hil] at p1
     exact p1.cons_inv
    have R' := round_after M hx2 hf2 R.read hm2 hI2 hleft (fun j hj => R.lt j (List.mem_of_mem_erase hj)) hwalk q1 q2 q3 hext hfn hdf
    have hfin := ih (L.erase i).length hlen (L.erase i) rfl t a' w' R'
    refine ⟨hfin, ?_⟩
    show Exit.inBlock m.nxt _ (.exit m.nxt) a' w'
    simp only [Exit.inBlock, if_true]
    exact hfin
end
end Go.Ab
namespace Go.Ab
variable [Val]
open Go
variable {C : Cx}
mutual
theorem VR.closedT {e e2 : Emb} : ∀ {v : AV} {v' : Value}, VR e v v' → v.closed = true → VR e2 v v'
 | _, _, .int k n, _ => .int k n
 | _, _, .bool b, _ => .bool b
 | _, _, .str s, _ => .str s
 | _, _, .ptr b g o x _ _ _, hc => by cases hc
 | _, _, .slc b g o n c cap x ad _ _ _ _ _ _ _, hc => by cases hc
 | _, _, .nilp, _ => .nilp
 | _, _, .nils, _ => .nils
 | _, _, .nilm, _ => .nilm
 | _, _, .nilf, _ => .nilf
 | _, _, .nili, _ => .nili
 | _, _, .map r x p _, hc => by cases hc
 | _, _, .yld m x p _, hc => by cases hc
 | _, _, .fn g a b a' b' hy p q, hc => by
  have hc : and (closedL a) (closedL b) = true := hc
  rw [Bool.and_eq_true] at hc
  exact .fn g a b a' b' hy (VRL.closedT p hc.1) (VRL.closedT q hc.2)
 | _, _, .ifc t v v' p, hc => .ifc t v v' (VR.closedT p hc)
 | _, _, .agg l l' p q, hc => .agg l l' (VRL.closedT p hc) q
 | _, _, .tup l l' p, hc => .tup l l' (VRL.closedT p hc)
 | _, _, .any v', _ => .any v'
 | _, _, .modv t n a b c d f, _ => .modv t n a b c d f
 | _, _, .remv t n a b c, _ => .remv t n a b c
 | _, _, .tok t v a b, _ => .tok t v a b
 | _, _, .opq v' a, _ => .opq v' a
theorem VRL.closedT {e e2 : Emb} : ∀ {l : List AV} {l' : List Value}, VRL e l l' → closedL l = true → VRL e2 l l'
 | _, _, .nil, _ => .nil
 | _, _, .cons v v' l l' p q, hc => by
  have hc : and v.closed (closedL l) = true := hc
  rw [Bool.and_eq_true] at hc
  exact .cons v v' l l' (VR.closedT p hc.1) (VRL.closedT q hc.2)
end
theorem closedL_mem : ∀ {l : List AV} {v : AV}, closedL l = true → v ∈ l → v.closed = true
 | x :: l, v, hc, hm => by
  have hc : and x.closed (closedL l) = true := hc
  rw [Bool.and_eq_true] at hc
  rcases List.mem_cons.1 hm with rfl | hm
  · exact hc.1
  · exact closedL_mem hc.2 hm
theorem BR.closedT {e e2 : Emb} {l : List AV} {z g : Nat} {x : Loc} {ob : Option Obj} (hc : closedL l = true) (h : BR e (.flat l z) g x ob) : BR e2 (.flat l z) g x ob := by
 cases h with
 | map es es' clock l a _ _ _ _ _ => cases a
 | sit s pos a _ => cases a
 | iter m since seen stepped a _ => cases a
 | lp q0 fn0 tm0 df0 a => cases a
 | busy o0 a => cases a
 | dfr a => cases a
 | cells c t fr q =>
  refine .cells c t fr ⟨q.cells, q.lo, q.sz, q.gen, q.known, fun i u hi hu => ?_, q.fz2, q.fz0⟩
  obtain ⟨h1, v', h2, h3⟩ := q.at' i u hi hu
  have hm : u ∈ l := by
   have hu : ifb (Nat.beq g 0) (nthA l i) none = some u := hu
   cases hg : Nat.beq g 0 with
   | false => rw [hg] at hu; cases hu
   | true =>
    rw [hg, ifb_true, nthA_eq] at hu
    exact List.mem_of_getElem? hu
  exact ⟨h1, v', h2, h3.closedT (closedL_mem hc hm)⟩
theorem isCell_ren (u : AV) (ρ ρ' : Nat → Nat × Nat) : (u.ren ρ).isCell = (u.ren ρ').isCell := by
 cases u <;> try rfl
 rename_i g a b
 simp only [AV.ren]
 cases Nat.ble yF g <;> rfl
theorem renL_get (ρ : Nat → Nat × Nat) : ∀ (l : List AV) (i : Nat), (renL ρ l)[i]? = (l[i]?).map fun u => u.ren ρ
 | [], i => by simp [renL]
 | v :: l, 0 => by simp [renL]
 | v :: l, i + 1 => by simp [renL, renL_get ρ l i]
theorem renL_mem {ρ : Nat → Nat × Nat} {l : List AV} {v : AV} (h : v ∈ renL ρ l) : ∃ u ∈ l, v = u.ren ρ := by
 obtain ⟨i, hi⟩ := List.mem_iff_getElem?.1 h
 rw [renL_get] at hi
 cases hl : l[i]? with
 | none => rw [hl] at hi; cases hi
 | some u => rw [hl] at hi; cases hi; exact ⟨u, List.mem_of_getElem? hl, rfl⟩
theorem renL_length (ρ : Nat → Nat × Nat) : ∀ l : List AV, (renL ρ l).length = l.length
 | [] => rfl
 | v :: l => by simp [renL, renL_length ρ l]
section
variable {e1 e' : Emb} {ρ1 ρ2 : Nat → Nat × Nat}
mutual
theorem VR.ren (hk : ∀ i x, e1 (ρ1 i).1 (ρ1 i).2 = some x → e' (ρ2 i).1 (ρ2 i).2 = some x) : ∀ (u : AV) {u' : Value}, VR e1 (u.ren ρ1) u' → VR e' (u.ren ρ2) u'
 | .int k n, u', h => VR.closedT (v := .int k n) h rfl
 | .bool b, u', h => VR.closedT (v := .bool b) h rfl
 | .str n b, u', h => VR.closedT (v := .str n b) h rfl
 | .nil t, u', h => VR.closedT (v := .nil t) h rfl
 | .map r, u', _ => .any u'
 | .ptr b g o, u', h => by
  have h : VR e1 (.ptr (ρ1 b).1 (ρ1 b).2 o) u' := h
  cases h with
  | ptr _ _ _ x p1 p2 p3 => exact .ptr _ _ o x (hk b x p1) p2 p3
 | .sl b g o n c, u', h => by
  have h : VR e1 (.sl (ρ1 b).1 (ρ1 b).2 o n c) u' := h
  cases h with
  | slc _ _ _ _ _ cap x ad p1 p2 p3 p4 p5 p6 p7 => exact .slc _ _ o n c cap x ad (hk b x p1) p2 p3 p4 p5 p6 p7
 | .fn g a b, u', h => by
  cases hy : Nat.ble yF g with
  | true =>
   rw [show (AV.fn g a b).ren ρ2 = anyA by simp only [AV.ren, hy]]
   exact .any u'
  | false =>
  rw [show (AV.fn g a b).ren ρ2 = .fn g (renL ρ2 a) (renL ρ2 b) by simp only [AV.ren, hy]]
  rw [show (AV.fn g a b).ren ρ1 = .fn g (renL ρ1 a) (renL ρ1 b) by simp only [AV.ren, hy]] at h
  rcases (VR.onFn h (no := fun _ => ()) (k := fun _ _ _ => ())) with ⟨g2, a2, b2, hv, hf, _⟩ | ⟨_, _⟩
  · cases hv
    cases hf with
    | fn a' b' hg p q => exact .fn g _ _ a' b' hy (VRL.ren hk a p) (VRL.ren hk b q)
    | yld m x hg _ _ _ _ => subst hg; exact absurd hy (by decide)
  · generalize hv : AV.fn g (renL ρ1 a) (renL ρ1 b) = vv at h
    generalize ha : renL ρ1 a = ra at hv
    generalize hb : renL ρ1 b = rb at hv
    cases h <;> first | (cases hv; done) | skip
    case fn g' a2 b2 a' b' hg p q =>
     cases hv
     subst ha hb
     exact .fn g _ _ a' b' hy (VRL.ren hk a p) (VRL.ren hk b q)
    case yld m x p pb =>
     cases hv
     exact absurd hy (by decide)
 | .ifc t v, u', h => by
  have h : VR e1 (.ifc t (v.ren ρ1)) u' := h
  cases h with
  | ifc _ _ v' p => exact .ifc t _ v' (VR.ren hk v p)
 | .agg l, u', h => by
  have h : VR e1 (.agg (renL ρ1 l)) u' := h
  cases h with
  | agg _ l' p q =>
   refine .agg _ l' (VRL.ren hk l p) fun v hv => ?_
   obtain ⟨u, hu, rfl⟩ := renL_mem hv
   rw [isCell_ren u ρ2 ρ1]
   obtain ⟨i, hi⟩ := List.mem_iff_getElem?.1 hu
   exact q _ (List.mem_of_getElem? (i := i) (by rw [renL_get, hi]; rfl))
 | .tup l, u', h => by
  have h : VR e1 (.tup (renL ρ1 l)) u' := h
  generalize hv : AV.tup (renL ρ1 l) = v at h
  cases h <;> first | (cases hv; done) | skip
  case tup l2 l' p =>
   cases hv
   exact .tup _ l' (VRL.ren hk l p)
theorem VRL.ren (hk : ∀ i x, e1 (ρ1 i).1 (ρ1 i).2 = some x → e' (ρ2 i).1 (ρ2 i).2 = some x) : ∀ (l : List AV) {l' : List Value}, VRL e1 (renL ρ1 l) l' → VRL e' (renL ρ2 l) l'
 | [], l', h => by
  have h : VRL e1 [] l' := h
  cases h; exact .nil
 | v :: l, l', h => by
  have h : VRL e1 (v.ren ρ1 :: renL ρ1 l) l' := h
  cases h with
  | cons _ v' _ l2 p q => exact .cons _ v' _ l2 (VR.ren hk v p) (VRL.ren hk l q)
end
end
theorem addAll_spec (ρ : Nat → Nat × Nat) : ∀ (bs : List (List AV × Nat)) (h : Hp), (addAll ρ bs h).out.n = h.n + bs.length ∧ (addAll ρ bs h).out.lk = h.lk ∧ (∀ b, b < h.n → (addAll ρ bs h).out.get b = h.get b) ∧ ∀ i q, bs[i]? = some q → (addAll ρ bs h).out.get (h.n + i) = some (.flat (renL ρ q.1) q.2)
 | [], h => ⟨rfl, rfl, fun _ _ => rfl, fun i q hq => by simp at hq⟩
 | q :: bs, h => by
  have h1 : (addAll ρ (q :: bs) h).out = (addAll ρ bs ⟨setT (.flat (renL ρ q.1) q.2) (path h.n) h.t, h.n + 1, h.lk⟩).out := by
   show ((forceL (renL ρ q.1)).bd fun c => (h.add (.flat c q.2)).bd fun h => addAll ρ bs h).out = _
   rw [forceL_eq, Bx.bd_mk, Hp.add_eq, Bx.bd_mk]
  obtain ⟨k1, k2, k3, k4⟩ := addAll_spec ρ bs ⟨setT (.flat (renL ρ q.1) q.2) (path h.n) h.t, h.n + 1, h.lk⟩
  rw [h1]
  refine ⟨by rw [k1]; simp; omega, k2, fun b hb => ?_, fun i q' hq => ?_⟩
  · rw [k3 b (Nat.lt_succ_of_lt hb), Hp.get_set _ _ h.n, if_neg (Nat.ne_of_lt hb)]
  · cases i with
    | zero =>
     simp at hq; subst hq
     show (addAll ρ bs ⟨setT (.flat (renL ρ q.1) q.2) (path h.n) h.t, h.n + 1, h.lk⟩).out.get h.n = _
     rw [k3 h.n (Nat.lt_succ_self _), Hp.get_set _ _ h.n, if_pos rfl]
    | succ i =>
     have := k4 i q' (by simpa using hq)
     rw [show h.n + (i + 1) = h.n + 1 + i by omega]
     exact this
theorem globOK_get {gl : List (Nat × List AV)} {h : Hp} (hg : globOK gl h = true) {b : Nat} {l : List AV} (hm : (b, l) ∈ gl) : h.get b = some (.flat l 3) := by
 have h1 := List.all_eq_true.1 hg _ hm
 simp only at h1
 split at h1
 · rename_i l2 z hget
   rw [Bool.and_eq_true, beq_iff] at h1
   obtain ⟨rfl, h3⟩ := h1
   rw [hget, avEqL_eq h3]
 · cases h1
theorem globHp_n (gl : List (Nat × List AV)) (n : Nat) : (globHp gl n).n = n := by
 have key : ∀ (gl : List (Nat × List AV)) (h : Hp), (gl.foldl (fun h q => (h.put q.1 (.flat q.2 3)).bd fun h => h) h).n = h.n := by
  intro gl
  induction gl with
  | nil => intro h; rfl
  | cons q gl ih =>
   intro h
   rw [List.foldl_cons, ih, Hp.put_eq]; rfl
 exact key gl _
theorem cellsOK_spec {ρ : Nat → Nat × Nat} {b : Blk} {g : Nat} : ∀ {l : List AV} {k : Nat}, cellsOK ρ b g k l = true → ∀ i u, l[i]? = some u → b.read1 g (k + i) = some (u.ren ρ)
 | x :: l, k, h, i, u, hu => by
  have h : and (match b.read1 g k with
   | some v => avEq v (x.ren ρ)
   | none => false) (cellsOK ρ b g (k + 1) l) = true := h
  rw [Bool.and_eq_true] at h
  cases i with
  | zero =>
   simp at hu; subst hu
   have h1 := h.1
   split at h1
   · rename_i v hv
     rw [Nat.add_zero, hv, avEq_eq h1]
   · cases h1
  | succ i =>
   have := cellsOK_spec h.2 i u (by simpa using hu)
   rw [show k + (i + 1) = k + 1 + i by omega]; exact this
theorem blkOK_spec {ρ : Nat → Nat × Nat} {h : Hp} {p : Nat × Nat} {q : List AV × Nat} (hb : blkOK ρ h p q = true) : ∃ b, h.get p.1 = some b ∧ b.isCells ∧ b.fz = q.2 ∧ q.1.length ≤ b.known p.2 ∧ ∀ i u, q.1[i]? = some u → b.read1 p.2 i = some (u.ren ρ) := by
 unfold blkOK at hb
 split at hb
 · rename_i b hget
   simp only [Bool.and_eq_true] at hb
   obtain ⟨h1, h2, h3, h4⟩ := hb
   refine ⟨b, hget, ?_, beq_iff.1 h2, ?_, fun i u hu => ?_⟩
   · cases b <;> first | trivial | cases h1
   · have := Nat.le_of_ble_eq_true h3
     simpa using this
   · have := cellsOK_spec h4 i u hu
     rwa [Nat.zero_add] at this
 · cases hb
theorem blksOK_spec {ρ : Nat → Nat × Nat} {h : Hp} {n : Nat} : ∀ {ps : List (Nat × Nat)} {qs : List (List AV × Nat)}, blksOK ρ h n ps qs = true → ps.length = qs.length ∧ (∀ p ∈ ps, n ≤ p.1) ∧ ps.Pairwise (fun a b => a.1 ≠ b.1) ∧ ∀ (i : Nat) p q, ps[i]? = some p → qs[i]? = some q → blkOK ρ h p q = true
 | [], [], _ => ⟨rfl, fun p hp => (by cases hp), .nil, fun i p q hp => by simp at hp⟩
 | [], _ :: _, hb => by cases hb
 | _ :: _, [], hb => by cases hb
 | p :: ps, q :: qs, hb => by
  have hb : and (and (Nat.ble n p.1) (not (ps.any fun r => Nat.beq p.1 r.1))) (and (blkOK ρ h p q) (blksOK ρ h n ps qs)) = true := hb
  simp only [Bool.and_eq_true, Bool.not_eq_true'] at hb
  obtain ⟨⟨h1, h2⟩, h3, h4⟩ := hb
  obtain ⟨k1, k2, k3, k4⟩ := blksOK_spec h4
  refine ⟨by simp [k1], fun p' hp' => ?_, List.pairwise_cons.2 ⟨fun r hr hh => ?_, k3⟩, fun i p' q' hp' hq' => ?_⟩
  · rcases List.mem_cons.1 hp' with rfl | hp'
    · exact Nat.le_of_ble_eq_true h1
    · exact k2 p' hp'
  · rw [List.any_eq_false] at h2
    exact h2 r hr (beq_iff.2 hh)
  · cases i with
    | zero => simp at hp' hq'; subst hp'; subst hq'; exact h3
    | succ i => exact k4 i p' q' (by simpa using hp') (by simpa using hq')
theorem BR.ofBlk {e1 e' : Emb} {ρ1 ρ2 : Nat → Nat × Nat} (hk : ∀ i x, e1 (ρ1 i).1 (ρ1 i).2 = some x → e' (ρ2 i).1 (ρ2 i).2 = some x) {h1 : Hp} {p : Nat × Nat} {bq : List AV × Nat} (hb : blkOK ρ1 h1 p bq = true) {blk : Blk} (hget : h1.get p.1 = some blk) {x : Loc} {ob : Option Obj} (m2 : BR e1 blk p.2 x ob) :
 BR e' (.flat (renL ρ2 bq.1) bq.2) 0 x ob := by
 obtain ⟨blk2, j1, j2, j3, j4, j5⟩ := blkOK_spec hb
 rw [hget] at j1; cases j1
 cases m2 with
 | map es es' clock l a _ _ _ _ _ => subst a; exact j2.elim
 | sit s pos a _ => subst a; exact j2.elim
 | iter _ _ _ _ a _ => subst a; exact j2.elim
 | lp q0 fn0 tm0 df0 a => subst a; exact j2.elim
 | busy o0 a => subst a; exact j2.elim
 | dfr a => subst a; exact j2.elim
 | cells c t fr bc =>
  refine .cells c t fr ⟨trivial, bc.lo, bc.sz, Nat.zero_le _, ?_, fun k u hk' hu => ?_, ?_, ?_⟩
  · have : (Blk.flat (renL ρ2 bq.1) bq.2).known 0 = bq.1.length := by
     show lenA (renL ρ2 bq.1) = _
     simp [renL_length]
    rw [this]
    exact Nat.le_trans j4 bc.known
  · have hu : nthA (renL ρ2 bq.1) k = some u := hu
    rw [nthA_eq, renL_get] at hu
    cases hbk : bq.1[k]? with
    | none => rw [hbk] at hu; cases hu
    | some u0 =>
     rw [hbk] at hu
     cases hu
     obtain ⟨n1, y', n2, n3⟩ := bc.at' k _ hk' (j5 k u0 hbk)
     exact ⟨by rw [isCell_ren u0 _ ρ1]; exact n1, y', n2, VR.ren hk u0 n3⟩
  · rw [← j3] at *; exact bc.fz2
  · exact fun hz => bc.fz0 (by rw [j3]; exact hz)
theorem renU_lt {mu : List (Nat × Nat)} {n i : Nat} {p : Nat × Nat} (h : mu[i]? = some p) : renU mu n i = p := by
 unfold renU; rw [nthA_eq, h]; rfl
theorem renU_ge {mu : List (Nat × Nat)} {n i : Nat} (h : mu[i]? = none) : renU mu n i = (n + (i - mu.length), 0) := by
 unfold renU; rw [nthA_eq, h]
 show (n + (i - lenA mu), 0) = _
 simp
theorem renK_lt {mu keep : List (Nat × Nat)} {far i : Nat} {p : Nat × Nat} (h : mu[i]? = some p) : renK mu keep far i = p := by
 unfold renK; rw [nthA_eq, h]; rfl
theorem renK_ge {mu keep : List (Nat × Nat)} {far i : Nat} (h : mu[i]? = none) : renK mu keep far i = (keep[i - mu.length]?).getD (far, 0) := by
 unfold renK; rw [nthA_eq, h, nthA_eq]
 show (keep[i - lenA mu]?).getD (far, 0) = _
 simp
theorem argMu_get {n k i : Nat} : (argMu n k)[i]? = if i < k then some (n + i, 0) else none := by
 unfold argMu
 rw [List.getElem?_map]
 by_cases h : i < k
 · rw [List.getElem?_range h, if_pos h]; rfl
 · rw [List.getElem?_eq_none (by simpa using h), if_neg h]; rfl
theorem argMu_length (n k : Nat) : (argMu n k).length = k := by simp [argMu]
end Go.Ab
namespace Go.Ab
variable [Val]
open Go
variable {C : Cx} {R : Option Nat → Prop} {b0 : Nat}
abbrev FQ := List CS × Nat × List Bool × List Bool × List Bool
abbrev Fe := Nat × AV × AV × List (List AV × Nat)
theorem onMap_ok {α : Type} {v : AV} {no : String → Res α} {nil : Res α} {k : Nat → Res α} {r : α} (hn : ∀ w r, no w ≠ .ok r) (hnil : ∀ r, nil ≠ .ok r) (hx : v.onMap no nil k = .ok r) : ∃ t, v = .map t ∧ k t = .ok r := by
 cases v with
 | map t => exact ⟨t, rfl, hx⟩
 | nil t =>
  have hx : Bool.rec (motive := fun _ => Res α) (no "map") nil (Nat.beq t 2) = .ok r := hx
  cases hb : Nat.beq t 2 with
  | true => rw [hb] at hx; exact (hnil _ hx).elim
  | false => rw [hb] at hx; exact (hn _ _ hx).elim
 | _ => exact (hn _ _ hx).elim
theorem fillE_spec {q : FQ} {N : Nat} {f : Fr} {h : Hp} {r : Nat × AV × AV × List (List AV × Nat)} (hx : fillE q N f h = .ok r) :
 ev f (.t q.2.2.1) = .map r.1 ∧ r.2.1 = ev f (.t q.2.2.2.1) ∧ keyIs q.2.1 r.2.1 = true ∧ ev f (.t q.2.2.2.2) = r.2.2.1.ren (fun j => (N + j, 0)) ∧ blksOK (fun j => (N + j, 0)) h N (argMu N (h.n - N)) r.2.2.2 = true := by
 unfold fillE at hx
 obtain ⟨t, ht, hx⟩ := onMap_ok (fun _ _ hh => by cases hh) (fun _ hh => by cases hh) hx
 rw [force_eq, force_eq] at hx
 cases hk : keyIs q.2.1 (ev f (.t q.2.2.2.1)) with
 | false => rw [hk] at hx; cases hx
 | true =>
 rw [hk, ifb_true, natF_eq, force_eq] at hx
 cases hb : and (avEq (ev f (.t q.2.2.2.2)) (((ev f (.t q.2.2.2.2)).ren fun b => (Nat.sub b N, 0)).ren fun j => (Nat.add N j, 0))) (blksOK (fun j => (Nat.add N j, 0)) h N (argMu N (Nat.sub h.n N)) (relBs h N (Nat.sub h.n N))) with
 | false => rw [hb] at hx; cases hx
 | true =>
 rw [hb, ifb_true] at hx
 cases hx
 rw [Bool.and_eq_true] at hb
 exact ⟨ht, rfl, hk, avEq_eq hb.1, hb.2⟩
theorem fillR_spec {m : ML} {q : FQ} {c : CallT} {fa : Fr} {H : Hp} {kv : AV × AV} {r : Nat × AV × AV × List (List AV × Nat)} (hx : fillR m q c fa H kv = .ok r) :
 ∃ f3 h3 f4 h4, runR m.ent c (entF m.pr kv fa).out H = .norm f3 h3 ∧ runR q.1 c f3 h3 = .norm f4 h4 ∧ fillE q H.n f4 h4 = .ok r := by
 unfold fillR at hx
 rw [Bx.eta (entF m.pr kv fa), Bx.bd_mk] at hx
 cases h1 : runR m.ent c (entF m.pr kv fa).out H with
 | norm f3 h3 =>
  rw [h1] at hx
  simp only at hx
  cases h2 : runR q.1 c f3 h3 with
  | norm f4 h4 => rw [h2] at hx; exact ⟨f3, h3, f4, h4, rfl, h2, hx⟩
  | exit _ _ _ => rw [h2] at hx; cases hx
  | ret _ _ => rw [h2] at hx; cases hx
  | no _ => rw [h2] at hx; cases hx
 | exit _ _ _ => rw [h1] at hx; cases hx
 | ret _ _ => rw [h1] at hx; cases hx
 | no _ => rw [h1] at hx; cases hx
structure FAll (m : ML) (q : FQ) (c : CallT) (fa : Fr) (H : Hp) (rt : Nat) (es : Es) (hA hB : Hp) (rs : List Fe) : Prop where
 n : hA.n ≤ hB.n
 lk : hB.lk = hA.lk
 old : ∀ b, b < hA.n → hB.get b = hA.get b
 len : rs.length = es.length
 run : ∀ (i : Nat) kv, (es : List (AV × AV))[i]? = some kv → ∃ r, rs[i]? = some r ∧ fillR m q c fa H kv = .ok (rt, r.2.1, r.2.2.1, r.2.2.2)
 lo : ∀ r ∈ rs, hA.n ≤ r.1 ∧ r.1 + r.2.2.2.length ≤ hB.n
 at' : ∀ r ∈ rs, ∀ (j : Nat) bq, r.2.2.2[j]? = some bq → hB.get (r.1 + j) = some (.flat (renL (fun j => (r.1 + j, 0)) bq.1) bq.2)
 dis : rs.Pairwise fun a b => a.1 + a.2.2.2.length ≤ b.1
theorem fillAll_spec {m : ML} {q : FQ} {c : CallT} {fa : Fr} {H : Hp} {rt : Nat} : ∀ (es : Es) (hA hB : Hp) (rs : List Fe), fillAll m q c fa H rt es hA = .ok (hB, rs) → FAll m q c fa H rt es hA hB rs
 | [], hA, hB, rs, hx => by
  cases hx
  exact ⟨Nat.le_refl _, rfl, fun _ _ => rfl, rfl, (fun i kv hi => by simp at hi), (fun r hr => by cases hr), (fun r hr => by cases hr), .nil⟩
 | kv :: l, hA, hB, rs, hx => by
  unfold fillAll at hx
  split at hx
  · cases hx
  · rename_i r hr
    cases hb : Nat.beq r.1 rt with
    | false => rw [hb] at hx; cases hx
    | true =>
    rw [hb, ifb_true, natF_eq] at hx
    rw [Bx.eta (addAll _ _ _), Bx.bd_mk] at hx
    obtain ⟨a1, a2, a3, a4⟩ := addAll_spec (fun j => (Nat.add hA.n j, 0)) r.2.2.2 hA
    generalize (addAll (fun j => (Nat.add hA.n j, 0)) r.2.2.2 hA).out = hA2 at hx a1 a2 a3 a4
    split at hx
    · cases hx
    · rename_i p hp
      cases hx
      have ih := fillAll_spec l hA2 p.1 p.2 hp
      have hn := ih.n
      refine ⟨by omega, ih.lk.trans a2, fun b hb => (ih.old b (by omega)).trans (a3 b hb), by simp [ih.len], fun i kv' hi => ?_, fun r' hr' => ?_, fun r' hr' j bq hj => ?_, ?_⟩
      · cases i with
        | zero =>
         simp at hi; subst hi
         refine ⟨_, rfl, ?_⟩
         rw [hr, ← beq_iff.1 hb]
        | succ i => simpa using ih.run i kv' (by simpa using hi)
      · rcases List.mem_cons.1 hr' with rfl | hr'
        · exact ⟨Nat.le_refl _, by show hA.n + r.2.2.2.length ≤ p.1.n; omega⟩
        · have := ih.lo r' hr'
          exact ⟨by omega, this.2⟩
      · rcases List.mem_cons.1 hr' with rfl | hr'
        · have hj : r.2.2.2[j]? = some bq := hj
          have hlt := (List.getElem?_eq_some_iff.1 hj).1
          show p.1.get (hA.n + j) = _
          rw [ih.old _ (by omega)]
          exact a4 j bq hj
        · exact ih.at' r' hr' j bq hj
      · refine List.pairwise_cons.2 ⟨fun r' hr' => ?_, ih.dis⟩
        have := (ih.lo r' hr').1
        show hA.n + r.2.2.2.length ≤ r'.1
        omega
noncomputable def entA (r : Fe) : AV × AV := (r.2.1, r.2.2.1.ren fun j => (r.1 + j, 0))
theorem entsB_eq : ∀ rs : List Fe, entsB rs = .mk (rs.map entA)
 | [] => rfl
 | e :: l => by
  unfold entsB
  rw [force_eq, entsB_eq l]
  rfl
theorem okKs_spec : ∀ {es : Es}, okKs es = true → keysOk es
 | [], _ => .nil
 | e :: l, h => by
  unfold okKs at h
  rw [Bool.and_eq_true, List.all_eq_true] at h
  refine List.pairwise_cons.2 ⟨fun x hx => ?_, okKs_spec h.2⟩
  have h1 := h.1 x hx
  rw [Bool.and_eq_true] at h1
  have key : ∀ o : Option Bool, okF o = true → o = some false := fun o ho => by
   cases o with
   | none => cases ho
   | some b => cases b with
    | false => rfl
    | true => cases ho
  exact ⟨key _ h1.1, key _ h1.2⟩
theorem hasMap_path {rt : Nat} : ∀ {f : Fr}, hasMap rt f = true → ∃ p, getP p f = some (.map rt)
 | .e, h => by cases h
 | .n l r v, h => by
  have e : ∀ v : Option AV, hasMap rt (.n l r v) = or (match v with
   | some (.map b) => Nat.beq b rt
   | _ => false) (or (hasMap rt l) (hasMap rt r)) := fun _ => rfl
  rw [e, Bool.or_eq_true, Bool.or_eq_true] at h
  rcases h with h | h | h
  · split at h
    · rename_i b
      exact ⟨[], by rw [← beq_iff.1 h]; rfl⟩
    · cases h
  · obtain ⟨p, hp⟩ := hasMap_path h
    exact ⟨true :: p, hp⟩
  · obtain ⟨p, hp⟩ := hasMap_path h
    exact ⟨false :: p, hp⟩
theorem hasMap_spec {rt : Nat} {f : Fr} (h : hasMap rt f = true) : ∃ t, slot f t = .map rt := by
 obtain ⟨p, hp⟩ := hasMap_path h
 exact ⟨unpath p, by rw [slot_path, hp]; rfl⟩
theorem fillEs_spec {m : ML} {q : FQ} {c : CallT} {f : Fr} {h : Hp} {r : Nat} {es : Es} : (∃ w, fillEs m q c f h r es = .no w) ∨
 ∃ rt est hA rs, (∃ t, slot f t = .map rt) ∧ h.get rt = some (.map est) ∧ h.okw rt = true ∧ rt ≠ r ∧ FAll m q c (anyAll m.ds f).out ⟨setT (.sit 0 0 8) (path rt) h.t, h.n, ⟨h.n, []⟩⟩ rt es ⟨setT (.sit 0 0 8) (path rt) h.t, h.n, h.lk⟩ hA rs ∧
  keysOk (est ++ rs.map entA) ∧ fillEs m q c f h r es = .norm (anyAll m.ds f).out ⟨setT (.map (est ++ rs.map entA)) (path rt) hA.t, hA.n, hA.lk⟩ := by
 generalize ho : fillEs m q c f h r es = o
 unfold fillEs at ho
 rw [Bx.eta (anyAll m.ds f), Bx.bd_mk] at ho
 split at ho
 · exact .inl ⟨_, ho.symm⟩
 · rename_i kv l
   split at ho
   · exact .inl ⟨_, ho.symm⟩
   · rename_i r0 hr0
     unfold Hp.onMap at ho
     cases hg : h.get r0.1 with
     | none => rw [hg] at ho; exact .inl ⟨_, ho.symm⟩
     | some blk =>
     rw [hg] at ho
     cases blk with
     | flat _ _ => exact .inl ⟨_, ho.symm⟩
     | grown _ _ _ _ => exact .inl ⟨_, ho.symm⟩
     | sit _ _ _ => exact .inl ⟨_, ho.symm⟩
     | lp _ => exact .inl ⟨_, ho.symm⟩
     | map est =>
     have ho : ifb (and (hasMap r0.1 f) (and (h.okw r0.1) (not (Nat.beq r0.1 r)))) ((h.put r0.1 (.sit 0 0 8)).bd fun hb =>
      match fillAll m q c (anyAll m.ds f).out ⟨hb.t, hb.n, ⟨hb.n, []⟩⟩ r0.1 (kv :: l) hb with
      | .no w => .no w
      | .ok p => (entsB p.2).bd fun ens => (appS est ens).bd fun esn => ifb (okKs esn) ((p.1.put r0.1 (.map esn)).bd fun hf => .norm (anyAll m.ds f).out hf) (.no "fill: keys")) (.no "fill: locked") = o := ho
     cases hc : and (hasMap r0.1 f) (and (h.okw r0.1) (not (Nat.beq r0.1 r))) with
     | false => rw [hc] at ho; exact .inl ⟨_, ho.symm⟩
     | true =>
     rw [hc, ifb_true, Hp.put_eq, Bx.bd_mk] at ho
     simp only at ho
     rw [Bool.and_eq_true, Bool.and_eq_true, Bool.not_eq_true'] at hc
     split at ho
     · exact .inl ⟨_, ho.symm⟩
     · rename_i p hp
       rw [entsB_eq, Bx.bd_mk, appS_eq, Bx.bd_mk] at ho
       cases hk : okKs (est ++ p.2.map entA) with
       | false => rw [hk] at ho; exact .inl ⟨_, ho.symm⟩
       | true =>
       rw [hk, ifb_true, Hp.put_eq, Bx.bd_mk] at ho
       exact .inr ⟨r0.1, est, p.1, p.2, hasMap_spec hc.1, hg, hc.2.1, (fun hh => by rw [beq_iff.2 hh] at hc; cases hc.2.2), fillAll_spec _ _ _ _ hp, okKs_spec hk, ho.symm⟩
theorem BR.sitAny {e e' : Emb} {n k p g : Nat} {x : Loc} {ob : Option Obj} (h : BR e (.sit n k p) g x ob) : BR e' (.sit n k p) g x ob := by
 cases h with
 | cells c t fr q => exact q.cells.elim
 | map es es' clock l a _ _ _ _ _ => cases a
 | sit s pos a b c => exact .sit s pos a b c
 | iter m since seen stepped a b c => exact .iter m since seen stepped a b c
 | lp q0 fn0 tm0 df0 a => cases a
 | busy o a b c => exact .busy o a b c
 | dfr a b c => exact .dfr a b c
theorem keyPrim_closed {k : AV} (h : keyPrim k = true) : k.closed = true := by
 cases k <;> first | rfl | (exact absurd h (by decide)) | skip
 all_goals (first | (have h : false = true := h; cases h) | rfl)
theorem findK_miss {k : AV} : ∀ {es : Es} {i : Nat}, (∀ x ∈ es, keyEq k x.1 = some false) → findK k es i = some none
 | [], _, _ => rfl
 | x :: l, i, h => by
  show Option.rec (motive := fun _ => Option (Option (Nat × AV))) none (fun b => ifb b (some (some (i, x.2))) (findK k l (Nat.succ i))) (keyEq k x.1) = _
  rw [h x (.head _)]
  exact findK_miss fun y hy => h y (.tail _ hy)
theorem put_new {o : Oper} {t : TypeId} {x y z : Operand} (ho : o.op = .mapUpdate t x y z) (hd : o.dst = none) {kd : Nat} (hkd : keyKd C t = some kd) {a : Act} {w : World} {bt : Nat} {esw : Array MapEntry} {clk : Nat} (hm : a.eval x = .map (some bt)) (hb : w.heap[bt]? = some (.map esw clk))
 {e1 e2 : Emb} {k : AV} (hk : VR e1 k (a.eval y)) (hki : keyIs kd k = true) {es : Es} {l : List (Value × Value)} (hl : ERL e2 es l) (hp : l.Perm (esw.toList.map fun m => (m.key, m.val))) (hok : keysOk es) (hn : ∀ x ∈ es, keyEq k x.1 = some false) {K : Act → World → Prop} {Q : Exit → Act → World → Prop}
 (hK : K a { w with heap := w.heap.setIfInBounds bt (.map (esw.push { key := a.eval y, val := a.eval z, born := clk }) (clk + 1)) }) : o.ow C.P a w K Q := by
 obtain ⟨kt, el, d, u1, u2, kdd⟩ := keyKd_spec hkd
 obtain ⟨kv, kp⟩ := keyIs_spec hk kdd hki
 rcases find_sim hl hp hok kv (findK_miss hn (i := 0)) with ⟨_, f1, f2, _⟩ | ⟨i, v0, j, m, hh, _⟩
 · refine wp_skp (w' := { w with heap := w.heap.setIfInBounds bt (.map (esw.push { key := a.eval y, val := a.eval z, born := clk }) (clk + 1)) }) ?_ (by rw [hd]; exact hK)
   simp only [execOp, ho, Instr.mapUpdate, Sem.run_bind, run_und u1, hm, MapKept.run_getObj_map hb, run_checkKeyA u2 kdd, run_findKey u2 f1, Result.andThen_ok, MapKept.run_setObj_map _ hb, Sem.run_pure]
 · cases hh
noncomputable def hSt (rt : Nat) (est : Es) (hA : Hp) (S : List Fe) : Hp := ⟨setT (.map (est ++ S.map entA)) (path rt) hA.t, hA.n, hA.lk⟩
theorem hSt_get (rt : Nat) (est : Es) (hA : Hp) (S : List Fe) (b : Nat) : (hSt rt est hA S).get b = if b = rt then some (.map (est ++ S.map entA)) else hA.get b := Hp.get_set _ _ hA.n _ _ _
structure FillAt (C : Cx) (n : Nat) (m : ML) (q : FQ) (c : CallT) (e : Emb) (h : Hp) (w1 : World) (f : Fr) (es : Es) (rt : Nat) (xt : Loc) (est : Es) (hA : Hp) (rs : List Fe) (bm : Nat) : Prop where
 hr : HR e h w1
 ht : e rt 0 = some xt
 gt : h.get rt = some (.map est)
 okt : h.okw rt = true
 ne : xt.r ≠ bm
 all : FAll m q c (anyAll m.ds f).out ⟨setT (.sit 0 0 8) (path rt) h.t, h.n, ⟨h.n, []⟩⟩ rt es ⟨setT (.sit 0 0 8) (path rt) h.t, h.n, h.lk⟩ hA rs
 keys : keysOk (est ++ rs.map entA)
 own : ∀ p ∈ setsR q.1, p ∈ m.ds
structure Fd (ds : List Deferred) (n : Nat) (m : ML) (e : Emb) (h : Hp) (w1 : World) (f : Fr) (N I bm clock : Nat) (es : Es) (l : List (Value × Value)) (es' : Array MapEntry) (rt : Nat) (est : Es) (hA : Hp) (rs : List Fe) (S : List Fe) (L : List Nat) (eS : Emb) (a : Act) (w : World) : Prop where
 ext : Ext e h w1 eS (hSt rt est hA S) w
 base : ∀ b g x, e b g = some x → b ≠ rt → b ≠ N → w.heap[x.r]? = w1.heap[x.r]?
 dom : ∀ b g x, eS b g = some x → b < h.n ∨ ∃ r ∈ S, r.1 ≤ b ∧ b < r.1 + r.2.2.2.length
 fn : FN ds n e (anyAll m.ds f).out a
 map : w.heap[bm]? = some (.map es' clock)
 iter : ∃ seen, w.heap[I]? = some (.mapIter (some bm) clock seen clock) ∧ (L.map fun i => l[i]?).Perm ((leftOf es' seen).toList.map fun m => some (m.key, m.val))
 lt : ∀ i ∈ L, i < es.length
 perm : (S.map some ++ L.map fun i => rs[i]?).Perm (rs.map some)
section
variable {n : Nat} {m : ML} {q : FQ} {c : CallT} {e : Emb} {h : Hp} {w1 : World} {f : Fr} {es : Es} {rt : Nat} {xt : Loc} {est : Es} {hA : Hp} {rs : List Fe} {bm : Nat}
theorem fill_base (F : FillAt C n m q c e h w1 f es rt xt est hA rs bm) {N : Nat} {xN : Loc} (hN : e N 0 = some xN) (bN : h.get N = some (.sit 0 0 7)) {S : List Fe} {eS : Emb} {w2 : World} (x2 : Ext e h w1 eS (hSt rt est hA S) w2)
 (base : ∀ b g x, e b g = some x → b ≠ rt → b ≠ N → w2.heap[x.r]? = w1.heap[x.r]?) : HR e (⟨setT (.sit 0 0 8) (path rt) h.t, h.n, ⟨h.n, []⟩⟩ : Hp) w2 := by
 have hget : ∀ b, (⟨setT (.sit 0 0 8) (path rt) h.t, h.n, ⟨h.n, []⟩⟩ : Hp).get b = if b = rt then some (.sit 0 0 8) else h.get b := fun b => Hp.get_set _ _ h.n _ _ _
 refine ⟨fun b g x b' g' x' h1 h2 hh => x2.hr.inj _ _ _ _ _ _ (x2.le _ _ _ h1) (x2.le _ _ _ h2) hh, fun b g x hx => ⟨(x2.hr.lt _ _ _ (x2.le _ _ _ hx)).1, (F.hr.lt _ _ _ hx).2⟩, fun b g x hx => ?_⟩
 obtain ⟨blk, k1, k2⟩ := F.hr.at' b g x hx
 by_cases hb : b = rt
 · subst hb
   refine ⟨_, by rw [hget, if_pos rfl], ?_⟩
   have hlt := (x2.hr.lt _ _ _ (x2.le _ _ _ hx)).1
   rw [Array.getElem?_eq_getElem hlt]
   rw [F.gt] at k1; cases k1
   generalize w1.heap[x.r]? = ob at k2
   cases k2 with
   | cells c t fr q => exact q.cells.elim
   | map es es' clock l a g0 _ _ _ _ mb => exact .busy _ rfl g0 mb
   | sit s pos a b c => cases a
   | iter _ _ _ _ a _ _ => cases a
   | lp q0 fn0 tm0 df0 a => cases a
   | busy o a b c => cases a
   | dfr a b c => cases a
 · by_cases hb2 : b = N
   · subst hb2
     obtain ⟨blk2, j1, j2⟩ := x2.hr.at' b g x (x2.le _ _ _ hx)
     refine ⟨.sit 0 0 7, by rw [hget, if_neg hb]; exact bN, ?_⟩
     rw [hSt_get, if_neg hb] at j1
     have hlt := (F.hr.lt _ _ _ hx).2
     rw [F.all.old b hlt, show (⟨setT (.sit 0 0 8) (path rt) h.t, h.n, h.lk⟩ : Hp).get b = h.get b from (Hp.get_set _ _ h.n _ _ _).trans (if_neg hb), bN] at j1
     cases j1
     exact j2.sitAny
   · refine ⟨blk, by rw [hget, if_neg hb]; exact k1, ?_⟩
     rw [base b g x hx hb hb2]
     exact k2
noncomputable def embR (hn : Nat) (r : Fe) (eS e1 : Emb) : Emb := fun b g => if r.1 ≤ b ∧ b < r.1 + r.2.2.2.length then (if g = 0 then e1 (hn + (b - r.1)) 0 else none) else eS b g
theorem fill_after (F : FillAt C n m q c e h w1 f es rt xt est hA rs bm) {S : List Fe} {eS : Emb} {w2 : World} (x2 : Ext e h w1 eS (hSt rt est hA S) w2) (dom : ∀ b g x, eS b g = some x → b < h.n ∨ ∃ r ∈ S, r.1 ≤ b ∧ b < r.1 + r.2.2.2.length)
 {r : Fe} (hrs : r ∈ rs) (hdis : ∀ r' ∈ S, r.1 + r.2.2.2.length ≤ r'.1 ∨ r'.1 + r'.2.2.2.length ≤ r.1)
 {e1 : Emb} {h4 : Hp} {w4 : World} (x4 : Ext e (⟨setT (.sit 0 0 8) (path rt) h.t, h.n, ⟨h.n, []⟩⟩ : Hp) w2 e1 h4 w4) (hbs : blksOK (fun j => (h.n + j, 0)) h4 h.n (argMu h.n (h4.n - h.n)) r.2.2.2 = true) :
 (∀ k, k < w2.heap.size → w4.heap[k]? = w2.heap[k]?) ∧ (∀ i x, e1 (h.n + i) 0 = some x → embR h.n r eS e1 (r.1 + i) 0 = some x) ∧ eS.le (embR h.n r eS e1) ∧ Ext e h w1 (embR h.n r eS e1) (hSt rt est hA S) w4 := by
 obtain ⟨l1, l2, l3, l4⟩ := blksOK_spec hbs
 rw [argMu_length] at l1
 have hlo := F.all.lo r hrs
 have hlo : h.n ≤ r.1 ∧ r.1 + r.2.2.2.length ≤ hA.n := hlo
 have hrt := (F.hr.lt _ _ _ F.ht).2
 have hsame : ∀ k, k < w2.heap.size → w4.heap[k]? = w2.heap[k]? := fun k hk => x4.frame k hk fun b g x hx _ => lock_ro (hm := ⟨setT (.sit 0 0 8) (path rt) h.t, h.n, ⟨h.n, []⟩⟩) (F.hr.lt _ _ _ hx).2 (fun hh => by cases hh)
 have hnone : ∀ b g x, eS b g = some x → ¬ (r.1 ≤ b ∧ b < r.1 + r.2.2.2.length) := fun b g x hx hh => by
  rcases dom b g x hx with hb | ⟨r', hr', hb⟩
  · omega
  · have := hdis r' hr'
    omega
 have hnew : ∀ b g x, r.1 ≤ b → b < r.1 + r.2.2.2.length → embR h.n r eS e1 b g = some x → g = 0 ∧ e1 (h.n + (b - r.1)) 0 = some x := fun b g x h1 h2 hx => by
  unfold embR at hx
  rw [if_pos ⟨h1, h2⟩] at hx
  by_cases hg : g = 0
  · rw [if_pos hg] at hx; exact ⟨hg, hx⟩
  · rw [if_neg hg] at hx; cases hx
 have hold : ∀ b g, ¬ (r.1 ≤ b ∧ b < r.1 + r.2.2.2.length) → embR h.n r eS e1 b g = eS b g := fun b g hh => by unfold embR; rw [if_neg hh]
 have hk : ∀ i x, e1 (h.n + i) 0 = some x → embR h.n r eS e1 (r.1 + i) 0 = some x := fun i x hx => by
  have h1 := (x4.hr.lt _ _ _ hx).2
  unfold embR
  rw [if_pos ⟨by omega, by omega⟩, if_pos rfl, Nat.add_sub_cancel_left]
  exact hx
 have hle : eS.le (embR h.n r eS e1) := fun b g x hx => by rw [hold b g (hnone b g x hx)]; exact hx
 have hfresh : ∀ i x, e1 (h.n + i) 0 = some x → w2.heap.size ≤ x.r := fun i x hx => by
  rcases x4.blocks _ _ _ hx with ⟨g0, x0, h0, _⟩ | h0
  · have := (F.hr.lt _ _ _ h0).2
    omega
  · exact h0
 have hcase : ∀ b g x, embR h.n r eS e1 b g = some x → (¬ (r.1 ≤ b ∧ b < r.1 + r.2.2.2.length) ∧ eS b g = some x) ∨ ((r.1 ≤ b ∧ b < r.1 + r.2.2.2.length) ∧ g = 0 ∧ e1 (h.n + (b - r.1)) 0 = some x) := fun b g x hx => by
  by_cases hh : r.1 ≤ b ∧ b < r.1 + r.2.2.2.length
  · exact .inr ⟨hh, hnew b g x hh.1 hh.2 hx⟩
  · exact .inl ⟨hh, by rw [← hold b g hh]; exact hx⟩
 refine ⟨hsame, hk, hle, x2.le.trans hle, ⟨?_, ?_, ?_⟩, ?_, ?_, ?_, x2.ours, x2.ro, x2.n, Nat.le_trans x2.size x4.size, x4.os.trans x2.os, x4.output.trans x2.output, x2.lk⟩
 · intro b g x b' g' x' hx hx' hrr
   rcases hcase _ _ _ hx with ⟨k1, k2⟩ | ⟨k1, rfl, k2⟩ <;> rcases hcase _ _ _ hx' with ⟨j1, j2⟩ | ⟨j1, rfl, j2⟩
   · exact x2.hr.inj _ _ _ _ _ _ k2 j2 hrr
   · have := hfresh _ _ j2
     have := (x2.hr.lt _ _ _ k2).1
     omega
   · have := hfresh _ _ k2
     have := (x2.hr.lt _ _ _ j2).1
     omega
   · have := x4.hr.inj _ _ _ _ _ _ k2 j2 hrr
     exact ⟨by omega, this.2⟩
 · intro b g x hx
   rcases hcase _ _ _ hx with ⟨k1, k2⟩ | ⟨k1, rfl, k2⟩
   · have := x2.hr.lt _ _ _ k2
     exact ⟨Nat.lt_of_lt_of_le this.1 x4.size, this.2⟩
   · exact ⟨(x4.hr.lt _ _ _ k2).1, by show b < hA.n; omega⟩
 · intro b g x hx
   rcases hcase _ _ _ hx with ⟨k1, k2⟩ | ⟨k1, rfl, k2⟩
   · obtain ⟨blk, j1, j2⟩ := x2.hr.at' _ _ _ k2
     refine ⟨blk, j1, ?_⟩
     rw [hsame _ (x2.hr.lt _ _ _ k2).1]
     exact j2.mono hle
   · obtain ⟨blk, j1, j2⟩ := x4.hr.at' _ _ _ k2
     have hlt := (x4.hr.lt _ _ _ k2).2
     have hq : r.2.2.2[b - r.1]? = some (r.2.2.2[b - r.1]'(by omega)) := List.getElem?_eq_getElem _
     generalize r.2.2.2[b - r.1]'(by omega) = bq at hq
     have hp : (argMu h.n (h4.n - h.n))[b - r.1]? = some (h.n + (b - r.1), 0) := by rw [argMu_get, if_pos (by omega)]
     have hblk := l4 _ _ _ hp hq
     refine ⟨.flat (renL (fun j => (r.1 + j, 0)) bq.1) bq.2, ?_, BR.ofBlk (ρ1 := fun j => (h.n + j, 0)) (ρ2 := fun j => (r.1 + j, 0)) hk hblk j1 j2⟩
     rw [hSt_get, if_neg (by omega)]
     have := F.all.at' r hrs _ _ hq
     rwa [show r.1 + (b - r.1) = b by omega] at this
 · intro b g x hx
   rcases hcase _ _ _ hx with ⟨k1, k2⟩ | ⟨k1, _⟩
   · exact x2.names _ _ _ k2
   · exact .inr (by omega)
 · intro b g x hx
   rcases hcase _ _ _ hx with ⟨k1, k2⟩ | ⟨k1, rfl, k2⟩
   · exact x2.blocks _ _ _ k2
   · exact .inr (Nat.le_trans x2.size (hfresh _ _ k2))
 · intro k hk2 hro
   rw [hsame k (Nat.lt_of_lt_of_le hk2 x2.size)]
   exact x2.frame k hk2 hro
end
theorem ERL.permF {e : Emb} {es es2 : Es} {l : List (Value × Value)} (h : ERL e es l) (hp : (es : List (AV × AV)).Perm es2) : ∃ l2, ERL e es2 l2 ∧ l.Perm l2 := by
 induction hp generalizing l with
 | nil => exact ⟨l, h, .refl _⟩
 | cons x _ ih =>
  cases h with
  | cons k v k' v' _ l' a b c d =>
   obtain ⟨l2, h1, h2⟩ := ih d
   exact ⟨_ :: l2, .cons _ _ _ _ _ _ a b c h1, h2.cons _⟩
 | swap x y _ =>
  cases h with
  | cons k v k' v' _ l' a b c d =>
   cases d with
   | cons k2 v2 k2' v2' _ l2 a2 b2 c2 d2 => exact ⟨_, .cons _ _ _ _ _ _ a2 b2 c2 (.cons _ _ _ _ _ _ a b c d2), .swap _ _ _⟩
 | trans _ _ ih1 ih2 =>
  obtain ⟨l2, h1, h2⟩ := ih1 h
  obtain ⟨l3, h3, h4⟩ := ih2 h1
  exact ⟨l3, h3, h2.trans h4⟩
theorem keys_sym (a b : AV × AV) (h : keyEq a.1 b.1 = some false ∧ keyEq b.1 a.1 = some false) : keyEq b.1 a.1 = some false ∧ keyEq a.1 b.1 = some false := ⟨h.2, h.1⟩
theorem perm_take {rs S : List Fe} {L : List Nat} (hp : (S.map some ++ L.map fun i => rs[i]?).Perm (rs.map some)) {i : Nat} (hi : i ∈ L) {r : Fe} (hr : rs[i]? = some r) :
 ((S ++ [r]).map some ++ (L.erase i).map fun i => rs[i]?).Perm (rs.map some) ∧ ∃ T : List Fe, (S ++ (r :: T)).Perm rs := by
 have h1 : (L.map fun i => rs[i]?).Perm (rs[i]? :: (L.erase i).map fun i => rs[i]?) := (List.perm_cons_erase hi).map fun i => rs[i]?
 have h2 : ((S ++ [r]).map some ++ (L.erase i).map fun i => rs[i]?).Perm (rs.map some) := by
  rw [List.map_append, List.append_assoc]
  refine List.Perm.trans (List.Perm.append_left _ ?_) hp
  rw [hr] at h1
  exact h1.symm
 refine ⟨h2, ?_⟩
 have h3 : ∀ (A : List (Option Fe)) (B : List Fe), A.Perm (B.map some) → ∃ A' : List Fe, A = A'.map some := by
  intro A B hAB
  refine ⟨A.filterMap id, ?_⟩
  have hall : ∀ o ∈ A, ∃ x, o = some x := fun o ho => by
   obtain ⟨x, _, hx⟩ := List.mem_map.1 (hAB.mem_iff.1 ho)
   exact ⟨x, hx.symm⟩
  clear hAB
  induction A with
  | nil => rfl
  | cons o A ih =>
   obtain ⟨x, rfl⟩ := hall _ (.head _)
   simp only [List.filterMap_cons_some (show id (some x) = some x from rfl), List.map_cons]
   rw [← ih fun o ho => hall o (.tail _ ho)]
 obtain ⟨A', hA'⟩ := h3 _ _ h2
 have h4 : (A'.map some).Perm (rs.map some) := hA' ▸ h2
 have h5 : A'.Perm rs := by
  have := h4.filterMap id
  have hid : ∀ l : List Fe, (l.map some).filterMap id = l := fun l => by
   induction l with
   | nil => rfl
   | cons x l ih => simp only [List.map_cons, List.filterMap_cons_some (show id (some x) = some x from rfl), ih]
  rwa [hid, hid] at this
 have h6 : ∃ T, A' = (S ++ [r]) ++ T := by
  have hlen : ((S ++ [r]).map some).length = (S ++ [r]).length := List.length_map ..
  refine ⟨A'.drop (S ++ [r]).length, ?_⟩
  have hinj : ∀ {a b : List Fe}, a.map some = b.map some → a = b := fun {a b} hab => by
   have := congrArg (List.filterMap id) hab
   have hid : ∀ l : List Fe, (l.map some).filterMap id = l := fun l => by
    induction l with
    | nil => rfl
    | cons x l ih => simp only [List.map_cons, List.filterMap_cons_some (show id (some x) = some x from rfl), ih]
   rwa [hid, hid] at this
  have htake : A'.take (S ++ [r]).length = S ++ [r] := hinj (by
   rw [List.map_take, ← hA', ← hlen, List.take_left])
  conv => lhs; rw [← List.take_append_drop (S ++ [r]).length A', htake]
 obtain ⟨T, rfl⟩ := h6
 exact ⟨T, by simpa using h5⟩
section
variable {ds : List Deferred} {n : Nat} {m : ML} {b : CC} {q : FQ} {c : CallT} {it nx mr : Nat} {e : Emb} {h : Hp} {w1 : World} {f : Fr} {N I rm bm clock : Nat} {xN xm xt : Loc} {es : Es} {l : List (Value × Value)} {es' : Array MapEntry} {rt : Nat} {est : Es} {hA : Hp} {rs : List Fe}
structure FillBody (C : Cx) (n : Nat) (m : ML) (q : FQ) (it : Nat) (body : Code) (pr id2 id3 : Nat) (ops2 ops3 : Array Oper) (oe oU : Oper) (ents pre : List Oper) (t : TypeId) (x y z : Nat) : Prop where
 hbody : body = .seq (.region id2 ops2 false) (.region id3 ops3 false)
 ops2' : ops2.toList = oe :: ents
 oe' : oe.op = .entry (.tmp it)
 sl : slotOK n oe = some pr
 mpr : m.pr = some (path pr)
 ment : m.ent = mkSeq C n ops2.toList ents
 ops3' : ops3.toList = pre ++ [oU]
 oU' : oU.op = .mapUpdate t (.tmp x) (.tmp y) (.tmp z)
 gU : oU.guard = none
 dU : oU.dst = none
 kd : keyKd C t = some q.2.1
 q1 : q.1 = mkSeq C n ops3.toList pre
 qx : q.2.2.1 = path x
 qy : q.2.2.2.1 = path y
 qz : q.2.2.2.2 = path z
theorem fill_round {R : Option Nat → Prop} {body : Code} {pr id2 id3 : Nat} {ops2 ops3 : Array Oper} {oe oU : Oper} {ents pre : List Oper} {t : TypeId} {x y z : Nat} (B : FillBody C n m q it body pr id2 id3 ops2 ops3 oe oU ents pre t x y z) (hc : CallOK C c) {kv : AV × AV} {fs f3 f4 : Fr} {hl h3 h4 : Hp} {e : Emb} {a : Act} {w : World} {I bm clock : Nat} {seen : Array Nat} {es' : Array MapEntry} {en : MapEntry} {Q : Exit → Act → World → Prop}
 (hg : GR C e) (hf : FN ds n e fs a) (hr : HR e hl w) (hit : a.eval (.tmp it) = .pointer (some ⟨I, 0, none⟩)) (hI : w.heap[I]? = some (.mapIter (some bm) clock (seen.push en.born) clock)) (hbm : w.heap[bm]? = some (.map es' clock)) (hen : en ∈ es'.toList) (hnd : (es'.toList.map (·.born)).Nodup) (v1 : VR e kv.1 en.key) (v2 : VR e kv.2 en.val)
 (hx : runR m.ent c (entF m.pr kv fs).out hl = .norm f3 h3) (hx2 : runR q.1 c f3 h3 = .norm f4 h4)
 (hk : ∀ (e' : Emb) (a' : Act) (w' : World), Ext e hl w e' h4 w' → FN ds n e' f4 a' → oU.ow C.P a' w' (fun a w => Q .normal a w) Q) : body.ow R C.P Q a w := by
 obtain ⟨g1, g2, g3⟩ := slotOK_spec B.sl
 have hops := B.ops2'
 have ho : ops2[0]? = some oe := by rw [← Array.getElem?_toList, hops]; rfl
 have hsz : ops2.size = ents.length + 1 := by rw [← Array.length_toList, hops]; rfl
 rw [B.hbody]
 refine ow_seq (ow_region ?_)
 rw [hsz, List.range_eq_range']
 show owOps C.P ops2 _ (0 :: List.range' 1 ents.length) a w
 rw [owOps_cons]
 refine owOp_val (v := .tuple #[en.key, en.val]) (w' := w) ho g1 ?_ ?_
 · have := run_entryM (P := C.P) w hI hbm hen hnd
   simp only [execOp, B.oe', hit, this, Sem.run_bind, Result.andThen_ok, Sem.run_pure]
 · rw [g2]
   have hfn : FN ds n e (entF m.pr kv fs).out (a.put (some pr) (.tuple #[en.key, en.val])) := by
    rw [B.mpr]
    show FN ds n e (setP (.tup [kv.1, kv.2]) (path pr) fs).out _
    rw [setP_eq]
    exact hf.put g3 (.tup _ [en.key, en.val] (.cons _ _ _ _ v1 (.cons _ _ _ _ v2 .nil)))
   have hl' : ∀ (i : Nat) (o : Oper), ents[i]? = some o → ops2[1 + i]? = some o := by
    intro i o hi
    rw [← Array.getElem?_toList, hops, Nat.add_comm 1 i]
    simpa using hi
   rw [B.ment] at hx
   have := seq_simK (C := C) hc (Q := Exit.then ((Code.region id3 ops3 false).ow R C.P Q) Q) (js := []) ents 1 hl' _ hl e _ w f3 h3 hg hfn hr hx fun e' a' w' hext hfn' => ?_
   · rw [List.append_nil] at this
     exact this
   · show (Code.region id3 ops3 false).ow R C.P Q a' w'
     refine ow_region ?_
     have hsz3 : ops3.size = pre.length + 1 := by rw [← Array.length_toList, B.ops3']; simp
     have hlast : ops3[pre.length]? = some oU := by rw [← Array.getElem?_toList, B.ops3']; simp
     have hpre : ∀ (i : Nat) (o' : Oper), pre[i]? = some o' → ops3[0 + i]? = some o' := by
      intro i o' hi
      rw [← Array.getElem?_toList, B.ops3', Nat.zero_add, List.getElem?_append_left (List.getElem?_eq_some_iff.1 hi).1]
      exact hi
     have hrange : List.range ops3.size = List.range' 0 pre.length ++ [pre.length] := by
      rw [hsz3, List.range_succ, List.range_eq_range']
     rw [hrange]
     rw [B.q1] at hx2
     refine seq_simK hc pre 0 hpre f3 h3 e' a' w' f4 h4 (hg.mono hext.le) hfn' hext.hr hx2 fun e2 a2 w2 x2 fn2 => ?_
     rw [owOps_cons]
     unfold owOp
     simp only [hlast]
     rw [if_pos (by simp [Region.wanted, B.gU])]
     exact .inl (hk e2 a2 w2 (hext.trans x2) fn2)
theorem rounds_fill {R : Option Nat → Prop} (M : MapAt C n m b it nx mr e h w1 f [] [] N I rm bm clock xN xm es l es') (F : FillAt C n m q c e h w1 f es rt xt est hA rs bm) (hc : CallOK C c) {body : Code}
 {pr id2 id3 : Nat} {ops2 ops3 : Array Oper} {oe oU : Oper} {ents pre : List Oper} {t : TypeId} {x y z : Nat} (B : FillBody C n m q it body pr id2 id3 ops2 ops3 oe oU ents pre t x y z)
 {id1 out nxt : Nat} {ops1 : Array Oper} {o1 o2 : Oper} (hops : ops1.toList = [o1, o2]) (ho1 : o1.op = .next (.tmp it) false) (hs1 : slotOK n o1 = some nx) (ho2 : o2.op = .extract (.tmp nx) 0) (hs2 : slotOK n o2 = some mr)
 {Q : Exit → Act → World → Prop} (hQ : ∀ eS a w, Ext e h w1 eS (hSt rt est hA rs) w → FN ds n eS (anyAll m.ds f).out a → Q (.exit out) a w) :
 ∀ (k : Nat) (L : List Nat), L.length = k → ∀ (S : List Fe) (eS : Emb) (a : Act) (w : World), Fd ds n m e h w1 f N I bm clock es l es' rt est hA rs S L eS a w → owL R C.P (.seq (.region id1 ops1 false) (.seq (.cond (.tmp mr) .skip (.exit out)) (.block nxt body))) Q a w := by
 intro k
 induction k using Nat.strongRecOn with
 | ind k ih =>
  intro L hL S eS a w D
  obtain ⟨g1, g2, g3⟩ := slotOK_spec hs1
  obtain ⟨i1, i2, i3⟩ := slotOK_spec hs2
  have e1 : ops1[0]? = some o1 := by rw [← Array.getElem?_toList, hops]; rfl
  have e2 : ops1[1]? = some o2 := by rw [← Array.getElem?_toList, hops]; rfl
  have hsz : ops1.size = 2 := by rw [← Array.length_toList, hops]; rfl
  have hit := iter_slot M (vs := []) D.fn
  obtain ⟨seen, hI, hperm⟩ := D.iter
  have hold : ∀ x ∈ es'.toList, x.born < clock := fun x hx => M.born.1 _ (List.mem_map.2 ⟨x, hx, rfl⟩)
  have hnd : (es'.toList.map (·.born)).Nodup := M.born.2
  have hslot : ∀ d : Nat, path d ∈ m.ds → slot (anyAll m.ds f).out d = anyA := fun d h1 => by rw [anyAll_slot, if_pos h1]
  have hNrt : N ≠ rt := fun hh => by have := M.bN; rw [hh, F.gt] at this; cases this
  have hNlt := (F.hr.lt _ _ _ M.hN).2
  have hrtlt := (F.hr.lt _ _ _ F.ht).2
  have hgetN : ∀ S, (hSt rt est hA S).get N = some (.sit 0 0 7) := fun S => by
   rw [hSt_get, if_neg hNrt, F.all.old N hNlt]
   exact (Hp.get_set _ _ h.n _ _ _).trans ((if_neg hNrt).trans M.bN)
  refine owL_step (ow_seq (ow_region ?_))
  rw [hsz]
  show owOps C.P ops1 _ [0, 1] a w
  rw [owOps_cons]
  rcases run_nextM (P := C.P) w o1.type hI D.map hold with ⟨h0, hrun⟩ | ⟨en, hen, w1', u1, u2, u3, hrun⟩
  ·
   refine owOp_val (v := .tuple #[.bool false]) (w' := w) e1 g1 (by simp only [execOp, ho1, hit, hrun, Sem.run_bind, Result.andThen_ok, Sem.run_pure]) ?_
   rw [g2, owOps_cons]
   have hf1 := D.fn.putAny (hslot nx M.nxds) (.tuple #[.bool false])
   have hev : (a.put (some nx) (.tuple #[.bool false])).eval (.tmp nx) = .tuple #[.bool false] := put_get (Nat.lt_of_lt_of_le g3 D.fn.2.1)
   refine owOp_val (v := .bool false) (w' := w) e2 i1 (by simp [execOp, ho2, hev, Instr.extract]) ?_
   rw [i2]
   have hf2 := hf1.putAny (hslot mr M.mrds) (.bool false)
   have hLn : L = [] := by
    have h1 := hperm.length_eq
    simp at h1
    have : L.length = 0 := by omega
    exact List.eq_nil_of_length_eq_zero this
   refine ow_seq (ow_cond_false (put_get (Nat.lt_of_lt_of_le i3 hf1.2.1)) (ow_exit ?_))
   have hp : S.Perm rs := by
    have := D.perm
    rw [hLn, List.map_nil, List.append_nil] at this
    have := this.filterMap id
    have hid : ∀ l : List Fe, (l.map some).filterMap id = l := fun l => by
     induction l with
     | nil => rfl
     | cons x l ih => simp only [List.map_cons, List.filterMap_cons_some (show id (some x) = some x from rfl), ih]
    rwa [hid, hid] at this
   refine hQ eS _ w ?_ (hf2.mono D.ext.le)
   have hx := D.ext
   have hgr : ∀ b, b ≠ rt → (hSt rt est hA rs).get b = (hSt rt est hA S).get b := fun b hb => by rw [hSt_get, hSt_get, if_neg hb, if_neg hb]
   have hnro : ∀ b, h.ro b → b ≠ rt := fun b hb hh => by
    subst hh
    rcases hb.2 with ⟨l, hl, hl2⟩ | hl
    · rw [F.gt] at hl; cases hl; exact hl2.elim
    · rw [F.okt] at hl; cases hl
   refine ⟨hx.le, ⟨hx.hr.inj, hx.hr.lt, fun b g y hy => ?_⟩, hx.names, hx.blocks, hx.frame, fun b hb hno => ?_, fun b hb => ?_, hx.n, hx.size, hx.os, hx.output, hx.lk⟩
   · by_cases hb : b = rt
     · subst hb
       obtain ⟨blk, j1, j2⟩ := hx.hr.at' _ _ _ hy
       rw [hSt_get, if_pos rfl] at j1
       cases j1
       refine ⟨_, by rw [hSt_get, if_pos rfl], ?_⟩
       generalize w.heap[y.r]? = ob at j2
       cases j2 with
       | cells c t fr q => exact q.cells.elim
       | sit s pos a _ => cases a
       | iter _ _ _ _ a _ => cases a
       | lp q0 fn0 tm0 df0 a => cases a
       | busy o0 a => cases a
       | dfr a => cases a
       | map es2 es3 clk l2 a0 g0 q1 q2 q3 q4 q5 =>
        cases a0
        obtain ⟨l3, r1, r2⟩ := q1.permF ((hp.map entA).append_left est)
        exact .map _ _ _ l3 rfl g0 r1 (r2.symm.trans q2) F.keys q4 q5
     · obtain ⟨blk, j1, j2⟩ := hx.hr.at' _ _ _ hy
       exact ⟨blk, by rw [hgr b hb]; exact j1, j2⟩
   · by_cases hbr : b = rt
     · subst hbr
       have := hno 0
       rw [F.ht] at this; cases this
     · rw [hgr b hbr]; exact hx.ours b hb hno
   · rw [hgr b (hnro b hb)]; exact hx.ro b hb
  ·
   have hx2 : Ext e h w1 eS (hSt rt est hA S) { w1' with heap := w1'.heap.setIfInBounds I (.mapIter (some bm) clock (seen.push en.born) clock) } :=
    D.ext.setIter M.hN (D.ext.le _ _ _ M.hN) (by rw [M.hNI]) M.bN (hgetN S) M.okN hI (by show w1'.heap.setIfInBounds I _ = _; rw [u1]) u2 u3
   refine owOp_val (v := .tuple #[.bool true, en.key, en.val]) (w' := { w1' with heap := w1'.heap.setIfInBounds I (.mapIter (some bm) clock (seen.push en.born) clock) }) e1 g1 (by simp only [execOp, ho1, hit, hrun, Sem.run_bind, Result.andThen_ok, Sem.run_pure]) ?_
   have hIlt : I < w.heap.size := (Array.getElem?_eq_some_iff.1 hI).1
   have hI2 : ({ w1' with heap := w1'.heap.setIfInBounds I (.mapIter (some bm) clock (seen.push en.born) clock) } : World).heap[I]? = some (.mapIter (some bm) clock (seen.push en.born) clock) := by
    show (w1'.heap.setIfInBounds I _)[I]? = _
    rw [u1]; simp [hIlt]
   have hbI : bm ≠ I := by
    intro hh
    have := D.map
    rw [hh, hI] at this; cases this
   have hm2 : ({ w1' with heap := w1'.heap.setIfInBounds I (.mapIter (some bm) clock (seen.push en.born) clock) } : World).heap[bm]? = some (.map es' clock) := by
    show (w1'.heap.setIfInBounds I _)[bm]? = _
    rw [u1, Array.getElem?_setIfInBounds_ne (Ne.symm hbI)]; exact D.map
   have hNI : xN.r = I := by rw [M.hNI]
   have base2 : ∀ b g x, e b g = some x → b ≠ rt → b ≠ N → ({ w1' with heap := w1'.heap.setIfInBounds I (.mapIter (some bm) clock (seen.push en.born) clock) } : World).heap[x.r]? = w1.heap[x.r]? := by
    intro b g x hx h1 h2
    show (w1'.heap.setIfInBounds I _)[x.r]? = _
    rw [u1, Array.getElem?_setIfInBounds_ne (fun hh => h2 (F.hr.inj _ _ _ _ _ _ hx M.hN (hh.symm.trans hNI.symm)).1)]
    exact D.base b g x hx h1 h2
   generalize ({ w1' with heap := w1'.heap.setIfInBounds I (.mapIter (some bm) clock (seen.push en.born) clock) } : World) = w2 at hx2 hI2 hm2 base2
   rw [g2, owOps_cons]
   have hf1 := D.fn.putAny (hslot nx M.nxds) (.tuple #[.bool true, en.key, en.val])
   have hev : (a.put (some nx) (.tuple #[.bool true, en.key, en.val])).eval (.tmp nx) = .tuple #[.bool true, en.key, en.val] := put_get (Nat.lt_of_lt_of_le g3 D.fn.2.1)
   refine owOp_val (v := .bool true) (w' := w2) e2 i1 (by simp [execOp, ho2, hev, Instr.extract]) ?_
   rw [i2]
   have hf2 := hf1.putAny (hslot mr M.mrds) (.bool true)
   refine ow_seq (ow_cond_true (put_get (Nat.lt_of_lt_of_le i3 hf1.2.1)) (ow_skip (ow_block ?_)))
   have hit2 := iter_slot M (vs := []) hf2
   have hmem : some (en.key, en.val) ∈ (leftOf es' seen).toList.map fun m => some (m.key, m.val) := List.mem_map.2 ⟨en, hen, rfl⟩
   obtain ⟨i, hiL, hil⟩ := List.mem_map.1 (hperm.mem_iff.2 hmem)
   obtain ⟨kv, hkv, v1, v2⟩ := M.erl.getM hil
   have hpe : L.Perm (i :: L.erase i) := List.perm_cons_erase hiL
   have hen2 : en ∈ es'.toList := by
    unfold leftOf at hen
    rw [Array.toList_filter] at hen
    exact (List.mem_filter.1 hen).1
   obtain ⟨r, hri, hrunr⟩ := F.all.run i kv hkv
   obtain ⟨f3, h3, f4, h4, q1, q2, q3⟩ := fillR_spec hrunr
   obtain ⟨s1, s2, s3, s4, s5⟩ := fillE_spec q3
   have hHR := fill_base F M.hN M.bN hx2 base2
   refine fill_round B hc M.gr hf2 hHR hit2 hI2 hm2 hen2 hnd v1 v2 q1 q2 fun ea a4 w4 x4 fn4 => ?_
   have hrs : r ∈ rs := List.mem_of_getElem? hri
   obtain ⟨hp2, T, hT⟩ := perm_take D.perm hiL hri
   have hdis : ∀ r' ∈ S, r.1 + r.2.2.2.length ≤ r'.1 ∨ r'.1 + r'.2.2.2.length ≤ r.1 := fun r' hr' => by
    have h1 : (S ++ r :: T).Pairwise fun a b : Fe => a.1 + a.2.2.2.length ≤ b.1 ∨ b.1 + b.2.2.2.length ≤ a.1 := (hT.pairwise_iff fun {a b} hh => hh.symm).2 (F.all.dis.imp fun hh => .inl hh)
    exact ((List.pairwise_append.1 h1).2.2 r' hr' r (.head _)).symm
   obtain ⟨hsame, hk, hle, x5⟩ := fill_after F hx2 D.dom hrs hdis x4 s5
   have hF := x5.le _ _ _ F.ht
   obtain ⟨blk, j1, j2⟩ := x5.hr.at' rt 0 xt hF
   rw [hSt_get, if_pos rfl] at j1
   cases j1
   cases hob : w4.heap[xt.r]? with
   | none => rw [hob] at j2; cases j2
   | some ob =>
   rw [hob] at j2
   cases j2 with
   | cells c t fr q => exact q.cells.elim
   | sit s pos a _ => cases a
   | iter _ _ _ _ a _ => cases a
   | lp q0 fn0 tm0 df0 a => cases a
   | busy o0 a => cases a
   | dfr a => cases a
   | map es2 esw clk l2 a0 g0 p1 p2 p3 p4 mb =>
   cases a0
   have hev4 : ∀ d : Nat, a4.eval (.tmp d) = a4.tmps.getD d undef := fun d => by simp [Act.eval]
   have vx := fn4.1.1 x
   have vy := fn4.1.1 y
   have vz := fn4.1.1 z
   rw [← hev4] at vx vy vz
   rw [B.qx] at s1
   rw [B.qy] at s2
   rw [B.qz] at s4
   rw [show slot f4 x = AV.map rt from s1] at vx
   rw [show slot f4 y = r.2.1 from s2.symm] at vy
   rw [show slot f4 z = r.2.2.1.ren (fun j => (h.n + j, 0)) from s4] at vz
   have hmx : a4.eval (.tmp x) = .map (some xt.r) := by
    generalize a4.eval (.tmp x) = u at vx
    cases vx with
    | map _ yl k1 k2 =>
     have := x4.le _ _ _ F.ht
     rw [k1] at this; cases this; rfl
   obtain ⟨kt, el, d, _, _, kdd⟩ := keyKd_spec B.kd
   obtain ⟨_, kp⟩ := keyIs_spec vy kdd s3
   have vk : VR (embR h.n r eS ea) r.2.1 (a4.eval (.tmp y)) := vy.closedT (keyPrim_closed kp)
   have vv : VR (embR h.n r eS ea) (entA r).2 (a4.eval (.tmp z)) := VR.ren (ρ1 := fun j => (h.n + j, 0)) (ρ2 := fun j => (r.1 + j, 0)) hk r.2.2.1 vz
   have hn : ∀ p ∈ est ++ S.map entA, keyEq r.2.1 p.1 = some false := fun p hp => by
    have h1 : keysOk (est ++ (S ++ r :: T).map entA) := (((hT.map entA).append_left est).pairwise_iff fun {a b} hh => ⟨hh.2, hh.1⟩).2 F.keys
    rw [List.map_append, List.map_cons, ← List.append_assoc] at h1
    exact ((List.pairwise_append.1 h1).2.2 p hp (entA r) (.head _)).2
   refine put_new B.oU' B.dU B.kd hmx hob vy s3 p1 p2 p3 hn ?_
   have hok : (hSt rt est hA S).okw rt = true := (okw_lk (h := h) (h' := hSt rt est hA S) F.all.lk rt).trans F.okt
   have hext5 := x5.hr.setObj (blk' := .map (est ++ S.map entA ++ [entA r])) (ob' := .map (esw.push { key := a4.eval (.tmp y), val := a4.eval (.tmp z), born := clk }) (clk + 1)) hF (by rw [hSt_get, if_pos rfl]) id id
    (.map _ _ _ (l2 ++ [(a4.eval (.tmp y), a4.eval (.tmp z))]) rfl rfl (p1.push vk vv kp) (by simpa using p2.append_right _) (keysOk_push p3 hn) (p4.push _ _) mb) hok
   have hgr : (⟨setT (.map (est ++ S.map entA ++ [entA r])) (path rt) (hSt rt est hA S).t, (hSt rt est hA S).n, (hSt rt est hA S).lk⟩ : Hp).grew (hSt rt est hA (S ++ [r])) := by
    refine ⟨Nat.le_refl _, fun b _ => ?_, rfl⟩
    rw [hSt_get]
    refine Eq.symm ((Hp.get_set _ _ (hSt rt est hA S).n _ _ _).trans ?_)
    by_cases hb : b = rt
    · rw [if_pos hb, if_pos hb]; simp
    · rw [if_neg hb, if_neg hb]
      exact (hSt_get rt est hA S b).trans (if_neg hb)
   have x6 := (x5.trans hext5).grow hgr
   have hne : ∀ b g x, e b g = some x → b ≠ rt → xt.r ≠ x.r := fun b g x hx hb hh => hb (F.hr.inj _ _ _ _ _ _ F.ht hx hh).1.symm
   generalize hw5 : ({ w4 with heap := w4.heap.setIfInBounds xt.r (.map (esw.push { key := a4.eval (.tmp y), val := a4.eval (.tmp z), born := clk }) (clk + 1)) } : World) = w5 at x6
   have h5 : ∀ j, xt.r ≠ j → j < w2.heap.size → w5.heap[j]? = w2.heap[j]? := fun j hj hlt => by
    rw [← hw5]
    show (w4.heap.setIfInBounds xt.r _)[j]? = _
    rw [Array.getElem?_setIfInBounds_ne hj]
    exact hsame j hlt
   have hlen : (L.erase i).length < k := by
    have := hpe.length_eq
    simp only [List.length_cons] at this
    omega
   have hleft : ((L.erase i).map fun i => l[i]?).Perm ((leftOf es' (seen.push en.born)).toList.map fun m => some (m.key, m.val)) := by
    have p1 := (hpe.map fun i => l[i]?).symm.trans (hperm.trans ((leftOf_push hnd hen).map fun m => some (m.key, m.val)))
    simp only [List.map_cons, hil] at p1
    exact p1.cons_inv
   have hxtI : xt.r ≠ I := fun hh => hNrt ((F.hr.inj _ _ _ _ _ _ F.ht M.hN (hh.trans hNI.symm)).1).symm
   refine ih (L.erase i).length hlen (L.erase i) rfl (S ++ [r]) _ a4 w5 ⟨x6, fun b g x hx h1 h2 => ?_, fun b g x hx => ?_, ⟨⟨fun d => ?_, ?_⟩, fn4.2⟩, ?_, ⟨seen.push en.born, ?_, hleft⟩, fun j hj => D.lt j (List.mem_of_mem_erase hj), hp2⟩
   · rw [h5 _ (hne b g x hx h1) (hx2.hr.lt _ _ _ (hx2.le _ _ _ hx)).1]
     exact base2 b g x hx h1 h2
   · unfold embR at hx
     by_cases hh : r.1 ≤ b ∧ b < r.1 + r.2.2.2.length
     · exact .inr ⟨r, by simp, hh⟩
     · rw [if_neg hh] at hx
       rcases D.dom b g x hx with h1 | ⟨r', hr', h1⟩
       · exact .inl h1
       · exact .inr ⟨r', by simp [hr'], h1⟩
   · rw [anyAll_slot]
     by_cases hd : path d ∈ m.ds
     · rw [if_pos hd]; exact .any _
     · rw [if_neg hd]
       have k1 : slot f4 d = slot f3 d := runR_keep q2 fun hh => hd (F.own _ hh)
       have k2 : slot f3 d = slot (entF m.pr kv (anyAll m.ds f).out).out d := runR_keep q1 fun hh => hd (M.ent _ hh)
       have k3 : slot (entF m.pr kv (anyAll m.ds f).out).out d = slot (anyAll m.ds f).out d := by
        unfold entF
        cases hp : m.pr with
        | none => rfl
        | some p =>
         simp only
         rw [slot_put, if_neg (fun hh => hd (by rw [hh]; exact M.prds p hp))]
       have k4 : slot (anyAll m.ds f).out d = slot f d := by rw [anyAll_slot, if_neg hd]
       have k5 := hf2.1.1 d
       rw [k4] at k5
       have k6 := fn4.1.1 d
       rw [k1, k2, k3, k4] at k6
       exact k5.back x4.le k6
   · exact fn4.1.2
   · rw [h5 bm F.ne (Array.getElem?_eq_some_iff.1 hm2).1]; exact hm2
   · rw [h5 I hxtI (Array.getElem?_eq_some_iff.1 hI2).1]; exact hI2
end
end Go.Ab
namespace Go.Ab
variable [Val]
open Go
variable {C : Cx} {ds : List Deferred}
theorem litSeq_get (n : Nat) (ops : List Oper) (t0 last : Nat) : ∀ (l : List Oper) (k i : Nat), (litSeq C n ops t0 last k l)[i]? = (l[i]?).map (litS C n ops t0 last (k + i))
 | [], k, i => by simp [litSeq]
 | o :: l, k, 0 => by simp [litSeq]
 | o :: l, k, i + 1 => by
  rw [show k + (i + 1) = k + 1 + i by omega]
  simp [litSeq, litSeq_get n ops t0 last l (k + 1) i]
theorem litSeq_length (n : Nat) (ops : List Oper) (t0 last : Nat) : ∀ (l : List Oper) (k : Nat), (litSeq C n ops t0 last k l).length = l.length
 | [], k => rfl
 | o :: l, k => by simp [litSeq, litSeq_length n ops t0 last l (k + 1)]
theorem Ext.aside {e0 e : Emb} {h0 H : Hp} {w0 w w2 : World} (x : Ext e0 h0 w0 e H w) (hsz : w.heap.size ≤ w2.heap.size) (hsame : ∀ r, r < w.heap.size → (r < w0.heap.size ∨ ∃ b g y, e b g = some y ∧ y.r = r) → w2.heap[r]? = w.heap[r]?) (h2 : w2.os = w.os) (h3 : w2.output = w.output) : Ext e0 h0 w0 e H w2 := by
 refine ⟨x.le, ⟨x.hr.inj, fun b g y hy => ⟨Nat.lt_of_lt_of_le (x.hr.lt b g y hy).1 hsz, (x.hr.lt b g y hy).2⟩, fun b g y hy => ?_⟩, x.names, x.blocks, fun r hr hro => ?_, x.ours, x.ro, x.n, Nat.le_trans x.size hsz, h2.trans x.os, h3.trans x.output, x.lk⟩
 · obtain ⟨blk, k1, k2⟩ := x.hr.at' b g y hy
   exact ⟨blk, k1, by rw [hsame y.r (x.hr.lt b g y hy).1 (.inr ⟨b, g, y, hy, rfl⟩)]; exact k2⟩
 · rw [hsame r (Nat.lt_of_lt_of_le hr x.size) (.inl hr)]
   exact x.frame r hr hro
theorem insOf_spec {t0 : Nat} {o : Oper} {q : AV × Sx} (h : insOf C t0 o = some q) : ∃ t k z, o.op = .insert t (.tmp t0) (.const k) z ∧ o.guard = none ∧ o.dst = none ∧ conv k = some q.1 ∧ sx C z = some q.2 := by
 unfold insOf at h
 split at h
 · rename_i t m k z hop hg hd
   cases hm : Nat.beq m t0 with
   | false => rw [hm] at h; cases h
   | true =>
    rw [hm, ifb_true] at h
    have := beq_iff.1 hm
    subst this
    split at h
    · rename_i k' x hk hx
      cases h
      exact ⟨t, k, z, hop, hg, hd, hk, hx⟩
    · cases h
 · cases h
def InsF (C : Cx) (t0 : Nat) (o : Oper) (q : AV × Sx) : Prop := ∃ t k z kd, o.op = .insert t (.tmp t0) (.const k) z ∧ o.guard = none ∧ o.dst = none ∧ conv k = some q.1 ∧ sx C z = some q.2 ∧ keyKd C t = some kd ∧ keyIs kd q.1 = true
theorem keysB_spec : ∀ {l : List (AV × Sx)}, keysB l = true → l.Pairwise fun a b => keyEq a.1 b.1 = some false ∧ keyEq b.1 a.1 = some false
 | [], _ => .nil
 | k :: l, h => by
  have h : and (l.all fun q => match keyEq k.1 q.1, keyEq q.1 k.1 with
   | some false, some false => true
   | _, _ => false) (keysB l) = true := h
  rw [Bool.and_eq_true] at h
  refine List.pairwise_cons.2 ⟨fun q hq => ?_, keysB_spec h.2⟩
  have := List.all_eq_true.1 h.1 q hq
  split at this
  · rename_i h1 h2; exact ⟨h1, h2⟩
  · cases this
theorem findK_no {k : AV} : ∀ {es : Es} (i : Nat), (∀ q ∈ (es : List (AV × AV)), keyEq k q.1 = some false) → findK k es i = some none
 | [], i, _ => rfl
 | q :: es, i, h => by
  show Option.rec (motive := fun _ => Option (Option (Nat × AV))) none (fun b => ifb b (some (some (i, q.2))) (findK k es (Nat.succ i))) (keyEq k q.1) = some none
  rw [h q (.head _)]
  exact findK_no (Nat.succ i) fun q' hq' => h q' (.tail _ hq')
section
variable {n t0 last : Nat} {ops : Array Oper}
theorem lit_length : (Rgn.lit C n ops t0 last).ss.length = ops.size := by
 show (litSeq C n ops.toList t0 last 0 ops.toList).length = _
 rw [litSeq_length]; simp
theorem lit_s {i : Nat} {o : Oper} (ho : ops[i]? = some o) : (Rgn.lit C n ops t0 last).s i = litS C n ops.toList t0 last i o := by
 show (nthA (litSeq C n ops.toList t0 last 0 ops.toList) i).getD _ = _
 rw [nthA_eq, litSeq_get, Array.getElem?_toList, ho, Nat.zero_add]; rfl
theorem lit_far {i : Nat} (h : ¬ i < (Rgn.lit C n ops t0 last).ss.length) : (Rgn.lit C n ops t0 last).s i = ⟨.bad "region", none, none, false⟩ := by
 show (nthA (Rgn.lit C n ops t0 last).ss i).getD _ = _
 rw [nthA_eq, List.getElem?_eq_none (by omega)]; rfl
theorem litS_ord {i : Nat} {o : Oper} (h0 : i ≠ 0) (hl : i < last) (hi : insOf C t0 o = none) : litS C n ops.toList t0 last i o = mkS C n ops.toList o := by
 unfold litS
 have h1 : Nat.beq i 0 = false := by
  cases h : Nat.beq i 0 with
  | false => rfl
  | true => exact absurd (beq_iff.1 h) h0
 have h2 : Nat.ble last i = false := by
  cases h : Nat.ble last i with
  | false => rfl
  | true => have := Nat.le_of_ble_eq_true h; omega
 rw [h1, h2, hi]; rfl
theorem litS_zero {o : Oper} : litS C n ops.toList t0 last 0 o = ⟨.mv (.c anyA), none, some (path t0), false⟩ := rfl
theorem litS_ins {i : Nat} {o : Oper} {q : AV × Sx} (h0 : i ≠ 0) (hi : insOf C t0 o = some q) : litS C n ops.toList t0 last i o = noCS := by
 unfold litS
 have h1 : Nat.beq i 0 = false := by
  cases h : Nat.beq i 0 with
  | false => rfl
  | true => exact absurd (beq_iff.1 h) h0
 rw [h1, hi]
 cases Nat.ble last i <;> rfl
theorem litS_tail {i : Nat} {o : Oper} (h0 : i ≠ 0) (hl : last ≤ i) : litS C n ops.toList t0 last i o = noCS := by
 unfold litS
 have h1 : Nat.beq i 0 = false := by
  cases h : Nat.beq i 0 with
  | false => rfl
  | true => exact absurd (beq_iff.1 h) h0
 rw [h1, ble_iff.2 hl]; rfl
theorem lit_ord {i : Nat} {o : Oper} (ho : ops[i]? = some o) (h0 : i ≠ 0) (hl : i < last) (hi : insOf C t0 o = none) : (Rgn.lit C n ops t0 last).s i = (Rgn.of C n ops).s i := by
 rw [lit_s ho, litS_ord h0 hl hi, of_s ho]
theorem lit_again (i : Nat) : ((Rgn.lit C n ops t0 last).s i).again = false := by
 cases ho : ops[i]? with
 | none =>
  have hlt : ¬ i < (Rgn.lit C n ops t0 last).ss.length := by
   rw [lit_length]
   intro h
   rw [Array.getElem?_eq_getElem h] at ho; cases ho
  rw [lit_far hlt]
 | some o =>
  by_cases h0 : i = 0
  · subst h0; rw [lit_s ho]; rfl
  · cases hi : insOf C t0 o with
    | some q => rw [lit_s ho, litS_ins h0 hi]; rfl
    | none =>
     by_cases hl : i < last
     · rw [lit_ord ho h0 hl hi]; exact of_again i
     · rw [lit_s ho, litS_tail h0 (by omega)]; rfl
noncomputable def kvAt (C : Cx) (t0 : Nat) (ops : Array Oper) (F : Fr) (i : Nat) : AV × AV := match (ops[i]?).bind (insOf C t0) with
 | some q => (q.1, ev F q.2)
 | none => (undefA, undefA)
def IsIns (C : Cx) (t0 last : Nat) (ops : Array Oper) (i : Nat) : Prop := i < last ∧ ∃ o q, ops[i]? = some o ∧ insOf C t0 o = some q
def Zm (C : Cx) (t0 last : Nat) (ops : Array Oper) (F : Fr) (w0 : World) (D : Nat → Prop) (e : Emb) (a : Act) (w : World) : Prop :=
 D 0 → ∃ (rm : Nat) (P : List Nat), a.tmps.getD t0 undef = .map (some rm) ∧ w0.heap.size ≤ rm ∧ rm < w.heap.size ∧ (∀ b g x, e b g = some x → x.r ≠ rm) ∧ BR e (.map (P.map (kvAt C t0 ops F))) 0 ⟨rm, 0, 0, 0⟩ w.heap[rm]? ∧ P.Nodup ∧ ∀ i, i ∈ P ↔ (D i ∧ IsIns C t0 last ops i)
theorem Zm.keep {F : Fr} {w0 : World} {D D' : Nat → Prop} {e e' : Emb} {a a' : Act} {w w' : World} (z : Zm C t0 last ops F w0 D e a w) (hle : e.le e') (hb : ∀ b g x, e' b g = some x → (∃ b0 g0 x0, e b0 g0 = some x0 ∧ x0.r = x.r) ∨ w.heap.size ≤ x.r)
 (hf : ∀ r, r < w.heap.size → (∀ b g x, e b g = some x → x.r ≠ r) → w'.heap[r]? = w.heap[r]?) (hs : w.heap.size ≤ w'.heap.size) (ht : a'.tmps.getD t0 undef = a.tmps.getD t0 undef) (h0 : D' 0 → D 0) (hD : ∀ i, IsIns C t0 last ops i → (D' i ↔ D i)) : Zm C t0 last ops F w0 D' e' a' w' := by
 intro hd
 obtain ⟨rm, P, z1, z2, z3, z4, z5, z6, z7⟩ := z (h0 hd)
 refine ⟨rm, P, ht.trans z1, z2, Nat.lt_of_lt_of_le z3 hs, fun b g x hx hr => ?_, ?_, z6, fun i => ?_⟩
 · rcases hb b g x hx with ⟨b0, g0, x0, h1, h2⟩ | h1
   · exact z4 b0 g0 x0 h1 (h2.trans hr)
   · omega
 · rw [hf rm z3 z4]; exact z5.mono hle
 · rw [z7 i]
   constructor
   · rintro ⟨h1, h2⟩; exact ⟨(hD i h2).2 h1, h2⟩
   · rintro ⟨h1, h2⟩; exact ⟨(hD i h2).1 h1, h2⟩
theorem put_other {a : Act} {d : Option Nat} {v : Value} {t0 : Nat} (h : d ≠ some t0) : (a.put d v).tmps.getD t0 undef = a.tmps.getD t0 undef := by
 cases d with
 | none => rfl
 | some d =>
  have hne : d ≠ t0 := fun hh => h (by rw [hh])
  simp [Act.put, Array.getElem?_setIfInBounds_ne hne]
def InvZ (C : Cx) (ds : List Deferred) (r : Rgn) (F f0 : Fr) (c : CallT) (He : Hp) (n : Nat) (e0 : Emb) (h0 : Hp) (w0 : World) (t0 last : Nat) (ops : Array Oper) (D : Nat → Prop) (a : Act) (w : World) : Prop :=
 ∃ dn ld last' rest fj H nm e f, Inv ds r F f0 c He n e0 h0 w0 D a w dn ld last' rest fj H nm e f ∧ Zm C t0 last ops F w0 D e a w
end
end Go.Ab
namespace Go.Ab
variable [Val]
open Go
variable {C : Cx} {ds : List Deferred}
section
variable {n t0 last : Nat} {ops : Array Oper} {r : Rgn} {F f0 : Fr} {c : CallT} {He : Hp} {e0 : Emb} {h0 : Hp} {w0 : World} {D : Nat → Prop} {a : Act} {w : World} {dn : Nat → Prop} {ld : List Nat} {last' : Option Nat} {rest : List Ep} {fj : Fr} {H : Hp} {nm : Nat → Option Nat} {e : Emb} {f : Fr} {Q : Exit → Act → World → Prop}
theorem light_stepZ (hP : Plan r) (hg : GR C e0) (hc : CallOK C c) (I : Inv ds r F f0 c He n e0 h0 w0 D a w dn ld last' rest fj H nm e f) (Z : Zm C t0 last ops F w0 D e a w) {i : Nat} {o : Oper} (hi : ops[i]? = some o) (hsi : r.s i = (Rgn.of C n ops).s i) (hmi : r.m i = (Rgn.of C n ops).m i)
 (hi0 : i ≠ 0) (hni : ¬ IsIns C t0 last ops i) (hdst : o.dst ≠ some t0) (hd : dn i) (hn : ¬ D i)
 (hanc : ∀ p, (r.a i).testBit p = true → D p) (hW : Whole r D) : owOp C.P ops Q i (InvZ C ds r F f0 c He n e0 h0 w0 t0 last ops fun j => D j ∨ j = i) a w := by
 have hlen := I.mid.lt2 i hd
 have hview : View r F f0 i f := I.slots.view (hP.use i hlen) hP.once hanc fun _ p _ hor hD => hor.elim (fun h => hn (h ▸ hD)) fun hb => hn (hW p hD i hb)
 obtain ⟨v, hv, hcase⟩ := I.facts i hd hn
 have hgr : GR C e := hg.mono I.ext.le
 have fin : ∀ (e' : Emb) (v' : Value) (w' : World), e.le e' → Ext e0 h0 w0 e' H w' → VR e' v v' → (∀ j b, ¬ D j → j ≠ i → nm j = some b → ∀ g, e' b g = none) → ((r.s i).d = o.dst.map path ∧ ∀ t, o.dst = some t → t < n) →
  (∀ b g x, e' b g = some x → (∃ b0 g0 x0, e b0 g0 = some x0 ∧ x0.r = x.r) ∨ w.heap.size ≤ x.r) → (∀ q, q < w.heap.size → (∀ b g x, e b g = some x → x.r ≠ q) → w'.heap[q]? = w.heap[q]?) → w.heap.size ≤ w'.heap.size →
  InvZ C ds r F f0 c He n e0 h0 w0 t0 last ops (fun j => D j ∨ j = i) (a.put o.dst v') w' := by
  intro e' v' w' hle hext hvr hnone ⟨hd1, hd2⟩ hb hfr hs
  refine ⟨dn, ld, last', rest, fj, H, nm, e', (putD (r.s i).d v f).out, ⟨I.mid, hext, ?_, I.slots.step hlen hv, ?_, fun j h1 h2 => .inl (I.deeds j h1 h2), fun j h1 h2 => I.facts j h1 fun h => h2 (.inl h), ?_, ?_⟩, ?_⟩
  · rw [hd1]; exact (I.fn.mono hle).putO hd2 hvr
  · rintro j (h | rfl)
    · exact I.sub j h
    · exact hd
  · intro j b h1 h2
    have h3 := I.names j b (fun h => h1 (.inl h)) h2
    exact ⟨h3.1, h3.2.1, hnone j b (fun h => h1 (.inl h)) (fun h => h1 (.inr h)) h2⟩
  · exact fun j k b h1 h2 => I.inj j k b (fun h => h1 (.inl h)) fun h => h2 (.inl h)
  · refine Z.keep hle hb hfr hs (put_other hdst) (fun h => h.resolve_right (fun hh => hi0 hh.symm)) fun j hj => ⟨fun h => h.resolve_right (fun hh => hni (hh ▸ hj)), .inl⟩
 have viaExt : ∀ (e' : Emb) (v' : Value) (w' : World), Ext e H w e' H w' → VR e' v v' → ((r.s i).d = o.dst.map path ∧ ∀ t, o.dst = some t → t < n) → InvZ C ds r F f0 c He n e0 h0 w0 t0 last ops (fun j => D j ∨ j = i) (a.put o.dst v') w' := by
  intro e' v' w' hext hvr hd
  exact fin e' v' w' hext.le (I.ext.trans hext) hvr (fun j b h1 _ h2 => hext.none (I.names j b h1 h2).2.1 (I.names j b h1 h2).2.2) hd
   (fun b g x hx => (hext.blocks b g x hx).imp (fun ⟨g0, x0, k1, k2⟩ => ⟨b, g0, x0, k1, k2⟩) id) (fun q hq hno => hext.frame q hq fun b g x hx hxr => absurd hxr (hno b g x hx)) hext.size
 rcases hcase with ⟨_, hx⟩ | ⟨_, hx⟩ | ⟨hk, ht, ht', hx, hmade⟩
 · have hx := hx f H hview
   have hx2 := hx
   rw [hsi] at hx2
   exact stepS_sim hc hi hx2 hgr I.fn I.ext.hr fun e' v' w' hext hvr => viaExt e' v' w' hext hvr (by rw [hsi]; exact of_d hi hx2)
 · have hx := hx f hview
   have hx2 := hx
   rw [hsi] at hx2
   exact stepS_sim hc hi hx2 hgr I.fn I.ext.hr fun e' v' w' hext hvr => viaExt e' v' w' hext hvr (by rw [hsi]; exact of_d hi hx2)
 · have hx := hx f hview
   have hm : isMkOp o = true := by rw [← of_m (C := C) (n := n) hi, ← hmi]; exact hP.make i hlen hk
   have hk2 : ((Rgn.of C n ops).s i).o.kd = 2 := by rw [← hsi]; exact hk
   have hx2 := hx
   rw [hsi] at hx2
   refine makeS_sim hi hm hk2 hx2 hgr I.fn (fun hu _ => ?_) fun v' w' B ob sz made => ?_
   · subst hu
     exact fin e undef w (.refl e) I.ext (undef_VR e) (fun j b h1 _ h2 => (I.names j b h1 h2).2.2) (by rw [hsi]; exact of_d hi hx2) (fun b g x hx => .inl ⟨b, g, x, hx, rfl⟩) (fun _ _ _ => rfl) (Nat.le_refl _)
   · rcases hmade with hh | ⟨B2, hB2, hnm, hlt, hget⟩
     · have h1 := made.ours
       rw [hh] at h1
       have h2 : ht.n = ht.n + 1 := congrArg Hp.n h1
       omega
     · have hB : B = B2 := by
        have h1 := made.ours
        rw [hB2] at h1
        have h2 : Hp.get ⟨setT B2 (path ht.n) ht.t, ht.n + 1, ht.lk⟩ ht.n = Hp.get ⟨setT B (path ht.n) ht.t, ht.n + 1, ht.lk⟩ ht.n := by rw [h1]
        rw [Hp.get_set _ _ ht.n, Hp.get_set _ _ ht.n, if_pos rfl, if_pos rfl] at h2
        exact (Option.some.inj h2).symm
       subst hB
       obtain ⟨n1, n2, n3⟩ := I.names i _ hn hnm
       obtain ⟨e', hle, hnew, hoth, hall, hext⟩ := I.ext.late n1 n2 n3 hget made.heap made.os made.output made.br
       refine fin e' v' w' hle hext (made.vr e' hle hnew) (fun j b h1 h2 h3 g => ?_) (by rw [hsi]; exact of_d hi hx2) (fun b g x hx => ?_) (fun q hq _ => by rw [made.heap, Array.getElem?_push, if_neg (by omega)]) (by rw [made.heap, Array.size_push]; omega)
       · have hne : b ≠ ht.n := fun hh => h2 (I.inj j i b h1 hn h3 (hh ▸ hnm))
         rw [hoth b g hne]
         exact (I.names j b h1 h3).2.2 g
       · rcases hall b g x hx with h1 | h1
         · exact .inl ⟨b, g, x, h1, rfl⟩
         · exact .inr (Nat.le_of_eq h1.symm)
theorem aside_stepZ (I : Inv ds r F f0 c He n e0 h0 w0 D a w dn ld last' rest fj H nm e f) {i : Nat} {o : Oper} (hd : dn i) {v : AV} (hlen : i < r.ss.length) (hv : VF r F i v) {v' : Value} {w' : World} (hext : Ext e0 h0 w0 e H w') (hdst : (r.s i).d = o.dst.map path) (hdn : ∀ t, o.dst = some t → t < n) (hvr : VR e v v')
 (Z : Zm C t0 last ops F w0 (fun j => D j ∨ j = i) e (a.put o.dst v') w') : InvZ C ds r F f0 c He n e0 h0 w0 t0 last ops (fun j => D j ∨ j = i) (a.put o.dst v') w' := by
 refine ⟨dn, ld, last', rest, fj, H, nm, e, (putD (r.s i).d v f).out, ⟨I.mid, hext, ?_, I.slots.step hlen hv, ?_, fun j h1 h2 => .inl (I.deeds j h1 h2), fun j h1 h2 => I.facts j h1 fun h => h2 (.inl h), ?_, ?_⟩, Z⟩
 · rw [hdst]; exact I.fn.putO hdn hvr
 · rintro j (h | rfl)
   · exact I.sub j h
   · exact hd
 · exact fun j b h1 h2 => I.names j b (fun h => h1 (.inl h)) h2
 · exact fun j k b h1 h2 => I.inj j k b (fun h => h1 (.inl h)) fun h => h2 (.inl h)
theorem heavy_stepZ (hP : Plan r) (hg : GR C e0) (hc : CallOK C c) (hrl : r.ss.length = ops.size) (I : Inv ds r F f0 c He n e0 h0 w0 D a w dn ld last' rest fj H nm e f) (Z : Zm C t0 last ops F w0 D e a w) {i : Nat} {o : Oper} (hi : ops[i]? = some o) (hsi : r.s i = (Rgn.of C n ops).s i) (hi0 : i ≠ 0) (hni : ¬ IsIns C t0 last ops i) (hdst : o.dst ≠ some t0) (hnd : ¬ dn i)
 (hanc : ∀ p, (r.a i).testBit p = true → D p) (hW : Whole r D) : owOp C.P ops Q i (InvZ C ds r F f0 c He n e0 h0 w0 t0 last ops fun j => D j ∨ j = i) a w := by
 have hlen : i < r.ss.length := by rw [hrl]; exact (Array.getElem?_eq_some_iff.1 hi).1
 have hmem : i ∈ rest.flatMap Ep.order := (I.mid.order.all i hlen).resolve_left hnd
 have hout := I.mid.order.out
 have hfirst : ∃ ep rest', rest = ep :: rest' ∧ ep.hv = some i := by
  cases hr : rest with
  | nil => rw [hr] at hmem; cases hmem
  | cons ep rest' =>
   refine ⟨ep, rest', rfl, ?_⟩
   rw [hr] at hmem hout
   obtain ⟨d, hd⟩ := Option.isSome_iff_exists.1 (I.mid.isSome ep (by rw [hr]; exact .head _))
   have heps := I.mid.eps
   rw [hr] at heps
   obtain ⟨h1, h2, _, _, h5⟩ := heps
   have hno : ∀ x, x ∈ (ep :: rest').flatMap Ep.order → ¬ (r.a i).testBit x = true := fun x hx hb => hout x hx (I.sub x (hanc x hb))
   have hdm : d ∈ (ep :: rest').flatMap Ep.order := by
    rw [List.flatMap_cons]
    refine List.mem_append_left _ ?_
    unfold Ep.order; rw [hd]; exact .head _
   by_cases hid : i = d
   · rw [hd, hid]
   · exfalso
     rw [List.flatMap_cons, List.mem_append] at hmem
     rcases hmem with hmem | hmem
     · unfold Ep.order at hmem
       rw [hd] at hmem
       have hmem : i ∈ d :: ep.ls := hmem
       rcases List.mem_cons.1 hmem with hh | hh
       · exact hid hh
       · exact hno d hdm ((h2 i hh).2 d hd)
     · rw [hd] at h5
       obtain ⟨x, hx, hx2⟩ := eps_behind h5 (fun e' he' => I.mid.isSome e' (by rw [hr]; exact .tail _ he')) i hmem
       rcases hx with rfl | hx
       · exact hno x hdm hx2
       · exact hno x (by rw [List.flatMap_cons]; exact List.mem_append_right _ hx) hx2
 obtain ⟨ep, rest', rfl, hep⟩ := hfirst
 have heps := I.mid.eps
 obtain ⟨h1, h2, h3, h4, h5⟩ := heps
 rw [hep] at h5
 have horder : ep.order = i :: ep.ls := by unfold Ep.order; rw [hep]; rfl
 have hord := I.mid.order
 rw [List.flatMap_cons, horder] at hord hout
 obtain ⟨_, hord1, hord2⟩ := hord
 have hrun := I.mid.run
 rw [List.flatMap_cons, Ep.out, horder, List.append_assoc, List.map_cons, List.cons_append] at hrun
 obtain ⟨v, H1, hst, hrun⟩ := runR_once (hP.again i) hrun
 have hviewj : View r F f0 i fj := I.mid.slots.view (hP.use i hlen) hP.once hord1 fun _ p _ hor hD => hor.elim (fun h => hnd (h ▸ hD)) fun hb => hnd (I.mid.whole p hD i hb)
 have hviewf : View r F f0 i f := I.slots.view (hP.use i hlen) hP.once hanc fun _ p _ hor hD => hor.elim (fun h => hnd (h ▸ I.sub p hD)) fun hb => hnd (I.sub i (hW p hD i hb))
 have hst' : stepS (r.s i) c f H = .ok v H1 := by rw [stepS_agree (hviewf.agree hviewj)]; exact hst
 have hlt : ∀ j ∈ ep.ls ++ rest'.flatMap Ep.order, j < r.ss.length := fun j hj => I.mid.lt j (by rw [List.flatMap_cons, horder]; exact List.mem_cons_of_mem _ hj)
 have hne : ∀ j ∈ ep.ls ++ rest'.flatMap Ep.order, j ≠ i := fun j hj hh => hord2.out j hj (.inr hh)
 have hVF : VF r F i v := by
  intro t ht
  rw [runR_slot hrun, slot_putD, if_pos ht]
  intro s hs hsa hsd
  have hj : ∃ j, j ∈ ep.ls ++ rest'.flatMap Ep.order ∧ s = r.s j := by
   rcases List.mem_append.1 hs with hs | hs
   · obtain ⟨j, hj, rfl⟩ := List.mem_map.1 hs
     exact ⟨j, List.mem_append_left _ hj, rfl⟩
   · rcases List.mem_append.1 hs with hs | hs
     · obtain ⟨j, _, rfl⟩ := List.mem_map.1 hs
       cases hsa
     · obtain ⟨j, hj, rfl⟩ := out_once hs hsa
       exact ⟨j, List.mem_append_right _ hj, rfl⟩
  obtain ⟨j, hj, rfl⟩ := hj
  exact hne j hj (hP.once j i t (hlt j hj) hlen hsd ht)
 obtain ⟨f2, H2, nm2, mid2, hgrew, hls, hck, hnm, hinj⟩ := epoch_rest hP.use hP.once (fun i _ => hP.again i) (dn := fun j => dn j ∨ j = i) (ld := ld) (ls := ep.ls) (ck := ep.ck) (last := some i) (rest := rest') hrun
  (I.mid.slots.step hlen hVF) (I.mid.whole.step hord1) h5 hord2 (fun e' he' => I.mid.isSome e' (.tail _ he')) (fun j hj => hj.elim (I.mid.lights j) fun hh => .inr (hh ▸ (h1 i hep).1)) (fun j hj => .inl (I.mid.ldn j hj)) hlt (fun j hj => (h2 j hj).1) h4
  (fun j hj => hj.elim (I.mid.lt2 j) fun hh => hh ▸ hlen)
 have hgr : GR C e := hg.mono I.ext.le
 have hst2 := hst'
 rw [hsi] at hst2
 refine stepS_sim hc hi hst2 hgr I.fn I.ext.hr fun e' v' w' hext hvr => ?_
 have hlsn : ∀ j ∈ ep.ls, ¬ dn j := fun j hj hd => hord2.out j (List.mem_append_left _ hj) (.inl hd)
 refine ⟨_, _, _, _, f2, H2, fun j => if j ∈ ep.ls then nm2 j else nm j, e', (putD (r.s i).d v f).out, ⟨mid2, (I.ext.trans hext).grow hgrew, ?_, I.slots.step hlen hVF, ?_, ?_, ?_, ?_, ?_⟩, ?_⟩
 · obtain ⟨hd1, hd2⟩ := (by rw [hsi]; exact of_d hi hst2 : (r.s i).d = o.dst.map path ∧ ∀ t, o.dst = some t → t < n)
   rw [hd1]; exact (I.fn.mono hext.le).putO hd2 hvr
 · rintro j (h | rfl)
   · exact .inl (.inl (I.sub j h))
   · exact .inl (.inr rfl)
 · rintro j ((h | rfl) | h) hk
   · exact .inl (I.deeds j h hk)
   · exact .inr rfl
   · exact absurd hk (h2 j h).1
 · rintro j ((hj | hj) | hj) hjn
   · have hjl : j ∉ ep.ls := fun h => hlsn j h hj
     have hjD : ¬ D j := fun h => hjn (.inl h)
     have hcase := I.facts j hj hjD
     by_cases hk1 : r.k j = 1
     · rcases I.mid.lights j hj with hld | hk3
       · rcases h3 j (.inl hld) hk1 with ⟨d, hd, hb⟩ | hc
         · rw [hep] at hd; cases hd
           exact absurd (hanc j hb) hjD
         · exact hck j hc _
       · rw [hk1] at hk3; cases hk3
     · obtain ⟨u, hu, hcase⟩ := hcase
       refine ⟨u, hu, ?_⟩
       simp only [if_neg hjl]
       rcases hcase with hcase | hcase | ⟨hk, ht, ht', hx, hmade⟩
       · exact .inl hcase
       · exact absurd hcase.1 hk1
       · refine .inr (.inr ⟨hk, ht, ht', hx, hmade.imp id ?_⟩)
         rintro ⟨B, hB, hnmj, hlt', hget⟩
         obtain ⟨n1, n2, n3⟩ := I.names j _ hjD hnmj
         refine ⟨B, hB, hnmj, Nat.lt_of_lt_of_le hlt' (Nat.le_trans hext.n hgrew.1), ?_⟩
         rw [hgrew.2.1 _ (Nat.lt_of_lt_of_le hlt' hext.n), hext.ours _ hlt' n3, hget]
   · exact absurd (.inr hj) hjn
   · have hbase : LFact r F f0 c H2 nm2 j := by
      by_cases hcond : r.k j = 1 → ∀ q ∈ ep.ls, r.k q ≠ 2
      · exact hls j hj hcond
      · have hk1 : r.k j = 1 := Classical.byContradiction fun h => hcond fun h' => absurd h' h
        have hmk : ∃ q ∈ ep.ls, r.k q = 2 := Classical.byContradiction fun h => hcond fun _ q hq hq2 => h ⟨q, hq, hq2⟩
        rcases h3 j (.inr ⟨hj, hmk⟩) hk1 with ⟨d, hd, hb⟩ | hc
        · rw [hep] at hd; cases hd
          exact absurd (I.sub j (hanc j hb)) (hlsn j hj)
        · exact hck j hc _
     exact hbase.nm (if_pos hj)
 · intro j b hjn hb
   have hb : (if j ∈ ep.ls then nm2 j else nm j) = some b := hb
   by_cases hj : j ∈ ep.ls
   · rw [if_pos hj] at hb
     obtain ⟨_, k1, k2⟩ := hnm j b hb
     refine ⟨Nat.le_trans I.ext.n (Nat.le_trans hext.n k1), k2, fun g => ?_⟩
     cases hx : e' b g with
     | none => rfl
     | some y => have := (hext.hr.lt b g y hx).2; omega
   · rw [if_neg hj] at hb
     obtain ⟨n1, n2, n3⟩ := I.names j b (fun h => hjn (.inl h)) hb
     exact ⟨n1, Nat.lt_of_lt_of_le n2 (Nat.le_trans hext.n hgrew.1), hext.none n2 n3⟩
 · intro j q b hjn hqn hb hb'
   have hb : (if j ∈ ep.ls then nm2 j else nm j) = some b := hb
   have hb' : (if q ∈ ep.ls then nm2 q else nm q) = some b := hb'
   by_cases hj : j ∈ ep.ls
   · rw [if_pos hj] at hb
     by_cases hq : q ∈ ep.ls
     · rw [if_pos hq] at hb'; exact hinj j q b hb hb'
     · rw [if_neg hq] at hb'
       have k1 := (hnm j b hb).2.1
       have k2 := (I.names q b (fun h => hqn (.inl h)) hb').2.1
       have := hext.n
       omega
   · rw [if_neg hj] at hb
     by_cases hq : q ∈ ep.ls
     · rw [if_pos hq] at hb'
       have k1 := (hnm q b hb').2.1
       have k2 := (I.names j b (fun h => hjn (.inl h)) hb).2.1
       have := hext.n
       omega
     · rw [if_neg hq] at hb'
       exact I.inj j q b (fun h => hjn (.inl h)) (fun h => hqn (.inl h)) hb hb'
 · exact Z.keep hext.le (fun b g x hx => (hext.blocks b g x hx).imp (fun ⟨g0, x0, k1, k2⟩ => ⟨b, g0, x0, k1, k2⟩) id) (fun q hq hno => hext.frame q hq fun b g x hx hxr => absurd hxr (hno b g x hx)) hext.size (put_other hdst) (fun h => h.resolve_right (fun hh => hi0 hh.symm)) fun j hj => ⟨fun h => h.resolve_right (fun hh => hni (hh ▸ hj)), .inl⟩
theorem make_stepZ (I : Inv ds r F f0 c He n e0 h0 w0 D a w dn ld last' rest fj H nm e f) {o : Oper} {t : TypeId} (hi : ops[0]? = some o) (ho : o.op = .makeMap t none) (hsl : slotOK n o = some t0) (hs0 : r.s 0 = ⟨.mv (.c anyA), none, some (path t0), false⟩) (hlen : 0 < r.ss.length) (hd : dn 0) (_hn : ¬ D 0)
 (hv : slot F t0 = anyA) (hu : ∃ kt el, C.P.underlying t = some (.map kt el)) (hins : ∀ i, D i → ¬ IsIns C t0 last ops i) (hi0 : ¬ IsIns C t0 last ops 0) : owOp C.P ops Q 0 (InvZ C ds r F f0 c He n e0 h0 w0 t0 last ops fun j => D j ∨ j = 0) a w := by
 obtain ⟨g1, g2, g3⟩ := slotOK_spec hsl
 obtain ⟨kt, el, hu⟩ := hu
 refine owOp_val (v := .map (some w.heap.size)) (w' := w.alloc (.map #[] 0)) hi g1 (by simp [execOp, ho, Instr.makeMap]) ?_
 have hext : Ext e0 h0 w0 e H (w.alloc (.map #[] 0)) := I.ext.aside (by simp) (fun q hq _ => by show (w.heap.push (Obj.map #[] 0))[q]? = _; rw [Array.getElem?_push, if_neg (by omega)]) rfl rfl
 refine aside_stepZ I hd hlen (v := anyA) (fun q hq => ?_) hext (by rw [hs0, g2]; rfl) (fun q hq => by rw [g2] at hq; cases hq; exact g3) (.any _) fun _ => ?_
 · rw [hs0] at hq
   have : q = t0 := (path_inj _ _ (Option.some.inj hq)).symm
   rw [this]; exact hv
 · refine ⟨w.heap.size, [], ?_, I.ext.size, by simp, fun b g x hx hr => ?_, ?_, .nil, fun i => ⟨fun h => (by cases h), ?_⟩⟩
   · rw [g2]
     have : t0 < a.tmps.size := Nat.lt_of_lt_of_le g3 I.fn.2.1
     simp [Act.put, this]
   · have := (I.ext.hr.lt b g x hx).1
     omega
   · rw [heap_alloc_new]
     exact .map [] #[] 0 [] rfl rfl .nil (by simp) .nil .nil (Nat.le_refl _)
   · rintro ⟨h1 | h1, h2⟩
     · exact absurd h2 (hins i h1)
     · rw [h1] at h2; exact absurd h2 hi0
theorem ins_stepZ (hg : GR C e0) (I : Inv ds r F f0 c He n e0 h0 w0 D a w dn ld last' rest fj H nm e f) (Z : Zm C t0 last ops F w0 D e a w) {i : Nat} {o : Oper} {q : AV × Sx} (hi : ops[i]? = some o) (hq : insOf C t0 o = some q) (hil : i < last) (hF : InsF C t0 o q) (hsi : r.s i = noCS) (hlen : i < r.ss.length) (hd : dn i) (hn : ¬ D i) (h0D : D 0)
 (hval : ev f q.2 = ev F q.2) (hkeys : ∀ j oj qj, j ≠ i → j < last → ops[j]? = some oj → insOf C t0 oj = some qj → keyEq q.1 qj.1 = some false) : owOp C.P ops Q i (InvZ C ds r F f0 c He n e0 h0 w0 t0 last ops fun j => D j ∨ j = i) a w := by
 obtain ⟨rm, P, z1, z2, z3, z4, z5, z6, z7⟩ := Z h0D
 obtain ⟨t, k, z, kd, f1, f2, f3, f4, f5, f6, f7⟩ := hF
 obtain ⟨kt, el, d, u1, u2, kdd⟩ := keyKd_spec f6
 have hgr : GR C e := hg.mono I.ext.le
 have vk : VR e q.1 k := conv_VR e k q.1 f4
 have vv := sx_VR hgr I.fn.1 f5
 obtain ⟨kv, kp⟩ := keyIs_spec vk kdd f7
 have hki : kvAt C t0 ops F i = (q.1, ev F q.2) := by unfold kvAt; rw [hi]; simp only [Option.bind_some, hq]
 generalize hob : w.heap[rm]? = ob at z5
 cases z5 with
 | cells cc tt fr qq => exact qq.cells.elim
 | sit s pos hh _ => cases hh
 | iter _ _ _ _ hh _ => cases hh
 | lp q0 fn0 tm0 df0 hh => cases hh
 | busy o0 hh => cases hh
 | dfr hh => cases hh
 | map es es' clock l hes _ q1 q2 q3 q4 mb =>
  cases hes
  have hfk : findK q.1 (P.map (kvAt C t0 ops F)) 0 = some none := by
   refine Go.Ab.findK_no 0 fun x hx => ?_
   obtain ⟨j, hj, rfl⟩ := List.mem_map.1 hx
   obtain ⟨hj1, hj2, oj, qj, hj3, hj4⟩ := (z7 j).1 hj
   have : kvAt C t0 ops F j = (qj.1, ev F qj.2) := by unfold kvAt; rw [hj3]; simp only [Option.bind_some, hj4]
   rw [this]
   exact hkeys j oj qj (fun hh => hn (hh ▸ hj1)) hj2 hj3 hj4
  rcases find_sim q1 q2 q3 kv hfk with ⟨_, g1, g2, _⟩ | ⟨_, _, _, _, hh, _⟩
  case inr => cases hh
  have m1 : a.eval (.tmp t0) = .map (some rm) := by rw [← z1]; simp [Act.eval]
  have hk : a.eval (.const k) = k := rfl
  have hrun : (execOp a.eval o).run C.P w = .ok .skip { w with heap := w.heap.setIfInBounds rm (.map (es'.push ⟨k, a.eval z, clock⟩) (clock + 1)) } := by
   simp only [execOp, f1, Instr.mapUpdate, Sem.run_bind, run_und u1, m1, hk, MapKept.run_getObj_map hob, run_checkKeyA u2 kdd, run_findKey u2 g1, Result.andThen_ok, MapKept.run_setObj_map _ hob, Sem.run_pure]
  unfold owOp
  simp only [hi]
  rw [if_pos (by simp [Region.wanted, f2])]
  refine .inl (wp_skp hrun ?_)
  have hne : ∀ q', q' ≠ rm → (w.heap.setIfInBounds rm (.map (es'.push ⟨k, a.eval z, clock⟩) (clock + 1)))[q']? = w.heap[q']? := fun q' hq' => Array.getElem?_setIfInBounds_ne (Ne.symm hq')
  have hext : Ext e0 h0 w0 e H { w with heap := w.heap.setIfInBounds rm (.map (es'.push ⟨k, a.eval z, clock⟩) (clock + 1)) } := I.ext.aside (by show w.heap.size ≤ (w.heap.setIfInBounds rm _).size; simp) (fun q' hq' hor => hne q' (by
   rcases hor with h1 | ⟨b, g, y, h1, h2⟩
   · omega
   · exact fun hh => z4 b g y h1 (h2.trans hh))) rfl rfl
  refine aside_stepZ I hd hlen (v := undefA) (fun t' ht' => by rw [hsi] at ht'; cases ht') hext (by rw [hsi, f3]; rfl) (fun t' ht' => by rw [f3] at ht'; cases ht') (undef_VR e) fun _ => ?_
  refine ⟨rm, P ++ [i], ?_, z2, by show rm < (w.heap.setIfInBounds rm _).size; simpa using z3, z4, ?_, ?_, fun j => ?_⟩
  · rw [f3]; exact z1
  · have hob2 : (w.heap.setIfInBounds rm (.map (es'.push ⟨k, a.eval z, clock⟩) (clock + 1)))[rm]? = some (.map (es'.push ⟨k, a.eval z, clock⟩) (clock + 1)) := by simp [z3]
    show BR e _ 0 _ (w.heap.setIfInBounds rm _)[rm]?
    rw [hob2, List.map_append, List.map_cons, List.map_nil, hki, ← hval]
    exact .map _ _ _ (l ++ [(k, a.eval z)]) rfl rfl (q1.push vk vv kp) (by simpa using q2.append_right _) (keysOk_push q3 g2) (q4.push _ _) mb
  · rw [List.nodup_append]
    refine ⟨z6, by simp, fun x hx y hy => ?_⟩
    simp at hy
    subst hy
    exact fun hh => hn ((z7 y).1 (hh ▸ hx)).1
  · rw [List.mem_append, List.mem_singleton, z7 j]
    constructor
    · rintro (⟨h1, h2⟩ | rfl)
      · exact ⟨.inl h1, h2⟩
      · exact ⟨.inr rfl, hil, o, q, hi, hq⟩
    · rintro ⟨h1 | h1, h2⟩
      · exact .inl ⟨h1, h2⟩
      · exact .inr h1
end
end Go.Ab
namespace Go.Ab
variable [Val]
open Go
variable {C : Cx} {ds : List Deferred}
theorem stepS_mk {n : Nat} {ops : List Oper} {o : Oper} {c : CallT} {f : Fr} {h h' : Hp} {v : AV} (hg : o.guard = none) (hx : stepS (mkS C n ops o) c f h = .ok v h') : xO (mk C o) c f h = .ok v h' ∧ (mkS C n ops o).d = o.dst.map path ∧ (∀ t, o.dst = some t → t < n) := by
 rcases mkS_spec (C := C) (n := n) (ops := ops) (o := o) with ⟨g, g1, g2, g3⟩ | ⟨q, g2⟩
 · have hgn : g = none := by
    unfold mkGuard at g1
    rw [hg] at g1
    cases g1; rfl
   subst hgn
   rw [g2] at hx
   exact ⟨hx, by rw [g2], g3⟩
 · rw [g2] at hx
   exact (no_ok (w := q) hx).elim
theorem ins_tail {n t0 : Nat} {ops : List Oper} {c : CallT} {F1 F2 : Fr} {He2 : Hp} {N : Nat} (hN : slot F1 t0 = .map N) {tl : List CS} : ∀ (l : List Oper) (H : Hp) (es : Es), (∀ o ∈ l, ∃ q, insOf C t0 o = some q) → H.get N = some (.map es) → (∀ o ∈ l, ∀ q, insOf C t0 o = some q → ∀ x ∈ (es : List (AV × AV)), keyEq q.1 x.1 = some false) →
 (l.filterMap (insOf C t0)).Pairwise (fun a b => keyEq a.1 b.1 = some false ∧ keyEq b.1 a.1 = some false) → runR (mkSeq C n ops l ++ tl) c F1 H = .norm F2 He2 →
 ∃ H', runR tl c F1 H' = .norm F2 He2 ∧ H'.get N = some (.map (es ++ (l.filterMap (insOf C t0)).map fun q => (q.1, ev F1 q.2))) ∧ (∀ b, b ≠ N → H'.get b = H.get b) ∧ H'.n = H.n ∧ H'.lk = H.lk ∧ ∀ o ∈ l, ∀ q, insOf C t0 o = some q → InsF C t0 o q
 | [], H, es, _, hget, _, _, hx => ⟨H, hx, by simpa using hget, fun _ _ => rfl, rfl, rfl, fun o ho => by cases ho⟩
 | o :: l, H, es, hall, hget, hk, hpw, hx => by
  obtain ⟨q, hq⟩ := hall o (.head _)
  obtain ⟨t, k, z, i1, i2, i3, i4, i5⟩ := insOf_spec hq
  have hag : (mkS C n ops o).again = false := by
   rcases mkS_spec (C := C) (n := n) (ops := ops) (o := o) with ⟨g, g1, g2, _⟩ | ⟨q, g2⟩ <;> rw [g2]
  have hx : runR (mkS C n ops o :: (mkSeq C n ops l ++ tl)) c F1 H = .norm F2 He2 := hx
  obtain ⟨v, H1, hst, hx⟩ := runR_once hag hx
  obtain ⟨hxo, hd, _⟩ := stepS_mk i2 hst
  rw [hd, i3] at hx
  have hx : runR (mkSeq C n ops l ++ tl) c F1 H1 = .norm F2 He2 := hx
  simp only [mk, i1] at hxo
  obtain ⟨co, h1, hxo⟩ := orBad_ok hxo
  have hs1 : sx C (.tmp t0) = some (.t (path t0)) := rfl
  have hs2 : sx C (.const k) = some (.c q.1) := by
   show (conv k).map Sx.c = _
   rw [i4]; rfl
  rw [hs1, hs2, i5] at h1
  cases hkd : keyKd C t with
  | none => rw [hkd] at h1; cases h1
  | some kd =>
   rw [hkd] at h1
   cases h1
   have hxo : (ev F1 (.t (path t0))).onMap R2.no (.no "mapUpdate: nil") (fun r => H.onMap r (.no "mapUpdate: no map") fun es => muIn kd q.1 (ev F1 q.2) es r H) = .ok v H1 := hxo
   have hev : ev F1 (.t (path t0)) = .map N := hN
   rw [hev] at hxo
   have hxo : H.onMap N (.no "mapUpdate: no map") (fun es => muIn kd q.1 (ev F1 q.2) es N H) = .ok v H1 := hxo
   unfold Hp.onMap at hxo
   rw [hget] at hxo
   have hxo : muIn kd q.1 (ev F1 q.2) es N H = .ok v H1 := hxo
   unfold muIn at hxo
   rw [force_eq, force_eq] at hxo
   obtain ⟨hk1, hxo⟩ := ifbR hxo
   rw [findK_no 0 (hk o (.head _) q hq)] at hxo
   have hxo : (appS es [(q.1, ev F1 q.2)]).bd (fun es => R2.put H N (.map es) undefA) = .ok v H1 := hxo
   rw [appS_eq, Bx.bd_mk] at hxo
   obtain ⟨rfl, rfl, _⟩ := R2.put_ok hxo
   have hget1 : Hp.get ⟨setT (.map (es ++ [(q.1, ev F1 q.2)])) (path N) H.t, H.n, H.lk⟩ N = some (.map (es ++ [(q.1, ev F1 q.2)])) := by rw [Hp.get_set _ _ H.n, if_pos rfl]
   have hfm : (o :: l).filterMap (insOf C t0) = q :: l.filterMap (insOf C t0) := by rw [List.filterMap_cons, hq]
   rw [hfm] at hpw
   obtain ⟨hp1, hp2⟩ := List.pairwise_cons.1 hpw
   obtain ⟨H', r1, r2, r3, r4, r5, r6⟩ := ins_tail hN l _ _ (fun o' ho' => hall o' (.tail _ ho')) hget1 (fun o' ho' q' hq' x hx' => by
    rcases List.mem_append.1 hx' with hx' | hx'
    · exact hk o' (.tail _ ho') q' hq' x hx'
    · simp at hx'
      subst hx'
      exact (hp1 q' (List.mem_filterMap.2 ⟨o', ho', hq'⟩)).2) hp2 hx
   refine ⟨H', r1, ?_, fun b hb => ?_, r4, r5, fun o' ho' q' hq' => ?_⟩
   · rw [r2, hfm, List.map_cons, List.append_assoc]; rfl
   · rw [r3 b hb, Hp.get_set _ _ H.n, if_neg hb]
   · rcases List.mem_cons.1 ho' with rfl | ho'
     · rw [hq] at hq'; cases hq'
       exact ⟨t, k, z, kd, i1, i2, i3, i4, i5, hkd, hk1⟩
     · exact r6 o' ho' q' hq'
section
variable {n : Nat} {ops : Array Oper} {c : CallT} {F2 : Fr} {He2 : Hp} {e0 : Emb} {h0 : Hp} {w0 : World} {Q : Exit → Act → World → Prop}
theorem chain_sim (hc : CallOK C c) (hg0 : GR C e0) (hne : ∀ listed : Array Bool, listed.size = ops.size → (∃ j, j < ops.size ∧ ¬ Lst listed j) → Region.ready .any ops listed ≠ []) (hq : ∀ e a w, Ext e0 h0 w0 e He2 w → FN ds n e F2 a → Q .normal a w) : ∀ (l : List Oper) (i : Nat), (∀ k o, l[k]? = some o → ops[i + k]? = some o) → i + l.length = ops.size → (∀ j, i ≤ j → j < ops.size → ∀ k, k < j → ((Rgn.of C n ops).a j).testBit k = true) →
 ∀ (fuel : Nat) (listed : Array Bool) (e : Emb) (f : Fr) (h : Hp) (a : Act) (w : World), listed.size = ops.size → (∀ j, j < ops.size → (Lst listed j ↔ j < i)) → Closed ops (Lst listed) → listed.toList.count false ≤ fuel → Ext e0 h0 w0 e h w → FN ds n e f a → runR (mkSeq C n ops.toList l) c f h = .norm F2 He2 → owAny C.P .any ops Q fuel listed a w
 | [], i, _, hi, _, fuel, listed, e, f, h, a, w, hsz, hl, hcl, hf, hext, hfn, hx => by
  cases hx
  have hr : Region.ready .any ops listed = [] := by
   refine List.eq_nil_iff_forall_not_mem.2 fun j hj => ?_
   obtain ⟨h1, o, ho, _⟩ := mem_ready.1 hj
   have hjl : j < ops.size := (Array.getElem?_eq_some_iff.1 ho).1
   exact (Lst.not (by omega)).2 h1 ((hl j hjl).2 (by simp at hi; omega))
  exact owAny_done hr (hq e a w hext hfn) fuel
 | o :: l, i, ho, hi, han, fuel, listed, e, f, h, a, w, hsz, hl, hcl, hf, hext, hfn, hx => by
  simp only [List.length_cons] at hi
  have hil : i < ops.size := by omega
  have hoi : ops[i]? = some o := by simpa using ho 0 o rfl
  have hun : listed.getD i true = false := (Lst.not (by omega)).1 (fun hh => by have := (hl i hil).1 hh; omega)
  have hcnt := count_listed (by omega) hun
  cases fuel with
  | zero => omega
  | succ fuel =>
   refine ⟨fun hr => absurd hr (hne listed hsz ⟨i, hil, (Lst.not (by omega)).2 hun⟩), fun j hj => ?_⟩
   obtain ⟨j1, oj, hoj, j2⟩ := mem_ready.1 hj
   have hjl : j < ops.size := (Array.getElem?_eq_some_iff.1 hoj).1
   have hji : j = i := by
    have h1 : ¬ j < i := fun hh => (Lst.not (by omega)).2 j1 ((hl j hjl).2 hh)
    refine Classical.byContradiction fun hne' => ?_
    have hdep := of_a (han j (by omega) hjl i (by omega))
    have := hcl.ahead hdep fun o' d ho' hd hb => by
     rw [hoj] at ho'; cases ho'
     exact j2 d hd hb
    have := (hl i hil).1 this
    omega
   subst hji
   have hag : (mkS C n ops.toList o).again = false := by rw [← of_s (C := C) (n := n) hoi]; exact of_again j
   obtain ⟨v, h2, hst, hx⟩ := runR_once hag hx
   have hst' : stepS ((Rgn.of C n ops).s j) c f h = .ok v h2 := by rw [of_s hoi]; exact hst
   obtain ⟨hd1, hd2⟩ := of_d hoi hst'
   rw [of_s hoi] at hd1
   refine stepS_sim hc hoi hst' (hg0.mono hext.le) hfn hext.hr fun e' v' w' hx2 hvr => ?_
   refine chain_sim hc hg0 hne hq l (j + 1) (fun k o' hk => ?_) (by omega) (fun k hk => han k (by omega)) fuel _ e' _ h2 _ w' (by simpa using hsz) (fun k hk => ?_) ?_ (by omega) (hext.trans hx2) ?_ hx
   · have := ho (k + 1) o' (by simpa using hk)
     rw [show j + 1 + k = j + (k + 1) by omega]; exact this
   · rw [Lst.set (by omega), hl k hk]; omega
   · intro k o' d hk ho' hd hb
     refine (Lst.set (by omega) _).2 (.inl ?_)
     rcases (Lst.set (by omega) k).1 hk with hk | rfl
     · exact hcl k o' d hk ho' hd hb
     · rw [hoj] at ho'; cases ho'
       exact j2 d hd hb
   · rw [hd1]; exact (hfn.mono hx2.le).putO hd2 hvr
end
end Go.Ab
namespace Go.Ab
variable [Val]
open Go
variable {C : Cx} {ds : List Deferred}
theorem next_deed {r : Rgn} {F f0 : Fr} {c : CallT} {He : Hp} {n : Nat} {e0 : Emb} {h0 : Hp} {w0 : World} {D : Nat → Prop} {a : Act} {w : World} {dn : Nat → Prop} {ld : List Nat} {last' : Option Nat} {rest : List Ep} {fj : Fr} {H : Hp} {nm : Nat → Option Nat} {e : Emb} {f : Fr}
 (I : Inv ds r F f0 c He n e0 h0 w0 D a w dn ld last' rest fj H nm e f) {i : Nat} (hlen : i < r.ss.length) (hnd : ¬ dn i) (hanc : ∀ p, (r.a i).testBit p = true → D p) : r.k i = 3 := by
 have hmem : i ∈ rest.flatMap Ep.order := (I.mid.order.all i hlen).resolve_left hnd
 have hout := I.mid.order.out
 cases hr : rest with
 | nil => rw [hr] at hmem; cases hmem
 | cons ep rest' =>
  rw [hr] at hmem hout
  obtain ⟨d, hd⟩ := Option.isSome_iff_exists.1 (I.mid.isSome ep (by rw [hr]; exact .head _))
  have heps := I.mid.eps
  rw [hr] at heps
  obtain ⟨h1, h2, _, _, h5⟩ := heps
  have hno : ∀ x, x ∈ (ep :: rest').flatMap Ep.order → ¬ (r.a i).testBit x = true := fun x hx hb => hout x hx (I.sub x (hanc x hb))
  have hdm : d ∈ (ep :: rest').flatMap Ep.order := by
   rw [List.flatMap_cons]
   refine List.mem_append_left _ ?_
   unfold Ep.order; rw [hd]; exact .head _
  by_cases hid : i = d
  · rw [hid]; exact (h1 d hd).1
  · exfalso
    rw [List.flatMap_cons, List.mem_append] at hmem
    rcases hmem with hmem | hmem
    · unfold Ep.order at hmem
      rw [hd] at hmem
      have hmem : i ∈ d :: ep.ls := hmem
      rcases List.mem_cons.1 hmem with hh | hh
      · exact hid hh
      · exact hno d hdm ((h2 i hh).2 d hd)
    · rw [hd] at h5
      obtain ⟨x, hx, hx2⟩ := eps_behind h5 (fun e' he' => I.mid.isSome e' (by rw [hr]; exact .tail _ he')) i hmem
      rcases hx with rfl | hx
      · exact hno x hdm hx2
      · exact hno x (by rw [List.flatMap_cons]; exact List.mem_append_right _ hx) hx2
theorem runR_badA {q : String} {c : CallT} : ∀ {l : List CS} {f f' : Fr} {h h' : Hp}, runR l c f h = .norm f' h' → ⟨.bad q, none, none, false⟩ ∉ l := runR_bad
theorem insOK_spec {r : Rgn} {t0 : Nat} {o : Oper} {q : AV × Sx} (hq : insOf C t0 o = some q) (l : List Oper) : ∀ (k : Nat), insOK C r t0 k l = true → ∀ (i : Nat), l[i]? = some o → k + i ≠ 0 ∧ (r.a (k + i)).testBit 0 = true ∧ q.2.us.testBit t0 = false ∧ within (Nat.land q.2.us (r.dsts (bits r.all))) (r.dsts (r.a (k + i))) = true := by
 induction l with
 | nil => intro k _ i hi; simp at hi
 | cons o' l ih =>
  intro k h i hi
  have h : and (match insOf C t0 o' with
   | some q => and (not (Nat.beq k 0)) (and ((r.a k).testBit 0) (and (not (q.2.us.testBit t0)) (within (Nat.land q.2.us (r.dsts (bits r.all))) (r.dsts (r.a k)))))
   | none => true) (insOK C r t0 (k + 1) l) = true := h
  obtain ⟨h1, h2⟩ := Bool.and_eq_true_iff.1 h
  cases i with
  | zero =>
   have hi : o' = o := by simpa using hi
   rw [hi, hq] at h1
   simp only [Bool.and_eq_true, Bool.not_eq_true'] at h1
   obtain ⟨k1, k2, k3, k4⟩ := h1
   refine ⟨fun hh => ?_, k2, k3, k4⟩
   rw [show k = 0 by omega] at k1
   cases k1
  | succ i =>
   have := ih (k + 1) h2 i (by simpa using hi)
   rw [show k + (i + 1) = k + 1 + i by omega]; exact this
structure LitP (C : Cx) (n t0 last : Nat) (ops : Array Oper) (r : Rgn) (o0 : Oper) (t : TypeId) (F f0 : Fr) (c : CallT) : Prop where
 hr : r = Rgn.lit C n ops t0 last
 P : Plan r
 one : 1 ≤ last
 le : last ≤ ops.size
 tail : ∀ i, i < ops.size → last ≤ i → ∀ k, k < i → (r.a i).testBit k = true
 zero : ops[0]? = some o0
 zop : o0.op = .makeMap t none
 zsl : slotOK n o0 = some t0
 mapT : ∃ kt el, C.P.underlying t = some (.map kt el)
 ins : ∀ (i : Nat) (o : Oper) (q : AV × Sx), i < last → ops[i]? = some o → insOf C t0 o = some q → i ≠ 0 ∧ (r.a i).testBit 0 = true ∧ q.2.us.testBit t0 = false ∧ within (Nat.land q.2.us (r.dsts (bits r.all))) (r.dsts (r.a i)) = true ∧ InsF C t0 o q
 keys : ∀ (i j : Nat) (o o' : Oper) (q q' : AV × Sx), i ≠ j → i < last → j < last → ops[i]? = some o → ops[j]? = some o' → insOf C t0 o = some q → insOf C t0 o' = some q' → keyEq q.1 q'.1 = some false
 good : ∀ (i : Nat) (o : Oper), ops[i]? = some o → i ≠ 0 → i < last → insOf C t0 o = none → (r.s i).d = o.dst.map path
 hF0 : ∀ q, (∀ i, i < r.ss.length → (r.s i).d ≠ some (path q)) → slot F q = slot f0 q
 ready : ∀ listed : Array Bool, listed.size = ops.size → (∃ j, j < ops.size ∧ ¬ Lst listed j) → Region.ready .any ops listed ≠ []
section
variable {n t0 last : Nat} {ops : Array Oper} {r : Rgn} {o0 : Oper} {t : TypeId} {F f0 : Fr} {c : CallT} {He : Hp} {e0 : Emb} {h0 : Hp} {w0 : World} {Q : Exit → Act → World → Prop}
theorem LitP.zeroIns (L : LitP C n t0 last ops r o0 t F f0 c) : insOf C t0 o0 = none := by
 cases h : insOf C t0 o0 with
 | none => rfl
 | some q =>
  obtain ⟨t', k, z, h1, _⟩ := insOf_spec h
  rw [L.zop] at h1; cases h1
theorem LitP.s0 (L : LitP C n t0 last ops r o0 t F f0 c) : r.s 0 = ⟨.mv (.c anyA), none, some (path t0), false⟩ := by
 rw [L.hr, lit_s L.zero]; rfl
theorem LitP.len (L : LitP C n t0 last ops r o0 t F f0 c) : r.ss.length = ops.size := by rw [L.hr]; exact lit_length
theorem LitP.a (L : LitP C n t0 last ops r o0 t F f0 c) (i : Nat) : r.a i = (Rgn.of C n ops).a i := by rw [L.hr]; rfl
theorem lit_any (L : LitP C n t0 last ops r o0 t F f0 c) (hg : GR C e0) (hc : CallOK C c)
 (hconv : ∀ (fuel : Nat) (listed : Array Bool) (a : Act) (w : World), listed.size = ops.size → listed.toList.count false ≤ fuel → Closed ops (Lst listed) → (∀ i, i < last → Lst listed i) → (∀ i, last ≤ i → ¬ Lst listed i) → InvZ C ds r F f0 c He n e0 h0 w0 t0 last ops (Lst listed) a w → owAny C.P .any ops Q fuel listed a w) :
 ∀ (fuel : Nat) (listed : Array Bool) (a : Act) (w : World), listed.size = ops.size → listed.toList.count false ≤ fuel → Closed ops (Lst listed) → (∀ i, last ≤ i → ¬ Lst listed i) → InvZ C ds r F f0 c He n e0 h0 w0 t0 last ops (Lst listed) a w → owAny C.P .any ops Q fuel listed a w := by
 intro fuel
 induction fuel with
 | zero =>
  intro listed a w hsz hf hcl hnl I
  refine hconv 0 listed a w hsz hf hcl (fun i hi => Classical.byContradiction fun hn => ?_) hnl I
  have hil : i < listed.size := by have := L.le; omega
  have := count_listed hil ((Lst.not hil).1 hn)
  omega
 | succ fuel ih =>
  intro listed a w hsz hf hcl hnl I
  by_cases hall : ∀ i, i < last → Lst listed i
  · exact hconv (fuel + 1) listed a w hsz hf hcl hall hnl I
  · obtain ⟨x, hx1, hx2⟩ : ∃ x, x < last ∧ ¬ Lst listed x := Classical.byContradiction fun hn => hall fun i hi => Classical.byContradiction fun h => hn ⟨i, hi, h⟩
    refine ⟨fun hr => absurd hr (L.ready listed hsz ⟨x, by have := L.le; omega, hx2⟩), fun i hi => ?_⟩
    obtain ⟨h1, o, ho, h2⟩ := mem_ready.1 hi
    have hio : i < ops.size := (Array.getElem?_eq_some_iff.1 ho).1
    have hil : i < listed.size := by omega
    have hn : ¬ Lst listed i := (Lst.not hil).2 h1
    have hanc : ∀ p, (r.a i).testBit p = true → Lst listed p := fun p hp => hcl.ahead (of_a (C := C) (n := n) (by rw [← L.a]; exact hp)) fun o' d ho' hd hb => by
     rw [ho] at ho'; cases ho'
     exact h2 d hd hb
    have hlast : i < last := Classical.byContradiction fun hge => hx2 (hanc x (L.tail i hio (by omega) x (by omega)))
    have hW : Whole r (Lst listed) := fun p hp q hq => hcl.dep (of_a (C := C) (n := n) (by rw [← L.a]; exact hq)) hp
    have hcl' : Closed ops (Lst (listed.setIfInBounds i true)) := fun j o' d hj ho' hd hb => by
     refine (Lst.set hil _).2 (.inl ?_)
     rcases (Lst.set hil j).1 hj with hj | rfl
     · exact hcl j o' d hj ho' hd hb
     · rw [ho] at ho'; cases ho'
       exact h2 d hd hb
    have hK : ∀ a' w', InvZ C ds r F f0 c He n e0 h0 w0 t0 last ops (fun j => Lst listed j ∨ j = i) a' w' → owAny C.P .any ops Q fuel (listed.setIfInBounds i true) a' w' := fun a' w' I' => by
     refine ih _ a' w' (by simpa using hsz) ?_ hcl' (fun j hj hh => ?_) ?_
     · have := count_listed hil h1
       omega
     · rcases (Lst.set hil j).1 hh with hh | hh
       · exact hnl j hj hh
       · omega
     · have : Lst (listed.setIfInBounds i true) = fun j => Lst listed j ∨ j = i := funext fun j => propext (Lst.set hil j)
       rw [this]; exact I'
    obtain ⟨dn, ld, last', rest, fj, H, nm, e, f, I, Z⟩ := I
    have hlen : i < r.ss.length := by rw [L.len]; exact hio
    by_cases hi0 : i = 0
    · subst hi0
      rw [L.zero] at ho; cases ho
      have hd : dn 0 := Classical.byContradiction fun hnd => by
       have := next_deed I hlen hnd hanc
       rw [Rgn.k, L.s0] at this; cases this
      have hview : View r F f0 0 f := I.slots.view (L.P.use 0 hlen) L.P.once hanc fun _ p _ hor hD => hor.elim (fun h => hn (h ▸ hD)) fun hb => hn (hW p hD 0 hb)
      have hFt : slot F t0 = anyA := by
       obtain ⟨v, hv, hcase⟩ := I.facts 0 hd hn
       have hva : v = anyA := by
        rcases hcase with ⟨_, hx⟩ | ⟨hk, _⟩ | ⟨hk, _⟩
        · have := hx f H hview
          rw [L.s0] at this
          have this : R2.ok anyA H = .ok v H := this
          cases this; rfl
        · rw [Rgn.k, L.s0] at hk; cases hk
        · rw [Rgn.k, L.s0] at hk; cases hk
       rw [← hva]
       exact hv t0 (by rw [L.s0])
      refine owOp_mono hK (make_stepZ I L.zero L.zop L.zsl L.s0 hlen hd hn hFt L.mapT (fun j hj hins => ?_) fun hins => ?_)
      · obtain ⟨k1, oj, qj, k2, k3⟩ := hins
        exact hn (hW j hj 0 (L.ins j oj qj k1 k2 k3).2.1)
      · obtain ⟨_, oj, qj, k2, k3⟩ := hins
        rw [L.zero] at k2; cases k2
        rw [L.zeroIns] at k3; cases k3
    · cases hio2 : insOf C t0 o with
      | some q =>
       obtain ⟨_, k2, k3, k4, k5⟩ := L.ins i o q hlast ho hio2
       have hsi : r.s i = noCS := by rw [L.hr, lit_s ho, litS_ins hi0 hio2]
       have hd : dn i := Classical.byContradiction fun hnd => by
        have := next_deed I hlen hnd hanc
        rw [Rgn.k, hsi] at this; cases this
       have hval : ev f q.2 = ev F q.2 := by
        cases hq2 : q.2 with
        | c v => rfl
        | t p =>
         have e1 : ∀ g : Fr, ev g (.t p) = slot g (unpath p) := fun g => by rw [slot_path]; show Option.rec (motive := fun _ => AV) undefA (fun v => v) (getP p g) = _; cases getP p g <;> rfl
         rw [e1, e1]
         have hus : q.2.us.testBit (unpath p) = true := by rw [hq2]; exact Nat.testBit_two_pow_self
         by_cases hset : ∃ m, m < r.ss.length ∧ (r.s m).d = some (path (unpath p))
         · obtain ⟨m, hm1, hm2⟩ := hset
           have hbit : (q.2.us &&& r.dsts (bits r.all)).testBit (unpath p) = true := by
            rw [Nat.testBit_and, hus, Bool.true_and]
            exact (dsts_spec _ _ _).2 ⟨m, hm1, (bits_spec _ _).2 (all_mem.2 hm1), hm2⟩
           obtain ⟨m', h3, h4, h5⟩ := (dsts_spec _ _ _).1 (within_spec k4 hbit)
           exact I.slots.1 m' h3 (hanc m' h4) _ h5
         · have hno : ∀ m, m < r.ss.length → (r.s m).d ≠ some (path (unpath p)) := fun m hm hh => hset ⟨m, hm, hh⟩
           rw [I.slots.2 _ fun m hm _ => hno m hm, L.hF0 _ hno]
       exact owOp_mono hK (ins_stepZ hg I Z ho hio2 hlast k5 hsi hlen hd hn (hanc 0 k2) hval fun j oj qj hne hjl hj hqj => L.keys i j o oj q qj (fun hh => hne hh.symm) hlast hjl ho hj hio2 hqj)
      | none =>
       have hsi : r.s i = (Rgn.of C n ops).s i := by rw [L.hr]; exact lit_ord ho hi0 hlast hio2
       have hni : ¬ IsIns C t0 last ops i := fun hh => by
        obtain ⟨_, oj, qj, k2, k3⟩ := hh
        rw [ho] at k2; cases k2
        rw [hio2] at k3; cases k3
       have hdst : o.dst ≠ some t0 := fun hh => by
        have h3 := L.good i o ho hi0 hlast hio2
        rw [hh] at h3
        exact hi0 (L.P.once i 0 t0 hlen (by omega) h3 (by rw [L.s0]))
       by_cases hd : dn i
       · exact owOp_mono hK (light_stepZ L.P hg hc I Z ho hsi (by rw [L.hr]; rfl) hi0 hni hdst hd hn hanc hW)
       · exact owOp_mono hK (heavy_stepZ L.P hg hc L.len I Z ho hsi hi0 hni hdst hd hanc hW)
end
end Go.Ab
