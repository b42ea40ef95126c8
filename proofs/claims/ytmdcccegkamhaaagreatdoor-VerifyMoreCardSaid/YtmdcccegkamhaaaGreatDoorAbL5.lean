/- An executable reading of the model's code on named blocks, and the proof that what it comes to is what the model does, in any order that is free: part 5. -/
import Derived.Test.YtmdcccegkamhaaaGreatDoorAbL4
import Derived.RangeFuncRecord
import Derived.Scope
import Derived.Lib.LaidU8
import Derived.Lib.Bytealg
import Derived.ChangeSame
import Derived.WideKeyArgs
set_option linter.unusedSectionVars false
set_option linter.unusedVariables false
set_option linter.unusedSimpArgs false
namespace Go.Ab
variable [Val]
open Go
variable {C : Cx} {ds : List Deferred}
theorem ERL.perm {e : Emb} {es es2 : Es} (hp : (es : List (AV × AV)).Perm es2) : ∀ {l : List (Value × Value)}, ERL e es l → ∃ l2, ERL e es2 l2 ∧ l.Perm l2 := by
 induction hp with
 | nil => intro l h; exact ⟨l, h, .refl _⟩
 | cons x _ ih =>
  intro l h
  cases h with
  | cons k v k' v' _ l' a b c d =>
   obtain ⟨l2, h1, h2⟩ := ih d
   exact ⟨_, .cons k v k' v' _ l2 a b c h1, h2.cons _⟩
 | swap x y _ =>
  intro l h
  cases h with
  | cons k v k' v' _ l' a b c d =>
   cases d with
   | cons k2 v2 k2' v2' _ l'' a2 b2 c2 d2 => exact ⟨_, .cons _ _ _ _ _ _ a2 b2 c2 (.cons _ _ _ _ _ _ a b c d2), .swap _ _ _⟩
 | trans _ _ ih1 ih2 =>
  intro l h
  obtain ⟨l2, h1, h2⟩ := ih1 h
  obtain ⟨l3, h3, h4⟩ := ih2 h1
  exact ⟨l3, h3, h2.trans h4⟩
theorem BR.permM {e : Emb} {es es2 : Es} {g : Nat} {x : Loc} {ob : Option Obj} (hp : (es : List (AV × AV)).Perm es2) (h : BR e (.map es) g x ob) : BR e (.map es2) g x ob := by
 cases h with
 | cells c t fr q => exact q.cells.elim
 | sit s pos a _ => cases a
 | iter _ _ _ _ a _ => cases a
 | lp q0 fn0 tm0 df0 a => cases a
 | busy o0 a => cases a
 | dfr a => cases a
 | map es3 es' clock l a b c d f k mb =>
  cases a
  obtain ⟨l2, h1, h2⟩ := c.perm hp
  exact .map es2 es' clock l2 rfl b h1 (h2.symm.trans d) (List.Perm.pairwise hp f fun h => ⟨h.2, h.1⟩) k mb
theorem Ext.adopt {e0 e : Emb} {h0 H H' : Hp} {w0 w : World} (x : Ext e0 h0 w0 e H w) {rm : Nat} {B : Blk} (h1 : w0.heap.size ≤ rm) (h2 : rm < w.heap.size) (h3 : ∀ b g y, e b g = some y → y.r ≠ rm) (hget : H'.get H.n = some B) (hold : ∀ b, b ≠ H.n → H'.get b = H.get b) (hn : H'.n = H.n + 1) (hlk : H'.lk = H.lk) (hbr : BR e B 0 ⟨rm, 0, 0, 0⟩ w.heap[rm]?) :
 ∃ e', e.le e' ∧ e' H.n 0 = some ⟨rm, 0, 0, 0⟩ ∧ Ext e0 h0 w0 e' H' w := by
 have hno : ∀ g, e H.n g = Option.none := fun g => by
  cases hx : e H.n g with
  | none => rfl
  | some y => exact absurd (x.hr.lt _ _ _ hx).2 (Nat.lt_irrefl _)
 let y : Loc := ⟨rm, 0, 0, 0⟩
 let e' : Emb := fun k g => if k = H.n ∧ g = 0 then some y else e k g
 have hle : e.le e' := fun k g z hz => by
  show (if k = H.n ∧ g = 0 then some y else e k g) = some z
  by_cases hc : k = H.n ∧ g = 0
  · rw [hc.1, hno g] at hz; cases hz
  · rw [if_neg hc]; exact hz
 have hnew : e' H.n 0 = some y := by simp [e']
 have hcase : ∀ k g z, e' k g = some z → (k = H.n ∧ g = 0 ∧ z = y) ∨ e k g = some z := fun k g z hz => by
  by_cases hc : k = H.n ∧ g = 0
  · have : e' k g = some y := by show (if k = H.n ∧ g = 0 then some y else e k g) = some y; rw [if_pos hc]
    rw [this] at hz; cases hz; exact .inl ⟨hc.1, hc.2, rfl⟩
  · have : e' k g = e k g := by show (if k = H.n ∧ g = 0 then some y else e k g) = _; rw [if_neg hc]
    rw [this] at hz; exact .inr hz
 refine ⟨e', hle, hnew, x.le.trans hle, ⟨?_, ?_, ?_⟩, ?_, ?_, x.frame, ?_, ?_, by rw [hn]; exact Nat.le_succ_of_le x.n, x.size, x.os, x.output, hlk.trans x.lk⟩
 · intro k g z k' g' z' hz hz' hrr
   rcases hcase _ _ _ hz with ⟨j1, j2, j3⟩ | j1 <;> rcases hcase _ _ _ hz' with ⟨i1, i2, i3⟩ | i1
   · subst j3; subst i3; exact ⟨j1.trans i1.symm, rfl⟩
   · subst j3; exact absurd hrr.symm (h3 _ _ _ i1)
   · subst i3; exact absurd hrr (h3 _ _ _ j1)
   · exact x.hr.inj _ _ _ _ _ _ j1 i1 hrr
 · intro k g z hz
   rw [hn]
   rcases hcase _ _ _ hz with ⟨j1, j2, j3⟩ | j1
   · subst j3; exact ⟨h2, by omega⟩
   · have := x.hr.lt _ _ _ j1; exact ⟨this.1, by omega⟩
 · intro k g z hz
   rcases hcase _ _ _ hz with ⟨j1, j2, j3⟩ | j1
   · subst j1; subst j2; subst j3
     exact ⟨B, hget, hbr.mono hle⟩
   · obtain ⟨bb, i2, i3⟩ := x.hr.at' _ _ _ j1
     exact ⟨bb, by rw [hold k (Nat.ne_of_lt (x.hr.lt _ _ _ j1).2)]; exact i2, i3.mono hle⟩
 · intro k g z hz
   rcases hcase _ _ _ hz with ⟨j1, _, _⟩ | j1
   · exact .inr (by have := x.n; omega)
   · exact x.names k g z j1
 · intro k g z hz
   rcases hcase _ _ _ hz with ⟨j1, j2, j3⟩ | j1
   · subst j3; exact .inr h1
   · exact x.blocks k g z j1
 · intro b hb hno'
   rw [hold b (by have := x.n; omega)]
   exact x.ours b hb hno'
 · intro b hb
   rw [hold b (by have := x.n; have := hb.1; omega)]
   exact x.ro b hb
theorem filterMap_range {α β : Type} (g : α → Option β) : ∀ (l : List α), l.filterMap g = (List.range l.length).filterMap fun i => (l[i]?).bind g := by
 intro l
 induction l with
 | nil => rfl
 | cons x l ih =>
  rw [List.length_cons, List.range_succ_eq_map, List.filterMap_cons, List.filterMap_cons, List.filterMap_map, ih]
  cases h : g x with
  | none => simp [h, Function.comp_def]
  | some y => simp [h, Function.comp_def]
section
variable {n t0 last : Nat} {ops : Array Oper} {r : Rgn} {o0 : Oper} {t : TypeId} {F f0 F1 F2 : Fr} {c : CallT} {He H1 He2 : Hp} {e0 : Emb} {h0 : Hp} {w0 : World} {Q : Exit → Act → World → Prop}
theorem lit_conv (L : LitP C n t0 last ops r o0 t F f0 c) (hg : GR C e0) (hc : CallOK C c) {es : Es} (hF1 : F1 = setT (.map He.n) (path t0) F) (hes : es = ((ops.toList.take last).filterMap (insOf C t0)).map fun q => (q.1, ev F1 q.2))
 (g1 : H1.get He.n = some (.map es)) (g2 : ∀ b, b ≠ He.n → H1.get b = He.get b) (g3 : H1.n = He.n + 1) (g4 : H1.lk = He.lk) (hB : runR (mkSeq C n ops.toList (ops.toList.drop last)) c F1 H1 = .norm F2 He2) (hqn : ∀ e a w, Ext e0 h0 w0 e He2 w → FN ds n e F2 a → Q .normal a w) :
 ∀ (fuel : Nat) (listed : Array Bool) (a : Act) (w : World), listed.size = ops.size → listed.toList.count false ≤ fuel → Closed ops (Lst listed) → (∀ i, i < last → Lst listed i) → (∀ i, last ≤ i → ¬ Lst listed i) → InvZ C ds r F f0 c He n e0 h0 w0 t0 last ops (Lst listed) a w → owAny C.P .any ops Q fuel listed a w := by
 intro fuel listed a w hsz hf hcl hall hnl ⟨dn, ld, last', rest, fj, H, nm, e, f, I, Z⟩
 have hlen := L.len
 have htail : ∀ i, i < ops.size → last ≤ i → r.s i = noCS := fun i hi hl => by
  have : ops[i]? = some ops[i] := by simp [hi]
  rw [L.hr, lit_s this]
  exact litS_tail (by have := L.one; omega) hl
 have hrest : rest = [] := by
  cases hrs : rest with
  | nil => rfl
  | cons ep rest' =>
   obtain ⟨d, hd⟩ := Option.isSome_iff_exists.1 (I.mid.isSome ep (by rw [hrs]; exact .head _))
   have hdm : d ∈ rest.flatMap Ep.order := by
    rw [hrs, List.flatMap_cons]
    refine List.mem_append_left _ ?_
    unfold Ep.order; rw [hd]; exact .head _
   have hdl := I.mid.lt d hdm
   rw [hlen] at hdl
   have heps := I.mid.eps
   rw [hrs] at heps
   have hk3 := (heps.1 d hd).1
   have hdlast : d < last := Classical.byContradiction fun hge => by
    rw [Rgn.k, htail d hdl (by omega)] at hk3; cases hk3
   exact absurd (I.sub d (hall d hdlast)) (I.mid.order.out d hdm)
 have hrun := I.mid.run
 rw [hrest] at hrun
 have hrun : Out.norm fj H = .norm F He := hrun
 cases hrun
 have hslot : ∀ q, slot f q = slot F q := fun q => by
  by_cases hs : ∃ i, i < r.ss.length ∧ (r.s i).d = some (path q)
  · obtain ⟨i, hi, hid⟩ := hs
    have hil : i < last := Classical.byContradiction fun hge => by
     rw [htail i (by rw [← hlen]; exact hi) (by omega)] at hid; cases hid
    exact I.slots.1 i hi (hall i hil) q hid
  · have hno : ∀ i, i < r.ss.length → (r.s i).d ≠ some (path q) := fun i hi hid => hs ⟨i, hi, hid⟩
    rw [I.slots.2 q fun i hi _ => hno i hi, L.hF0 q hno]
 have hfnF : FN ds n e F a := ⟨⟨fun q => by rw [← hslot]; exact I.fn.1.1 q, I.fn.1.2⟩, I.fn.2⟩
 obtain ⟨rm, P, z1, z2, z3, z4, z5, z6, z7⟩ := Z (hall 0 (by have := L.one; omega))
 have hev : ∀ i q, i < last → (ops[i]?).bind (insOf C t0) = some q → ev F1 q.2 = ev F q.2 := fun i q hi hq => by
  cases ho : ops[i]? with
  | none => rw [ho] at hq; cases hq
  | some o =>
   rw [ho] at hq
   have h3 := (L.ins i o q hi ho hq).2.2.1
   refine ev_agree fun s hs => ?_
   rw [hF1, slot_set, if_neg]
   intro hh
   rw [hh, h3] at hs; cases hs
 have hperm : (P.map (kvAt C t0 ops F)).Perm es := by
  have hix : es = ((List.range last).filter fun i => ((ops[i]?).bind (insOf C t0)).isSome).map (kvAt C t0 ops F) := by
   rw [hes, filterMap_range, List.length_take, Array.length_toList, Nat.min_eq_left L.le, List.map_filterMap]
   have key : ∀ l : List Nat, (∀ i ∈ l, i < last) → (l.filterMap fun i => (((ops.toList.take last)[i]?).bind (insOf C t0)).map fun q => (q.1, ev F1 q.2)) = (l.filter fun i => ((ops[i]?).bind (insOf C t0)).isSome).map (kvAt C t0 ops F) := by
    intro l
    induction l with
    | nil => intro _; rfl
    | cons i l ih =>
     intro hl
     have hi := hl i (.head _)
     have hgi : (ops.toList.take last)[i]? = ops[i]? := by rw [List.getElem?_take_of_lt hi, Array.getElem?_toList]
     rw [List.filterMap_cons, List.filter_cons, hgi, ih fun j hj => hl j (.tail _ hj)]
     cases hb : (ops[i]?).bind (insOf C t0) with
     | none => simp
     | some q =>
      have hkv : kvAt C t0 ops F i = (q.1, ev F q.2) := by unfold kvAt; rw [hb]
      simp [hkv, hev i q hi hb]
   exact key _ fun i hi => List.mem_range.1 hi
  rw [hix]
  refine List.Perm.map _ ((List.perm_ext_iff_of_nodup z6 (List.nodup_range.filter _)).2 fun i => ?_)
  rw [z7 i, List.mem_filter, List.mem_range]
  constructor
  · rintro ⟨_, h1, o, q, h2, h3⟩
    exact ⟨h1, by rw [h2]; simp [h3]⟩
  · rintro ⟨h1, h2⟩
    obtain ⟨q, hq⟩ := Option.isSome_iff_exists.1 h2
    cases ho : ops[i]? with
    | none => rw [ho] at hq; cases hq
    | some o => rw [ho] at hq; exact ⟨hall i h1, h1, o, q, ho, hq⟩
 obtain ⟨e', hle, hnew, hext⟩ := I.ext.adopt z2 z3 z4 g1 g2 g3 g4 (z5.permM hperm)
 have hfn1 : FN ds n e' F1 a := by
  refine ⟨⟨fun q => ?_, I.fn.1.2⟩, I.fn.2⟩
  rw [hF1, slot_set]
  by_cases hq : q = t0
  · subst hq
    rw [if_pos rfl, z1]
    exact .map _ _ hnew (Nat.le_refl _)
  · rw [if_neg hq]; exact (hfnF.1.1 q).mono hle
 refine chain_sim hc hg L.ready hqn (ops.toList.drop last) last (fun k o hk => ?_) ?_ (fun j hj hjs k hk => by rw [← L.a]; exact L.tail j hjs hj k hk) fuel listed e' F1 H1 a w hsz (fun j hj => ⟨fun h => Classical.byContradiction fun hn => hnl j (by omega) h, hall j⟩) hcl hf hext hfn1 hB
 · rw [List.getElem?_drop, Array.getElem?_toList] at hk; exact hk
 · rw [List.length_drop, Array.length_toList]; have := L.le; omega
end
end Go.Ab
namespace Go.Ab
variable [Val]
open Go
variable {C : Cx} {ds : List Deferred} {R : Option Nat → Prop}
theorem start_inv {r : Rgn} (hag : ∀ i, (r.s i).again = false) (hfar : ∀ i, ¬ i < r.ss.length → r.s i = ⟨.bad "region", none, none, false⟩) {ps : List Ep} (hok : r.ok ps = true) {n : Nat} {c : CallT} {f0 F : Fr} {h0 He : Hp} (hx : runR (ps.flatMap (Ep.out r)) c f0 h0 = .norm F He) {e0 : Emb} {a : Act} {w w2 : World}
 (hf : FN ds n e0 f0 a) (hr : HR e0 h0 w) (hw : Ext e0 h0 w e0 h0 w2) :
 Plan r ∧ OrderOK r (ps.flatMap Ep.order) (fun _ => False) ∧ (∀ i ∈ ps.flatMap Ep.order, i < r.ss.length) ∧ ∃ dn ld last' rest fj H nm e f, Inv ds r F f0 c He n e0 h0 w (fun _ => False) a w2 dn ld last' rest fj H nm e f := by
 unfold Rgn.ok at hok
 simp only [Bool.and_eq_true] at hok
 obtain ⟨k1, k2, k3, k4, k5⟩ := hok
 have hord := okOrder_spec (seen := fun _ => False) (fun j => by simp) k1
 have hlt : ∀ i ∈ ps.flatMap Ep.order, i < r.ss.length := fun i hi => Classical.byContradiction fun hn => by
  obtain ⟨ep, hep, hi⟩ := List.mem_flatMap.1 hi
  refine runR_bad (q := "region") hx ?_
  rw [← hfar i hn]
  refine List.mem_flatMap.2 ⟨ep, hep, ?_⟩
  unfold Ep.out
  exact List.mem_append_left _ (List.mem_map.2 ⟨i, hi, rfl⟩)
 have hP : Plan r := by
  refine ⟨fun i hi => ?_, fun p q t hp hq h1 h2 => ?_, hag, fun i hi hk => ?_⟩
  · have := List.all_eq_true.1 k3 i (all_mem.2 hi)
    rw [Bool.and_eq_true] at this
    exact this.1
  · obtain ⟨_, hpw⟩ := okDst_spec k2
    refine Classical.byContradiction fun hne => ?_
    have key : ∀ p q, p < r.ss.length → q < r.ss.length → p < q → (r.s p).d = some (path t) → (r.s q).d ≠ some (path t) := by
     intro p q hp hq hpq h1
     have := List.pairwise_iff_getElem.1 hpw p q (by simpa [Rgn.all] using hp) (by simpa [Rgn.all] using hq) hpq
     simp only [Rgn.all, List.getElem_range] at this
     exact this t h1
    rcases Nat.lt_or_gt_of_ne hne with hl | hl
    · exact key p q hp hq hl h1 h2
    · exact key q p hq hp hl h2 h1
  · have := List.all_eq_true.1 k3 i (all_mem.2 hi)
    rw [Bool.and_eq_true, Bool.or_eq_true, Bool.not_eq_true'] at this
    rcases this.2 with h | h
    · rw [beq_iff.2 hk] at h; cases h
    · exact h
 refine ⟨hP, hord, hlt, ?_⟩
 have heps := okEps_spec k4
 cases ps with
 | nil => cases k5
 | cons ep rest =>
  have k5 : and ep.hv.isNone (rest.all fun e => e.hv.isSome) = true := k5
  rw [Bool.and_eq_true] at k5
  obtain ⟨k6, k7⟩ := k5
  have hev : ep.hv = none := by simpa using k6
  have horder : ep.order = ep.ls := by unfold Ep.order; rw [hev]; rfl
  obtain ⟨h1, h2, h3, h4, h5⟩ := heps
  rw [hev] at h5
  rw [List.flatMap_cons, horder] at hord hlt
  have hrun := hx
  rw [List.flatMap_cons, Ep.out, horder, List.append_assoc] at hrun
  have hS0 : Slots r F f0 (fun _ => False) f0 := ⟨fun _ _ h => h.elim, fun _ _ => rfl⟩
  obtain ⟨f2, H2, nm, mid, hgrew, hls, hck, hnm, hinj⟩ := epoch_rest hP.use hP.once (fun i _ => hP.again i) (dn := fun _ => False) (ld := []) (ls := ep.ls) (ck := ep.ck) (last := none) (rest := rest) hrun hS0 (fun p h => h.elim) h5 hord
   (fun e he => List.all_eq_true.1 k7 e he) (fun i h => h.elim) (fun i h => by cases h) hlt (fun i hi => (h2 i hi).1) (fun i hi => (h4 i hi)) (fun i h => h.elim)
  refine ⟨_, _, _, _, f2, H2, nm, e0, f0, mid, hw.grow hgrew, hf, hS0, fun i h => h.elim, ?_, ?_, ?_, fun i j b _ _ => hinj i j b⟩
  · rintro i (h | h) hk
    · exact h
    · exact absurd hk (h2 i h).1
  · rintro i (h | h) _
    · exact h.elim
    · by_cases hcond : r.k i = 1 → ∀ q ∈ ep.ls, r.k q ≠ 2
      · exact hls i h hcond
      · have hk1 : r.k i = 1 := Classical.byContradiction fun h => hcond fun h' => absurd h' h
        have hmk : ∃ q ∈ ep.ls, r.k q = 2 := Classical.byContradiction fun h => hcond fun _ q hq hq2 => h ⟨q, hq, hq2⟩
        rcases h3 i (.inr ⟨h, hmk⟩) hk1 with ⟨d, hd, _⟩ | hc'
        · rw [hev] at hd; cases hd
        · exact hck i hc' _
  · intro i b _ hb
    obtain ⟨_, k8, k9⟩ := hnm i b hb
    refine ⟨k8, k9, fun g => ?_⟩
    cases hy : e0 b g with
    | none => rfl
    | some y => have := (hr.lt b g y hy).2; omega
theorem litAt_spec {n t0 : Nat} {ops : Array Oper} (h : litAt n ops.toList = some t0) : ∃ o0 t, ops[0]? = some o0 ∧ o0.op = .makeMap t none ∧ slotOK n o0 = some t0 := by
 unfold litAt at h
 split at h
 · rename_i o l hl
   split at h
   · rename_i t hop
     exact ⟨o, t, by rw [← Array.getElem?_toList, hl]; rfl, hop, h⟩
   · cases h
 · cases h
theorem draw_lit (hm : C.P.follows .mixedOrders = true) {n id : Nat} {ops : Array Oper} {c : CallT} (hc : CallOK C c) {t0 last : Nat} (hat : litAt n ops.toList = some t0) {f0 : Fr} {h0 : Hp} {e0 : Emb} {a : Act} {w : World} {Q : Exit → Act → World → Prop} (hg : GR C e0) (hf : FN ds n e0 f0 a) (hr : HR e0 h0 w)
 (hp : Post0 C ds n e0 h0 w Q (runR (mkLit C n ops.toList (Rgn.lit C n ops t0 last) t0 last (Rgn.lit C n ops t0 last).plan) c f0 h0)) : (Code.region id ops true).ow R C.P Q a w := by
 generalize hr0 : Rgn.lit C n ops t0 last = r at hp
 generalize r.plan = ps at hp
 unfold mkLit at hp
 cases hok : litOK C ops.toList r t0 last ps with
 | false => rw [hok] at hp; exact hp.elim
 | true =>
 rw [hok, ifb_true] at hp
 rcases runR_norm c (ps.flatMap (Ep.out r) ++ (mkSeq C n ops.toList (ops.toList.take 1) ++ (mkSeq C n ops.toList ((ops.toList.take last).filter fun o => (insOf C t0 o).isSome) ++ mkSeq C n ops.toList (ops.toList.drop last)))) f0 h0 with ⟨F2, He2, hx⟩ | ⟨q, hx⟩
 case inr => rw [hx] at hp; exact hp.elim
 rw [hx] at hp
 rw [runR_append] at hx
 rcases runR_norm c (ps.flatMap (Ep.out r)) f0 h0 with ⟨F, He, hA⟩ | ⟨q, hA⟩
 case inr => rw [hA] at hx; cases hx
 rw [hA] at hx
 have hx : runR (mkSeq C n ops.toList (ops.toList.take 1) ++ (mkSeq C n ops.toList ((ops.toList.take last).filter fun o => (insOf C t0 o).isSome) ++ mkSeq C n ops.toList (ops.toList.drop last))) c F He = .norm F2 He2 := hx
 unfold litOK at hok
 simp only [Bool.and_eq_true] at hok
 obtain ⟨c1, c2, c3, c4, c5, c6, c7⟩ := hok
 obtain ⟨o0, t, z1, z2, z3⟩ := litAt_spec hat
 obtain ⟨s1, s2, s3⟩ := slotOK_spec z3
 have hlen : r.ss.length = ops.size := by rw [← hr0]; exact lit_length
 have hone : 1 ≤ last := Nat.le_of_ble_eq_true c1
 have hle : last ≤ ops.size := by have := Nat.le_of_ble_eq_true c2; simpa using this
 obtain ⟨hP, hord, hlt, hinv⟩ := start_inv (by rw [← hr0]; exact lit_again) (by rw [← hr0]; exact fun i hi => lit_far hi) c7 hA hf hr (Ext.drew (w' := { w with drawn := w.drawn + 1 }) hr rfl rfl rfl)
 have htake : ops.toList.take 1 = [o0] := by
  cases hl : ops.toList with
  | nil => rw [← Array.getElem?_toList, hl] at z1; cases z1
  | cons x l => rw [← Array.getElem?_toList, hl] at z1; cases z1; rfl
 rw [htake] at hx
 have hag0 : (mkS C n ops.toList o0).again = false := by rw [← of_s (C := C) (n := n) z1]; exact of_again 0
 obtain ⟨v0, Hm, hst, hx⟩ := runR_once hag0 hx
 obtain ⟨hxo, hd, _⟩ := stepS_mk s1 hst
 simp only [mk, z2] at hxo
 obtain ⟨co, hco, hxo⟩ := orBad_ok hxo
 have hmapT : ∃ kt el, C.P.underlying t = some (.map kt el) := by
  cases hu : C.P.underlying t with
  | none => rw [hu] at hco; cases hco
  | some d => rw [hu] at hco; cases d <;> first | exact ⟨_, _, rfl⟩ | cases hco
 have hcm : co = .mkm none := by
  obtain ⟨kt, el, hu⟩ := hmapT
  rw [hu] at hco
  cases hco; rfl
 subst hcm
 have hxo : R2.new He (.map []) .map = .ok v0 Hm := hxo
 obtain ⟨rfl, rfl⟩ := R2.new_ok hxo
 rw [hd, s2] at hx
 have hF1 : (putD ((some t0).map path) (.map He.n) F).out = setT (.map He.n) (path t0) F := by
  show (setP (.map He.n) (path t0) F).out = _
  rw [setP_eq]; rfl
 rw [hF1] at hx
 have hfm : ((ops.toList.take last).filter fun o => (insOf C t0 o).isSome).filterMap (insOf C t0) = (ops.toList.take last).filterMap (insOf C t0) := by
  rw [List.filterMap_filter]
  congr 1
  funext o
  cases insOf C t0 o <;> rfl
 have hN : slot (setT (.map He.n) (path t0) F) t0 = .map He.n := by rw [slot_set, if_pos rfl]
 obtain ⟨H1, b1, b2, b3, b4, b5, b6⟩ := ins_tail hN ((ops.toList.take last).filter fun o => (insOf C t0 o).isSome) _ [] (fun o ho => Option.isSome_iff_exists.1 (List.mem_filter.1 ho).2) (by rw [Hp.get_set _ _ He.n, if_pos rfl]) (fun _ _ _ _ x hx => by cases hx) (by rw [hfm]; exact keysB_spec c5) hx
 rw [hfm, List.nil_append] at b2
 have hins : ∀ (i : Nat) (o : Oper) (q : AV × Sx), i < last → ops[i]? = some o → insOf C t0 o = some q → i ≠ 0 ∧ (r.a i).testBit 0 = true ∧ q.2.us.testBit t0 = false ∧ within (Nat.land q.2.us (r.dsts (bits r.all))) (r.dsts (r.a i)) = true ∧ InsF C t0 o q := by
  intro i o q hi ho hq
  have hti : (ops.toList.take last)[i]? = some o := by rw [List.getElem?_take_of_lt hi, Array.getElem?_toList]; exact ho
  obtain ⟨k1, k2, k3, k4⟩ := insOK_spec hq _ 0 c6 i hti
  rw [Nat.zero_add] at k1 k2 k4
  exact ⟨k1, k2, k3, k4, b6 o (List.mem_filter.2 ⟨List.mem_of_getElem? hti, by rw [hq]; rfl⟩) q hq⟩
 have hready : ∀ listed : Array Bool, listed.size = ops.size → (∃ j, j < ops.size ∧ ¬ Lst listed j) → Region.ready .any ops listed ≠ [] := by
  intro listed hsz ⟨j, hj, hjn⟩ hr
  have hjo : j ∈ ps.flatMap Ep.order := (hord.all j (by rw [hlen]; exact hj)).resolve_left fun h => h.elim
  obtain ⟨k, hk, hkn, hka⟩ := hord.first (E := Lst listed) (fun _ h => h.elim) ⟨j, hjo, hjn⟩
  have hkl : k < ops.size := by have := hlt k hk; rwa [hlen] at this
  have : k ∈ Region.ready .any ops listed := mem_ready.2 ⟨(Lst.not (by omega)).1 hkn, ops[k], by simp [hkl], fun d hd hb => hka _ (by rw [← hr0]; exact of_edge (C := C) (n := n) (by simp [hkl]) hd hb)⟩
  rw [hr] at this; cases this
 have L : LitP C n t0 last ops r o0 t F f0 c := by
  refine ⟨hr0.symm, hP, hone, hle, fun i hi hl k hk => ?_, z1, z2, z3, hmapT, hins, fun i j o o' q q' hne hi hj ho ho' hq hq' => ?_, fun i o ho hi0 hil hni => ?_, fun q hq => ?_, hready⟩
  · have := List.all_eq_true.1 c3 i (all_mem.2 (by rw [hlen]; exact hi))
    rw [Bool.or_eq_true, Bool.not_eq_true'] at this
    rcases this with h | h
    · rw [ble_iff.2 hl] at h; cases h
    · exact within_spec h ((bits_spec _ _).2 (List.mem_range.2 hk))
  · have hpw := keysB_spec c5
    unfold insList at hpw
    rw [List.pairwise_filterMap] at hpw
    have e1 : (ops.toList.take last)[i]? = some o := by rw [List.getElem?_take_of_lt hi, Array.getElem?_toList]; exact ho
    have e2 : (ops.toList.take last)[j]? = some o' := by rw [List.getElem?_take_of_lt hj, Array.getElem?_toList]; exact ho'
    obtain ⟨l1, l2⟩ := List.getElem?_eq_some_iff.1 e1
    obtain ⟨m1, m2⟩ := List.getElem?_eq_some_iff.1 e2
    rcases Nat.lt_or_gt_of_ne hne with hl | hl
    · have := List.pairwise_iff_getElem.1 hpw i j l1 m1 hl
      rw [l2, m2] at this
      exact (this q hq q' hq').1
    · have := List.pairwise_iff_getElem.1 hpw j i m1 l1 hl
      rw [l2, m2] at this
      exact (this q' hq' q hq).2
  · have hs : r.s i = mkS C n ops.toList o := by rw [← hr0, lit_ord ho hi0 hil hni, of_s ho]
    rw [hs]
    rcases mkS_spec (C := C) (n := n) (ops := ops.toList) (o := o) with ⟨g, g1, g2, _⟩ | ⟨q, g2⟩
    · rw [g2]
    · exfalso
      have hio : i ∈ ps.flatMap Ep.order := (hord.all i (by rw [hlen]; exact (Array.getElem?_eq_some_iff.1 ho).1)).resolve_left fun h => h.elim
      obtain ⟨ep, hep, hi⟩ := List.mem_flatMap.1 hio
      refine runR_bad (q := q) hA ?_
      rw [← g2, ← hs]
      refine List.mem_flatMap.2 ⟨ep, hep, ?_⟩
      unfold Ep.out
      exact List.mem_append_left _ (List.mem_map.2 ⟨i, hi, rfl⟩)
  · refine runR_slot hA fun s hs hsa hsd => ?_
    obtain ⟨j, hj, rfl⟩ := out_once hs hsa
    exact hq j (hlt j hj) hsd
 refine ow_region_any hm (lit_any (e0 := e0) (h0 := h0) (w0 := w) (F := F) (f0 := f0) (He := He) L hg hc (lit_conv L hg hc rfl rfl b2 (fun b hb => ?_) b4 b5 b1 hp) ops.size _ a _ (by simp) (by simp) ?_ ?_ ?_)
 · rw [b3 b hb, Hp.get_set _ _ He.n, if_neg hb]
 · intro i o d hi
   unfold Lst at hi
   rw [Array.getD_eq_getD_getElem?, Array.getElem?_replicate] at hi
   split at hi <;> cases hi
 · intro i _ hi
   unfold Lst at hi
   rw [Array.getD_eq_getD_getElem?, Array.getElem?_replicate] at hi
   split at hi <;> cases hi
 · have hno : ∀ i, ¬ Lst (Array.replicate ops.size false) i := fun i hi => by
    unfold Lst at hi
    rw [Array.getD_eq_getD_getElem?, Array.getElem?_replicate] at hi
    split at hi <;> cases hi
   have hlst : Lst (Array.replicate ops.size false) = fun _ => False := funext fun i => propext ⟨hno i, False.elim⟩
   rw [hlst]
   obtain ⟨dn, ld, last', rest, fj, H, nm, e, f, I⟩ := hinv
   exact ⟨dn, ld, last', rest, fj, H, nm, e, f, I, fun h => h.elim⟩
theorem drawOK (hm : C.P.follows .mixedOrders = true) : DrawOK C := by
 intro R ds n id ops c hc f0 h0 e0 a w Q hg hf hr hp
 unfold mkDraw at hp
 split at hp
 · rename_i t0 hok hat
   rw [natF_eq] at hp
   exact draw_lit hm hc hat hg hf hr hp
 · exact draw_by hm n id ops c hc f0 h0 e0 a w Q hg hf hr hp
end Go.Ab
namespace Go.Ab
variable [Val]
open Go
variable {C : Cx}
theorem ifbO {α : Type} {c : Bool} {x : Option α} {v : α} (h : ifb c x none = some v) : c = true ∧ x = some v := by
 cases c with
 | false => cases h
 | true => exact ⟨rfl, h⟩
theorem entOf_spec {n it : Nat} {b : Code} {q : Nat × List Oper × List Oper} (h : entOf n it b = some q) : ∃ id ops2 code oe, b = .seq (.region id ops2 false) code ∧ ops2.toList = oe :: q.2.1 ∧ q.2.2 = ops2.toList ∧ oe.op = .entry (.tmp it) ∧ slotOK n oe = some q.1 ∧ q.1 ≠ it := by
 unfold entOf at h
 split at h
 · rename_i id ops2 code
   split at h
   · rename_i oe ent hops
     split at h
     · rename_i it' pr hop hsl
       obtain ⟨h1, h2⟩ := ifbO h
       cases h2
       rw [Bool.and_eq_true, beq_iff, Bool.not_eq_true'] at h1
       refine ⟨id, ops2, code, oe, rfl, hops, hops.symm, by rw [hop, h1.1], hsl, fun hh => ?_⟩
       rw [beq_iff.2 hh] at h1; cases h1.2
     · cases h
   · cases h
 · cases h
structure MlOK (C : Cx) (n : Nat) (a b : Code) (M : MLs) (id : Nat) (ops : Array Oper) (out id1 : Nat) (ops1 : Array Oper) (o o1 o2 : Oper) (t : TypeId) (body : Code) : Prop where
 ha : a = .region id ops false
 hb : b = .block out (.loop (.seq (.region id1 ops1 false) (.seq (.cond (.tmp M.more) .skip (.exit out)) (.block M.nxt body))))
 pre : ops.toList = M.pre ++ [o]
 op : o.op = .range t M.x
 it : slotOK n o = some M.it
 mapT : isMapT C t = true
 two : ops1.toList = [o1, o2]
 next : o1.op = .next (.tmp M.it) false
 nx : slotOK n o1 = some M.nx
 extr : o2.op = .extract (.tmp M.nx) 0
 more : slotOK n o2 = some M.more
 nxit : M.nx ≠ M.it
 mrit : M.more ≠ M.it
 preOps : M.preOps = ops.toList
 pr : M.pr = entOf n M.it body
 fill : M.fill = fillOf body
theorem mlOf_spec {n : Nat} {a b : Code} {M : MLs} (h : mlOf C n a b = some M) : ∃ id ops out id1 ops1 o o1 o2 t body, MlOK C n a b M id ops out id1 ops1 o o1 o2 t body := by
 unfold mlOf at h
 split at h
 · rename_i id ops out id1 ops1 mr out2 nxt body
   split at h
   · rename_i o rpre o1 o2 hrev hops1
     split at h
     · rename_i t x it it' nx nx' mr' hop hit ho1 hnx ho2 hmr
       obtain ⟨h1, h2⟩ := ifbO h
       cases h2
       simp only [Bool.and_eq_true, beq_iff, Bool.not_eq_true'] at h1
       obtain ⟨k1, rfl, rfl, rfl, rfl, k6, k7, k8⟩ := h1
       refine ⟨id, ops, _, id1, ops1, o, o1, o2, t, body, rfl, rfl, ?_, hop, hit, k1, hops1, ho1, hnx, ho2, hmr, (fun hh => by rw [beq_iff.2 hh] at k6; cases k6), (fun hh => by rw [beq_iff.2 hh] at k7; cases k7), rfl, rfl, rfl⟩
       have := congrArg List.reverse hrev
       rw [List.reverse_reverse, List.reverse_cons] at this
       exact this
     · cases h
   · cases h
 · cases h
theorem isMapT_spec {t : TypeId} (h : isMapT C t = true) : ∃ k v, C.P.underlying t = some (.map k v) := by
 unfold isMapT at h
 split at h
 · rename_i k v hu; exact ⟨k, v, hu⟩
 · cases h
theorem range_get {α : Type} (l : List α) : (List.range l.length).map (fun i => l[i]?) = l.map some := by
 apply List.ext_getElem?
 intro i
 simp only [List.getElem?_map]
 by_cases h : i < l.length
 · rw [List.getElem?_range h, List.getElem?_eq_getElem h]; simp [h]
 · rw [List.getElem?_eq_none (by simpa using h), List.getElem?_eq_none (by simpa using h)]; rfl
theorem bodyOf_plain {n : Nat} {out id1 mr nxt : Nat} {ops1 : Array Oper} {body : Code} : bodyOf false (mkC C n (.block out (.loop (.seq (.region id1 ops1 false) (.seq (.cond (.tmp mr) .skip (.exit out)) (.block nxt body)))))) = some (mkC C n body) := rfl
theorem bodyOf_entry {n : Nat} {out id1 mr nxt id2 : Nat} {ops1 ops2 : Array Oper} {code : Code} {c : CC} (h : bodyOf true (mkC C n (.block out (.loop (.seq (.region id1 ops1 false) (.seq (.cond (.tmp mr) .skip (.exit out)) (.block nxt (.seq (.region id2 ops2 false) code))))))) = some c) : c = mkC C n code := by
 have h : (match true, mkC C n (.seq (.region id2 ops2 false) code) with
  | false, b => some b
  | true, .seq (.reg _) b => some b
  | true, _ => none) = some c := h
 have hm : mkC C n (.seq (.region id2 ops2 false) code) = match mlOf C n (.region id2 ops2 false) code with
  | some m => mkML C n m (mkC C n code)
  | none => .seq (mkC C n (.region id2 ops2 false)) (mkC C n code) := rfl
 rw [hm] at h
 cases hml : mlOf C n (.region id2 ops2 false) code with
 | none =>
  rw [hml] at h
  have h : some (mkC C n code) = some c := h
  cases h; rfl
 | some m =>
  rw [hml] at h
  simp only at h
  unfold mkML at h
  cases hs : sx C m.x with
  | none => rw [hs] at h; cases h
  | some x => cases hb : bodyOf m.pr.isSome (mkC C n code) with
   | none => rw [hs, hb] at h; cases h
   | some b =>
    rw [hs, hb] at h
    simp only at h
    unfold mlC at h
    simp only at h
    generalize hany : ((m.pr.map fun q => path q.1).toList ++ (setsR (match m.pr with
     | some q => mkSeq C n q.2.2 q.2.1
     | none => []) ++ b.sets)).any (fun p => Nat.beq (unpath p) m.it) = bb at h
    cases bb <;> cases h
theorem fillOf_spec {b : Code} {q : List Oper × List Oper × Oper} (h : fillOf b = some q) : ∃ id2 id3 ops2 ops3 t x y z, b = .seq (.region id2 ops2 false) (.region id3 ops3 false) ∧ ops3.toList = q.2.1 ++ [q.2.2] ∧ q.1 = ops3.toList ∧ q.2.2.op = .mapUpdate t (.tmp x) (.tmp y) (.tmp z) ∧ q.2.2.guard = none ∧ q.2.2.dst = none := by
 unfold fillOf at h
 split at h
 · rename_i id2 ops2 id3 ops3
   split at h
   · rename_i o rp hrev
     split at h
     · rename_i t x y z ho hg hd
       cases h
       refine ⟨id2, id3, ops2, ops3, t, x, y, z, rfl, ?_, rfl, ho, hg, hd⟩
       have := congrArg List.reverse hrev
       rw [List.reverse_reverse, List.reverse_cons] at this
       exact this
     · cases h
   · cases h
 · cases h
theorem mkSeq_append {n : Nat} {ops : List Oper} : ∀ a b : List Oper, mkSeq C n ops (a ++ b) = mkSeq C n ops a ++ mkSeq C n ops b
 | [], _ => rfl
 | o :: a, b => by
  show mkS C n ops o :: mkSeq C n ops (a ++ b) = _
  rw [mkSeq_append a b]; rfl
theorem flOf_spec {n : Nat} {M : MLs} {f : FQ} (h : flOf C n M = some f) : ∃ p q kd pm pk pv, M.pr = some p ∧ M.fill = some q ∧ mk C q.2.2 = .mu kd (.t pm) (.t pk) (.t pv) ∧ f = (mkSeq C n q.1 q.2.1, kd, pm, pk, pv) := by
 unfold flOf at h
 split at h
 · rename_i p q hp hq
   split at h
   · rename_i kd pm pk pv hm
     cases h
     exact ⟨p, q, kd, pm, pk, pv, hp, hq, hm, rfl⟩
   · cases h
 · cases h
theorem mu_spec {o : Oper} {t : TypeId} {x y z : Nat} (ho : o.op = .mapUpdate t (.tmp x) (.tmp y) (.tmp z)) {kd : Nat} {pm pk pv : List Bool} (h : mk C o = .mu kd (.t pm) (.t pk) (.t pv)) : keyKd C t = some kd ∧ pm = path x ∧ pk = path y ∧ pv = path z := by
 unfold mk at h
 rw [ho] at h
 have h : orBad "mapUpdate" (muOf C t (.tmp x) (.tmp y) (.tmp z)) = .mu kd (.t pm) (.t pk) (.t pv) := h
 unfold muOf at h
 cases hk : keyKd C t with
 | none => rw [hk] at h; cases h
 | some k =>
  rw [hk] at h
  cases h
  exact ⟨rfl, rfl, rfl, rfl⟩
theorem mlC_spec {n : Nat} {M : MLs} {x : Sx} {b c : CC} (h : mlC C n M x b = some c) : ∃ m : ML, c = .mloop m b ∧ m.pre = mkSeq C n M.preOps M.pre ∧ m.x = x ∧ m.it = path M.it ∧ m.pr = M.pr.map (fun q => path q.1) ∧ m.nxt = M.nxt ∧
 m.ent = (match M.pr with
  | some q => mkSeq C n q.2.2 q.2.1
  | none => []) ∧ (∀ p, p ∈ m.ds ↔ p = path M.nx ∨ p = path M.more ∨ (p ∈ m.pr.toList ∨ p ∈ setsR m.ent ∨ p ∈ b.sets)) ∧ (∀ p, (p ∈ m.pr.toList ∨ p ∈ setsR m.ent ∨ p ∈ b.sets) → p ≠ path M.it) ∧
 (∀ p ∈ m.cs, (p ∈ setsR m.ent ∨ p ∈ b.sets) ∧ p ≠ path M.nx ∧ p ≠ path M.more) ∧ m.fl = flOf C n M := by
 unfold mlC at h
 simp only at h
 generalize hany : ((M.pr.map fun q => path q.1).toList ++ (setsR (match M.pr with
  | some q => mkSeq C n q.2.2 q.2.1
  | none => []) ++ b.sets)).any (fun p => Nat.beq (unpath p) M.it) = bb at h
 cases bb with
 | true => cases h
 | false =>
  cases h
  refine ⟨_, rfl, rfl, rfl, rfl, rfl, rfl, rfl, fun p => ?_, fun p hp hh => ?_, fun p hp => ?_, rfl⟩
  · simp only [List.mem_cons, List.mem_append]
  · rw [List.any_eq_false] at hany
    have := hany p (by simp only [List.mem_append]; exact hp)
    rw [hh, unpath_path] at this
    exact this (beq_iff.2 rfl)
  · have hp := List.mem_filter.1 hp
    obtain ⟨h1, h2⟩ := hp
    rw [Bool.and_eq_true, Bool.not_eq_true', List.any_eq_false] at h2
    refine ⟨List.mem_append.1 h1, fun hh => ?_, fun hh => ?_⟩
    · exact h2.2 M.nx (.head _) (by rw [hh, unpath_path]; exact beq_iff.2 rfl)
    · exact h2.2 M.more (.tail _ (.head _)) (by rw [hh, unpath_path]; exact beq_iff.2 rfl)
theorem mapEs_ok {m : ML} {b : CallT → Fr → Hp → Out} {c : CallT} {f : Fr} {h : Hp} {es : Es} {P : Out → Prop} (hno : ∀ w, ¬ P (.no w)) (hx : P (mapEs m b c f h es)) : ∃ s rows sf, readSt (exOf h f []) (m.cs.filter fun p => (slotV f p).isSome) f h = .ok s ∧
 (∀ r ∈ rows, eachM (round1 m b c (anyAll m.ds f).out h (exOf h f []) (m.cs.filter fun p => (slotV f p).isSome) r.1) es = .ok r.2) ∧ (exOf h f []).all h.okw = true ∧ okRows (lenA es) rows = true ∧ walkM rows s (List.range (lenA es)) = some sf ∧
 P (.norm (putSs (m.cs.filter fun p => (slotV f p).isSome) sf.2 (anyAll m.ds f).out).out (putCs (exOf h f []) sf.1 h).out) := by
 unfold mapEs at hx
 rw [Bx.eta (anyAll m.ds f), Bx.bd_mk] at hx
 simp only at hx
 split at hx
 · exact (hno _ hx).elim
 · rename_i s hs
   split at hx
   · exact (hno _ hx).elim
   · rename_i rows hg
     have hrows := growM_ok (lenA es) [s] [] rows hg (fun r hr => by cases hr)
     cases ha : and ((exOf h f []).all h.okw) (okRows (lenA es) rows) with
     | false => rw [ha] at hx; exact (hno _ hx).elim
     | true =>
      rw [ha, ifb_true] at hx
      rw [Bool.and_eq_true] at ha
      split at hx
      · rename_i sf hsf
        rw [Bx.eta (putSs _ sf.2 _), Bx.bd_mk, Bx.eta (putCs _ sf.1 _), Bx.bd_mk] at hx
        exact ⟨s, rows, sf, hs, hrows, ha.1, ha.2, hsf, hx⟩
      · exact (hno _ hx).elim
end Go.Ab
namespace Go.Ab
variable [Val]
open Go
variable {C : Cx} {R : Option Nat → Prop} {b0 : Nat}
def Named (P : Program) : Prop := ∀ (g : Nat) (fn : Func), P.funcs[g]? = some fn → fn.body ≠ none → (fn.name == "runtime.NumGoroutine") = false
theorem HR.turn {e : Emb} {h : Hp} {w : World} (hr : HR e h w) {b : Nat} {x : Loc} {blk blk' : Blk} {ob' : Obj} (hx : e b 0 = some x) (hget : h.get b = some blk) (hnc : ¬ blk.isCells) (hbr : BR e blk' 0 x (some ob')) :
 HR e ⟨setT blk' (path b) h.t, h.n, h.lk⟩ (w.putObj x.r ob') := by
 have hlt := hr.lt b 0 x hx
 have hg : ∀ g y, e b g = some y → g = 0 ∧ y = x := by
  intro g y hy
  obtain ⟨blk2, h1, h2⟩ := hr.at' b g y hy
  rw [hget] at h1; cases h1
  have : g = 0 := by
   generalize w.heap[y.r]? = ob at h2
   cases h2 with
   | cells c t fr q => exact absurd q.cells hnc
   | map _ _ _ _ _ hg _ _ _ _ => exact hg
   | sit _ _ _ hg => exact hg
   | iter _ _ _ _ _ hg => exact hg
   | lp q0 fn0 tm0 df0 _ hg => exact hg
   | busy o0 _ hg => exact hg
   | dfr _ hg => exact hg
  subst this
  rw [hx] at hy; cases hy; exact ⟨rfl, rfl⟩
 refine ⟨hr.inj, ?_, ?_⟩
 · intro b' g y hy
   simpa using hr.lt b' g y hy
 · intro b' g y hy
   by_cases hb : b' = b
   · subst hb
     obtain ⟨rfl, rfl⟩ := hg g y hy
     refine ⟨blk', by rw [Hp.get_set _ _ h.n, if_pos rfl], ?_⟩
     rw [World.putObj_heap_same hlt.1]; exact hbr
   · obtain ⟨blk2, h1, h2⟩ := hr.at' b' g y hy
     refine ⟨blk2, by rw [Hp.get_set _ _ h.n, if_neg hb]; exact h1, ?_⟩
     have hne : y.r ≠ x.r := fun hh => hb (hr.inj _ _ _ _ _ _ hy hx hh).1
     rw [World.putObj_heap_other hne]; exact h2
theorem Ext.turn {e0 e : Emb} {h0 h : Hp} {w0 w : World} (x0 : Ext e0 h0 w0 e h w) {b : Nat} {x : Loc} {blk blk' : Blk} {ob' : Obj} (hx : e b 0 = some x) (hb : h0.n ≤ b) (hw : w0.heap.size ≤ x.r) (hget : h.get b = some blk) (hnc : ¬ blk.isCells) (hbr : BR e blk' 0 x (some ob')) :
 Ext e0 h0 w0 e ⟨setT blk' (path b) h.t, h.n, h.lk⟩ (w.putObj x.r ob') :=
 ⟨x0.le, x0.hr.turn hx hget hnc hbr, x0.names, x0.blocks, fun r hr hro => (World.putObj_heap_other (by omega)).trans (x0.frame r hr hro),
  fun b' hb' hno => by rw [Hp.get_set _ _ h.n, if_neg (by omega)]; exact x0.ours b' hb' hno,
  fun b' hro => by rw [Hp.get_set _ _ h.n, if_neg (by have := hro.1; omega)]; exact x0.ro b' hro,
  x0.n, by rw [World.putObj_size]; exact x0.size, x0.os, x0.output, x0.lk⟩
theorem Ext.round {e e2 e4 : Emb} {h h2 h4 : Hp} {w w2 w4 : World} {m : Nat} {x : Loc} {q : Lp} {rec o2 : Obj} (hr : HR e h w) (hx : e m 0 = some x) (hget : h.get m = some (.lp q)) (hob : w.heap[x.r]? = some rec)
 (x1 : Ext e h w e2 h2 w2) (x2 : Ext e2 ⟨setT (.sit 0 0 8) (path m) h2.t, h2.n, h2.lk⟩ (w2.putObj x.r o2) e4 h4 w4) (hbr : BR e4 (.lp q) 0 x (some rec)) :
 Ext e h w e4 ⟨setT (.lp q) (path m) h4.t, h4.n, h4.lk⟩ (w4.putObj x.r rec) := by
 have hm : m < h.n := (hr.lt m 0 x hx).2
 have hlt : x.r < w.heap.size := (hr.lt m 0 x hx).1
 have hx4 : e4 m 0 = some x := x2.le _ _ _ (x1.le _ _ _ hx)
 generalize hh3 : (⟨setT (.sit 0 0 8) (path m) h2.t, h2.n, h2.lk⟩ : Hp) = h3 at x2
 have get3 : ∀ b, h3.get b = if b = m then some (.sit 0 0 8) else h2.get b := fun b => by rw [← hh3]; exact Hp.get_set _ _ h2.n _ _ _
 have n3 : h3.n = h2.n := by rw [← hh3]
 have lk3 : h3.lk = h2.lk := by rw [← hh3]
 have ro3 : ∀ b, h.ro b → h3.ro b := by
  intro b hb
  have h5 := hb.step x1.ro x1.n x1.lk
  refine ⟨by rw [n3]; exact h5.1, ?_⟩
  by_cases hbm : b = m
  · exact .inl ⟨.sit 0 0 8, by rw [get3, if_pos hbm], rfl, rfl, .inl rfl⟩
  · rcases h5.2 with ⟨l, h6, h7⟩ | h6
    · exact .inl ⟨l, by rw [get3, if_neg hbm]; exact h6, h7⟩
    · exact .inr ((okw_lk lk3 b).trans h6)
 have rom : h.ro m := ⟨hm, .inl ⟨_, hget, trivial⟩⟩
 have get4 : h4.get m = some (.sit 0 0 8) := by rw [x2.ro m (ro3 m rom), get3, if_pos rfl]
 have size3 : w2.heap.size ≤ w4.heap.size := by
  have := x2.size
  rw [World.putObj_size] at this; exact this
 refine ⟨x1.le.trans x2.le, x2.hr.turn hx4 get4 id hbr, fun b g y hy => ?_, fun b g y hy => ?_, fun r hrlt hro => ?_, fun b hb hno => ?_, fun b hb => ?_, ?_, ?_, ?_, ?_, ?_⟩
 · rcases x2.names b g y hy with ⟨g0, y0, h0⟩ | h0
   · exact x1.names b g0 y0 h0
   · rw [n3] at h0; exact .inr (Nat.le_trans x1.n h0)
 · rcases x2.blocks b g y hy with ⟨g0, y0, h0, hr0⟩ | h0
   · rcases x1.blocks b g0 y0 h0 with ⟨g1, y1, h1, hr1⟩ | h1
     · exact .inl ⟨g1, y1, h1, hr1.trans hr0⟩
     · exact .inr (hr0 ▸ h1)
   · rw [World.putObj_size] at h0; exact .inr (Nat.le_trans x1.size h0)
 · by_cases hrx : r = x.r
   · subst hrx
     rw [World.putObj_heap_same (by have := x1.size; omega), hob]
   · rw [World.putObj_heap_other hrx, x2.frame r (by rw [World.putObj_size]; have := x1.size; omega) ?_, World.putObj_heap_other hrx, x1.frame r hrlt hro]
     intro b g y hy hyr
     rcases x1.blocks b g y hy with ⟨g0, y0, h0, hr0⟩ | h0
     · exact ro3 b (hro b g0 y0 h0 (hr0.trans hyr))
     · omega
 · have hbm : b ≠ m := fun hh => by rw [hh, ] at hno; rw [hno 0] at hx; cases hx
   rw [Hp.get_set _ _ h4.n, if_neg hbm]
   refine (x2.ours b (by rw [n3]; exact Nat.lt_of_lt_of_le hb x1.n) fun g => ?_).trans ?_
   · cases hy : e2 b g with
     | none => rfl
     | some y =>
      rcases x1.names b g y hy with ⟨g0, x0, h0⟩ | h0
      · rw [hno g0] at h0; cases h0
      · omega
   · rw [get3, if_neg hbm]; exact x1.ours b hb hno
 · rw [Hp.get_set _ _ h4.n]
   by_cases hbm : b = m
   · rw [if_pos hbm, hbm, hget]
   · rw [if_neg hbm]
     refine (x2.ro b (ro3 b hb)).trans ?_
     rw [get3, if_neg hbm]; exact x1.ro b hb
 · have := x2.n
   rw [n3] at this
   exact Nat.le_trans x1.n this
 · rw [World.putObj_size]; exact Nat.le_trans x1.size size3
 · exact x2.os.trans x1.os
 · exact x2.output.trans x1.output
 · exact x2.lk.trans (lk3.trans x1.lk)
theorem rf_sim (hn : Named C.P) {n : Nat} {x : Operand} {ps : Array Tmp} {y z : Code} {s : Sx} (hs : sx C x = some s) (hps : ∀ t ∈ ps.toList, t < n) (hfy : flatC y = true) (hfz : flatC z = true) (k : Nat) (c : CallT) (hc : CallOK C c)
 (f : Fr) (h : Hp) (e : Emb) (a : Act) (w : World) (Q : Exit → Act → World → Prop) (hg : GR C e) (hf : FN a.defers n e f a) (hdf : DF b0 e w a.defers) (hr : HR e h w) (hp : Post C b0 n e h w Q (runC (.rf C s n ps.toList y z) k c f h)) :
 (Code.rangeFunc x ps y z).wpIn (fw none) 0 C.P Q a w := by
 by_cases hx : ∃ g caps, ev f s = .fn g [] caps ∧ and (hasBody C g) (not (Nat.ble yF g)) = true
 case neg =>
  obtain ⟨q, hq⟩ := runC_rf_no C s n ps.toList y z k c f h fun g caps hh => by
   cases hb : and (hasBody C g) (not (Nat.ble yF g)) with
   | false => rfl
   | true => exact absurd ⟨g, caps, hh, hb⟩ hx
  rw [hq] at hp; exact hp.elim
 case pos =>
 obtain ⟨g, caps, hx, hb⟩ := hx
 rw [runC_rf C s n ps.toList y z k c f h hx hb] at hp
 rw [Bool.and_eq_true, Bool.not_eq_true'] at hb
 have hv := sx_VR hg hf.1 hs
 rw [hx] at hv
 generalize hax : a.eval x = ax at hv
 cases hv with
 | yld m y0 _ _ => exact absurd hb.2 (by decide)
 | fn _ _ _ a' lb hgy hva hvb =>
 cases hva
 cases hcall : c g (.fn yF [] [.ptr h.n 0 0] :: caps) ⟨setT (.lp ⟨n, f, ps.toList, y, z⟩) (path h.n) h.t, h.n + 1, h.lk⟩ with
 | no q => rw [hcall] at hp; exact hp.elim
 | ok v h3 =>
 rw [hcall] at hp
 have hp : Post C b0 n e h w Q (.norm f ⟨setT (.sit 0 0 8) (path h.n) h3.t, h3.n, h3.lk⟩) := hp
 refine wpIn_rangeFunc fun fn _ => ?_
 have x0 : Ext e h w e h (w.alloc (.deferred (some []))) := (Ext.refl hr).aside (by simp) (fun r hr' _ => heap_alloc_old _ _ hr') rfl rfl
 obtain ⟨rec, hrec⟩ : ∃ rec : Loop, rec = { state := .ready, pending := none, fn := fn, tmps := a.tmps, params := ps, assign := y, body := z, defers := w.heap.size } := ⟨_, rfl⟩
 obtain ⟨e1, n1, x1⟩ := x0.hr.alloc (.lp ⟨n, f, ps.toList, y, z⟩) (.loop rec) ⟨w.heap.size + 1, 0, 0, 0⟩ (by simp) (fun e' hle _ => by
  have := BR.lp (e := e') (b := .lp ⟨n, f, ps.toList, y, z⟩) (g := 0) (x := ⟨w.heap.size + 1, 0, 0, 0⟩) ⟨n, f, ps.toList, y, z⟩ fn a.tmps w.heap.size rfl rfl (Nat.le_refl _) (fun t => (hf.1.1 t).mono hle) hf.2.1 hps hfy hfz
  rw [hrec]
  simpa using this)
 generalize hw1 : (w.alloc (.deferred (some []))).alloc (.loop rec) = w1 at x1
 generalize hh1 : (⟨setT (.lp ⟨n, f, ps.toList, y, z⟩) (path h.n) h.t, h.n + 1, h.lk⟩ : Hp) = h1 at x1 hcall
 have hD1 : w1.heap[w.heap.size]? = some (.deferred (some [])) := by
  rw [← hw1, heap_alloc_old _ _ (by simp)]; exact heap_alloc_new _ _
 have hL1 : w1.heap[w.heap.size + 1]? = some (.loop rec) := by
  rw [← hw1]
  have := heap_alloc_new (w.alloc (.deferred (some []))) (.loop rec)
  simpa using this
 have hget1 : h1.get h.n = some (.lp ⟨n, f, ps.toList, y, z⟩) := by rw [← hh1, Hp.get_set _ _ h.n, if_pos rfl]
 have hn1 : h1.n = h.n + 1 := by rw [← hh1]
 have xx := x0.trans x1
 have hDn : ∀ b g0 y0, e1 b g0 = some y0 → y0.r ≠ w.heap.size := by
  intro b g0 y0 hy hh
  have hbr := x1.hr.at' b g0 y0 hy
  obtain ⟨blk, _, k2⟩ := hbr
  rcases x1.blocks b g0 y0 hy with ⟨g2, y2, k3, k4⟩ | k3
  · have := (hr.lt b g2 y2 k3).1
    omega
  · have : (w.alloc (.deferred (some []))).heap.size = w.heap.size + 1 := by simp
    omega
 have hdf1 : DF b0 e1 w1 ({ target := .collected w.heap.size, args := #[] } :: a.defers) := DF.cons hD1 hDn hdf (hdf.ext xx)
 have hargs : VRL e1 (.fn yF [] [.ptr h.n 0 0] :: caps) (.func (.yield (w.heap.size + 1)) #[] #[] :: lb) := .cons _ _ _ _ (.yld h.n _ n1 (Nat.le_refl _)) (hvb.mono xx.le)
 obtain ⟨fn2, hfn2, hbody⟩ : ∃ fn2, C.P.funcs[g]? = some fn2 ∧ fn2.body ≠ none := by
  have h1 := hb.1
  unfold hasBody at h1
  rw [nthA_eq, Array.getElem?_toList] at h1
  cases hq : C.P.funcs[g]? with
  | none => rw [hq] at h1; cases h1
  | some fn2 =>
   rw [hq] at h1
   refine ⟨fn2, rfl, fun hh => ?_⟩
   simp only [hh] at h1
   cases h1
 obtain ⟨b2, hb2⟩ : ∃ b2, fn2.body = some b2 := by
  cases hq : fn2.body with
  | none => exact absurd hq hbody
  | some b2 => exact ⟨b2, rfl⟩
 have henter : ∀ args w, (callFunc g args).run C.P w = .ok (.enter g args) w := fun args w => run_callFunc hfn2 (hn g fn2 hfn2 hbody) hb2
 have hcalls : Calls C.P g (.func (.yield (w.heap.size + 1)) #[] #[] :: lb).toArray w1 fun en w' => ∃ v' e', en = .returned v' ∧ VR e' v v' ∧ Ext e1 h1 w1 e' h3 w' := by
  rcases hc g _ h1 v h3 hcall with ⟨_, _, hcall2⟩ | ⟨_, hval⟩ | ⟨hh, _⟩
  · exact hcall2 e1 w1 _ (hg.mono xx.le) hargs x1.hr
  · obtain ⟨v', w', e', k1, _⟩ := hval e1 w1 _ (hg.mono xx.le) hargs x1.hr
    rw [henter] at k1; cases k1
  · rw [hh] at hgy; cases hgy
 refine ⟨w.heap.size + 1, [{ target := .collected w.heap.size, args := #[] }], w1, { target := .fn (.func g) lb.toArray, args := #[.func (.yield (w.heap.size + 1)) #[] #[]] }, w1, g, (.func (.yield (w.heap.size + 1)) #[] #[] :: lb).toArray, w1, ?_, ?_, fun _ _ => trivial, ?_, (fun hh => by cases hh), callsIn_fw (Calls.mono hcalls fun en w2 he => ?_)⟩
 · rw [← hw1, hrec]; exact run_enterLoop_outer _ _ _ _ _
 · simp only [resolve, hax]
   simp [go_sem]
 · have : #[.func (.yield (w.heap.size + 1)) #[] #[]] ++ lb.toArray = (Value.func (.yield (w.heap.size + 1)) #[] #[] :: lb).toArray := by
    apply Array.toList_inj.1; simp
   simp only [invoke]
   rw [this]; exact henter _ _
 · obtain ⟨v', e2, rfl, _, x2⟩ := he
   have hget3 : h3.get h.n = some (.lp ⟨n, f, ps.toList, y, z⟩) := (x2.ro h.n ⟨by rw [hn1]; exact Nat.lt_succ_self _, .inl ⟨_, hget1, trivial⟩⟩).trans hget1
   have hm2 : e2 h.n 0 = some ⟨w.heap.size + 1, 0, 0, 0⟩ := x2.le _ _ _ n1
   obtain ⟨blk, k1, k2⟩ := x2.hr.at' _ _ _ hm2
   rw [hget3] at k1; cases k1
   generalize hob : w2.heap[w.heap.size + 1]? = ob at k2
   cases k2 with
   | cells _ _ _ q => exact q.cells.elim
   | map _ _ _ _ hh => cases hh
   | sit _ _ hh => cases hh
   | iter _ _ _ _ hh => cases hh
   | busy _ hh => cases hh
   | dfr hh => cases hh
   | lp q fn3 tm3 df3 hh _ _ _ _ _ _ _ =>
    refine ⟨none, _, run_endLoop hob (by simp), ?_⟩
    have x3 : Ext e h w e2 h3 w2 := xx.trans x2
    have x4 := x3.turn hm2 (Nat.le_refl _) (Nat.le_succ _) hget3 id (BR.busy (e := e2) (b := .sit 0 0 8) (g := 0) (x := ⟨w.heap.size + 1, 0, 0, 0⟩) (.loop { state := .exhausted, pending := none, fn := fn3, tmps := tm3, params := q.ps.toArray, assign := q.a, body := q.b, defers := df3 }) rfl rfl (Nat.le_refl _))
    refine hp e2 _ _ x4 ⟨(hf.mono x4.le).1, (hf.mono x4.le).2.1, rfl⟩ ?_
    exact (hdf1.ext x2).other (r := w.heap.size + 1) (fun o hh => by rw [hob] at hh; cases hh) (fun k hk => World.putObj_heap_other hk) (by rw [World.putObj_size]; exact Nat.le_refl _)
end Go.Ab
namespace Go.Ab
variable [Val]
open Go
variable {C : Cx} {R : Option Nat → Prop} {b0 : Nat}
theorem keyd (e : Emb) (h : Hp) (w : World) (hr : HR e h w) {r : Nat} {x : Loc} (hx : e r 0 = some x) {no : Out} {k : Es → Out} {P : Out → Prop} (hno : ¬ P no) (hk : P (h.onMap r no k)) :
 ∃ es es' clock l, h.get r = some (.map es) ∧ w.heap[x.r]? = some (.map es' clock) ∧ ERL e es l ∧ l.Perm (es'.toList.map fun m => (m.key, m.val)) ∧ bornOK es' clock ∧ P (k es) := by
 obtain ⟨blk, hget, hbr⟩ := hr.at' r 0 x hx
 unfold Hp.onMap at hk
 rw [hget] at hk
 have hk : P (blk.onMap no k) := hk
 cases blk with
 | flat l fz => exact (hno hk).elim
 | grown t n g fz => exact (hno hk).elim
 | sit n b p => exact (hno hk).elim
 | lp q => exact (hno hk).elim
 | map es =>
  have hk : P (k es) := hk
  generalize hw : w.heap[x.r]? = ob at hbr
  cases hbr with
  | cells c t fr q => exact q.cells.elim
  | sit s pos a _ => cases a
  | iter _ _ _ _ a _ => cases a
  | lp q0 fn0 tm0 df0 a => cases a
  | busy o0 a => cases a
  | dfr a => cases a
  | map es2 es' clock l a _ p q r s => cases a; exact ⟨_, _, _, _, hget, rfl, p, q, s, hk⟩
theorem Post.noP {b0 n : Nat} {e : Emb} {h : Hp} {w : World} {Q : Exit → Act → World → Prop} (q : String) : ¬ Post C b0 n e h w Q (.no q) := fun h => h
theorem mloop_sim {n : Nat} {a b : Code} {M : MLs} (hml : mlOf C n a b = some M) (hcode : ∀ cd, SizeOf.sizeOf cd < SizeOf.sizeOf b → CodeOK C R n cd) (k : Nat) (c : CallT) (hc : CallOK C c) (f : Fr) (h : Hp) (e : Emb) (act : Act) (w : World) (Q : Exit → Act → World → Prop)
 (hg : GR C e) (hf : FN act.defers n e f act) (hdf : DF b0 e w act.defers) (hr : HR e h w) (hp : Post C b0 n e h w Q (runC (mkML C n M (mkC C n b)) k c f h)) : (Code.seq a b).ow R C.P Q act w := by
 obtain ⟨id, ops, out, id1, ops1, o, o1, o2, t, body, K⟩ := mlOf_spec hml
 unfold mkML at hp
 cases hsx : sx C M.x with
 | none => rw [hsx] at hp; exact (Post.noP _ hp).elim
 | some x =>
 cases hbo : bodyOf M.pr.isSome (mkC C n b) with
 | none => rw [hsx, hbo] at hp; exact (Post.noP _ hp).elim
 | some bc =>
 rw [hsx, hbo] at hp
 simp only at hp
 cases hmc : mlC C n M x bc with
 | none => rw [hmc] at hp; exact (Post.noP _ hp).elim
 | some cc =>
 rw [hmc] at hp
 obtain ⟨m, rfl, mpre, mx, mit, mpr, mnxt, ment, mds, mown, mcs, mfl⟩ := mlC_spec hmc
 have hround : RoundOK C R n m bc M.it body := by
  have hbody : SizeOf.sizeOf body < SizeOf.sizeOf b := by rw [K.hb]; simp; omega
  cases hpr : M.pr with
  | none =>
   rw [hpr, K.hb] at hbo
   have hbo : bodyOf false _ = some bc := hbo
   rw [bodyOf_plain] at hbo
   cases hbo
   exact round_plain (by rw [mpr, hpr]; rfl) (by rw [ment, hpr]) rfl (hcode body hbody)
  | some q =>
   have hq := K.pr
   rw [hpr] at hq
   obtain ⟨id2, ops2, code, oe, rfl, q1, q2, q3, q4, q5⟩ := entOf_spec hq.symm
   rw [hpr, K.hb] at hbo
   have hbo : bodyOf true _ = some bc := hbo
   have := bodyOf_entry hbo
   exact round_entry q1 q3 q4 (by rw [mpr, hpr]; rfl) (by rw [ment, hpr]; simp only [q2]) this (hcode code (by rw [K.hb]; simp; omega))
 rw [K.ha]
 refine ow_seq (ow_region ?_)
 obtain ⟨g1, g2, g3⟩ := slotOK_spec K.it
 have hsz : ops.size = M.pre.length + 1 := by rw [← Array.length_toList, K.pre]; simp
 have hlast : ops[M.pre.length]? = some o := by rw [← Array.getElem?_toList, K.pre]; simp
 have hpre : ∀ (i : Nat) (o' : Oper), M.pre[i]? = some o' → ops[0 + i]? = some o' := by
  intro i o' hi
  rw [← Array.getElem?_toList, K.pre, Nat.zero_add, List.getElem?_append_left (List.getElem?_eq_some_iff.1 hi).1]
  exact hi
 have hrange : List.range ops.size = List.range' 0 M.pre.length ++ [M.pre.length] := by
  rw [hsz, List.range_succ, List.range_eq_range']
 rw [hrange]
 have hp : Post C b0 n e h w Q ((runR m.pre c f h).bd Out.no (fun f h => (ev f m.x).onMap Out.no (.no "range: nil map") fun r => h.onMap r (.no "range: no map") fun es => ifb (h.okw h.n) ((h.add (.sit 0 0 7)).bd fun h2 => (setP (.ptr h.n 0 0) m.it f).bd fun f2 => loopEs m (runC bc k) c f2 h2 r es) (.no "range: locked")) Out.exit) := hp
 rcases runR_norm c m.pre f h with ⟨f1, h1, hx⟩ | ⟨q, hx⟩
 · rw [hx] at hp
   have hp : Post C b0 n e h w Q ((ev f1 m.x).onMap Out.no (.no "range: nil map") fun r => h1.onMap r (.no "range: no map") fun es => ifb (h1.okw h1.n) ((h1.add (.sit 0 0 7)).bd fun h2 => (setP (.ptr h1.n 0 0) m.it f1).bd fun f2 => loopEs m (runC bc k) c f2 h2 r es) (.no "range: locked")) := hp
   have hx' : runR (mkSeq C n ops.toList M.pre) c f h = .norm f1 h1 := by rw [← K.preOps, ← mpre]; exact hx
   refine seq_simK hc M.pre 0 hpre f h e act w f1 h1 hg hf hr hx' fun e1 a1 w1 hext1 hf1 => ?_
   have hg1 := hg.mono hext1.le
   have vx := sx_VR hg1 hf1.1 hsx
   rw [mx] at hp
   generalize ev f1 x = vv at vx hp
   generalize hav : a1.eval M.x = av at vx
   cases vx <;> first | exact (Post.noP _ hp).elim | skip
   case remv t k h3 h4 h5 =>
    rw [show ∀ (no : String → Out) (nl : Out) (k : Nat → Out), (AV.nil t).onMap no nl k = no "map" from fun no nl k => by
     show Bool.rec (motive := fun _ => Out) (no "map") nl (Nat.beq t 2) = _
     rw [show Nat.beq t 2 = false from beq_small (by omega) (by omega)]] at hp
    exact (Post.noP _ hp).elim
   case tok t h3 h4 =>
    rw [show ∀ (no : String → Out) (nl : Out) (k : Nat → Out), (AV.nil t).onMap no nl k = no "map" from fun no nl k => by
     show Bool.rec (motive := fun _ => Out) (no "map") nl (Nat.beq t 2) = _
     rw [show Nat.beq t 2 = false from beq_small (by omega) (by omega)]] at hp
    exact (Post.noP _ hp).elim
   case modv t k h3 h4 h5 h6 h7 =>
    rw [show ∀ (no : String → Out) (nl : Out) (k : Nat → Out), (AV.nil t).onMap no nl k = no "map" from fun no nl k => by
     show Bool.rec (motive := fun _ => Out) (no "map") nl (Nat.beq t 2) = _
     rw [show Nat.beq t 2 = false from beq_small (by assumption) (by omega)]] at hp
    exact (Post.noP _ hp).elim
   case map r xm hm hmb =>
    have hp : Post C b0 n e h w Q (h1.onMap r (.no "range: no map") fun es => ifb (h1.okw h1.n) ((h1.add (.sit 0 0 7)).bd fun h2 => (setP (.ptr h1.n 0 0) m.it f1).bd fun f2 => loopEs m (runC bc k) c f2 h2 r es) (.no "range: locked")) := hp
    obtain ⟨es, es', clock, l, b1, b2, b3, b4, b5, hp⟩ := keyd e1 h1 w1 hext1.hr hm (Post.noP _) hp
    cases hok : h1.okw h1.n with
    | false => rw [hok] at hp; exact (Post.noP _ hp).elim
    | true =>
    rw [hok, ifb_true, Hp.add_eq, Bx.bd_mk, setP_eq, Bx.bd_mk] at hp
    rcases loopEs_cases m (runC bc k) c (setT (.ptr h1.n 0 0) m.it f1) ⟨setT (.sit 0 0 7) (path h1.n) h1.t, h1.n + 1, h1.lk⟩ r es with hloop | ⟨qf, hfl, hloop, hfin⟩
    · rw [hloop] at hp
      obtain ⟨s0, rows, sf, hread, hrows1, hallok, hrows2, hwalk, hp⟩ := mapEs_ok (fun q => Post.noP q) hp
      obtain ⟨kt, vt, hu⟩ := isMapT_spec K.mapT
      rw [owOps_cons]
      refine owOp_val (v := .pointer (some ⟨w1.heap.size, 0, none⟩)) (w' := w1.alloc (.mapIter (some xm.r) clock #[] clock)) hlast g1 ?_ ?_
      · have := run_range_map (P := C.P) w1 t kt vt xm.r es' clock hu b2
        simp only [execOp, K.op, hav, this, Sem.run_bind, Result.andThen_ok, Sem.run_pure]
      rw [g2]
      obtain ⟨e2, n1, hext2⟩ := hext1.hr.alloc (.sit 0 0 7) (.mapIter (some xm.r) clock #[] clock) ⟨w1.heap.size, 0, 0, 0⟩ rfl (fun e' _ _ => .iter _ _ _ _ rfl rfl (Nat.le_refl _))
      generalize hh2 : (⟨setT (.sit 0 0 7) (path h1.n) h1.t, h1.n + 1, h1.lk⟩ : Hp) = h2 at hext2 hread hrows1 hallok hp
      have hget2 : ∀ q, h2.get q = if q = h1.n then some (.sit 0 0 7) else h1.get q := fun q => by rw [← hh2]; exact Hp.get_set _ _ h1.n _ _ _
      have hlk2 : ∀ q, h2.okw q = h1.okw q := fun q => okw_lk (by rw [← hh2]) q
      have hf2 : FN act.defers n e2 (setT (.ptr h1.n 0 0) m.it f1) (a1.put (some M.it) (.pointer (some ⟨w1.heap.size, 0, none⟩))) := by
       rw [mit]
       exact (hf1.mono hext2.le).put g3 (.ptr h1.n 0 0 _ n1 (Nat.le_refl _) (Nat.le_refl _))
      generalize hff : setT (.ptr h1.n 0 0) m.it f1 = f2 at hf2 hread hrows1 hallok hp
      have hitf : slot f2 M.it = .ptr h1.n 0 0 := by rw [← hff, mit, slot_set, if_pos rfl]
      generalize (a1.put (some M.it) (.pointer (some ⟨w1.heap.size, 0, none⟩))) = a2 at hf2
      generalize hw2 : w1.alloc (.mapIter (some xm.r) clock #[] clock) = w2 at hext2
      generalize hexx : exOf h2 f2 [] = ex at hread hrows1 hallok hp
      generalize hcs : (m.cs.filter fun p => (slotV f2 p).isSome) = cs at hread hrows1 hp
      have hcsm : ∀ p ∈ cs, p ∈ m.cs := fun p hp => by rw [← hcs] at hp; exact (List.mem_filter.1 hp).1
      have hcsown : ∀ p ∈ cs, p ≠ path M.it := fun p hp => mown p (.inr (mcs p (hcsm p hp)).1)
      obtain ⟨hread1, hread2⟩ := readSt_spec hread
      have hrm : r ≠ h1.n := fun hh => Nat.lt_irrefl _ (hh ▸ (hext1.hr.lt _ _ _ hm).2)
      have MA : MapAt C n m bc M.it M.nx M.more e2 h2 w2 f2 ex cs h1.n w1.heap.size r xm.r clock ⟨w1.heap.size, 0, 0, 0⟩ xm es l es' := by
       refine ⟨mit, fun hh => ?_, fun hh => hcsown _ hh rfl, (mds _).2 (.inl rfl), fun hh => (mcs _ (hcsm _ hh)).2.1 rfl, (mds _).2 (.inr (.inl rfl)), fun hh => (mcs _ (hcsm _ hh)).2.2 rfl, (slotOK_spec K.more).2.2,
        fun p hp => (mds p).2 (.inr (.inr (.inr (.inl hp)))), fun p hp => (mds p).2 (.inr (.inr (.inr (.inr hp)))), fun p hp => (mds p).2 (.inr (.inr (.inl (by rw [hp]; simp)))), fun q hq => ⟨List.all_eq_true.1 hallok q hq, ?_⟩, n1, rfl, by rw [hget2, if_pos rfl], by rw [hlk2]; exact hok, hext2.le _ _ _ hm, rfl,
        by rw [hget2, if_neg hrm]; exact b1, b3.mono hext2.le, b5, hitf, hg1.mono hext2.le⟩
       · rcases (mds _).1 hh with h3 | h3 | h3
         · exact K.nxit (path_inj _ _ h3).symm
         · exact K.mrit (path_inj _ _ h3).symm
         · exact mown _ h3 rfl
       · obtain ⟨v, _, hv⟩ := readCs_cell hread1 hq
         exact ⟨v, hv⟩
      have hlen : lenA es = l.length := by rw [b3.length]; simp
      show (Code.ow R C.P b Q a2 w2)
      rw [K.hb]
      obtain ⟨k1, k2, k3⟩ := putCs_spec ex s0.1 h2 h2 hread1
      have hsame : h2.grew (putCs ex s0.1 h2).out := ⟨by rw [k1]; exact Nat.le_refl _, fun q _ => by rw [k3]; split <;> rfl, k2⟩
      refine ow_block (ow_of_owL (rounds_sim (b0 := b0) (sf := sf) (Q := Exit.inBlock out Q) MA hrows1 (by rw [← b3.length, ← hlen]; exact hrows2) hc hround K.two K.next K.nx K.extr K.more mnxt.symm (fun aF wF hextF hfF dF => ?_) _ (List.range (lenA es)) rfl s0 a2 w2 ?_))
      · show Exit.inBlock out Q (.exit out) aF wF
        simp only [Exit.inBlock, if_true]
        exact hp e2 aF wF (hext1.trans (hext2.trans hextF)) hfF dF
      · refine ⟨(Ext.refl hext2.hr).grow hsame, ⟨⟨fun q => ?_, hf2.1.2⟩, hf2.2.1, rfl⟩, ?_, ⟨#[], ?_, ?_⟩, ?_, hwalk, ⟨f2, h2, hread⟩, by rw [hf2.2.2]; exact hdf.ext (hext1.trans hext2)⟩
        · rw [putSs_slot cs s0.2 _ f2 q hread2]
          by_cases hq : path q ∈ cs
          · rw [if_pos hq]; exact hf2.1.1 q
          · rw [if_neg hq, anyAll_slot]
            by_cases hd : path q ∈ m.ds
            · rw [if_pos hd]; exact .any _
            · rw [if_neg hd]; exact hf2.1.1 q
        · rw [← hw2, heap_alloc_old _ _ (hext1.hr.lt _ _ _ hm).1]; exact b2
        · rw [← hw2]; exact heap_alloc_new _ _
        · have hleft : (leftOf es' #[]).toList = es'.toList := by
           unfold leftOf
           rw [Array.toList_filter, List.filter_eq_self]
           intro q _
           simp
          rw [hleft, hlen, range_get]
          have := b4.map some
          simpa [List.map_map, Function.comp_def] using this
        · intro i hi
          rw [List.mem_range] at hi
          simpa using hi
    · rw [hloop] at hp
      rcases fillEs_spec (m := m) (q := qf) (c := c) (f := setT (.ptr h1.n 0 0) m.it f1) (h := ⟨setT (.sit 0 0 7) (path h1.n) h1.t, h1.n + 1, h1.lk⟩) (r := r) (es := es) with ⟨q, hq⟩ | ⟨rt, est, hA, rs, z0, z1, z2, z3, z4, z5, z6⟩
      · rw [hq] at hp; exact (Post.noP _ hp).elim
      rw [z6] at hp
      obtain ⟨kt, vt, hu⟩ := isMapT_spec K.mapT
      rw [owOps_cons]
      refine owOp_val (v := .pointer (some ⟨w1.heap.size, 0, none⟩)) (w' := w1.alloc (.mapIter (some xm.r) clock #[] clock)) hlast g1 ?_ ?_
      · have := run_range_map (P := C.P) w1 t kt vt xm.r es' clock hu b2
        simp only [execOp, K.op, hav, this, Sem.run_bind, Result.andThen_ok, Sem.run_pure]
      rw [g2]
      obtain ⟨e2, n1, hext2⟩ := hext1.hr.alloc (.sit 0 0 7) (.mapIter (some xm.r) clock #[] clock) ⟨w1.heap.size, 0, 0, 0⟩ rfl (fun e' _ _ => .iter _ _ _ _ rfl rfl (Nat.le_refl _))
      generalize hh2 : (⟨setT (.sit 0 0 7) (path h1.n) h1.t, h1.n + 1, h1.lk⟩ : Hp) = h2 at hext2 z1 z2 z4 hp
      have hget2 : ∀ q, h2.get q = if q = h1.n then some (.sit 0 0 7) else h1.get q := fun q => by rw [← hh2]; exact Hp.get_set _ _ h1.n _ _ _
      have hlk2 : ∀ q, h2.okw q = h1.okw q := fun q => okw_lk (by rw [← hh2]) q
      have hf2 : FN act.defers n e2 (setT (.ptr h1.n 0 0) m.it f1) (a1.put (some M.it) (.pointer (some ⟨w1.heap.size, 0, none⟩))) := by
       rw [mit]
       exact (hf1.mono hext2.le).put g3 (.ptr h1.n 0 0 _ n1 (Nat.le_refl _) (Nat.le_refl _))
      generalize hff : setT (.ptr h1.n 0 0) m.it f1 = f2 at hf2 z0 z4 hp
      have hitf : slot f2 M.it = .ptr h1.n 0 0 := by rw [← hff, mit, slot_set, if_pos rfl]
      generalize (a1.put (some M.it) (.pointer (some ⟨w1.heap.size, 0, none⟩))) = a2 at hf2
      generalize hw2 : w1.alloc (.mapIter (some xm.r) clock #[] clock) = w2 at hext2
      have hrm : r ≠ h1.n := fun hh => Nat.lt_irrefl _ (hh ▸ (hext1.hr.lt _ _ _ hm).2)
      have MA : MapAt C n m bc M.it M.nx M.more e2 h2 w2 f2 [] [] h1.n w1.heap.size r xm.r clock ⟨w1.heap.size, 0, 0, 0⟩ xm es l es' := by
       refine ⟨mit, fun hh => ?_, (fun hh => by cases hh), (mds _).2 (.inl rfl), (fun hh => by cases hh), (mds _).2 (.inr (.inl rfl)), (fun hh => by cases hh), (slotOK_spec K.more).2.2,
        fun p hp => (mds p).2 (.inr (.inr (.inr (.inl hp)))), fun p hp => (mds p).2 (.inr (.inr (.inr (.inr hp)))), fun p hp => (mds p).2 (.inr (.inr (.inl (by rw [hp]; simp)))), (fun q hq => by cases hq), n1, rfl, by rw [hget2, if_pos rfl], by rw [hlk2]; exact hok, hext2.le _ _ _ hm, rfl,
        by rw [hget2, if_neg hrm]; exact b1, b3.mono hext2.le, b5, hitf, hg1.mono hext2.le⟩
       rcases (mds _).1 hh with h3 | h3 | h3
       · exact K.nxit (path_inj _ _ h3).symm
       · exact K.mrit (path_inj _ _ h3).symm
       · exact mown _ h3 rfl
      rw [mfl] at hfl
      obtain ⟨pq, qq, kd, pm, pk, pv, y1, y2, y3, rfl⟩ := flOf_spec hfl
      have hq0 := K.pr
      rw [y1] at hq0
      obtain ⟨id2, ops2, code, oe, hbody, q1, q2, q3, q4, q5⟩ := entOf_spec hq0.symm
      have hq1 := K.fill
      rw [y2] at hq1
      obtain ⟨id2', id3, ops2', ops3, tU, x', y', z', hbody2, r1, r2, r3, r4, r5⟩ := fillOf_spec hq1.symm
      rw [hbody] at hbody2
      cases hbody2
      obtain ⟨k1, rfl, rfl, rfl⟩ := mu_spec r3 y3
      have FB : FillBody C n m (mkSeq C n qq.1 qq.2.1, kd, path x', path y', path z') M.it body pq.1 id2 id3 ops2 ops3 oe qq.2.2 pq.2.1 qq.2.1 tU x' y' z' :=
       ⟨hbody, q1, q3, q4, by rw [mpr, y1]; rfl, by rw [ment, y1]; simp only [q2], r1, r3, r4, r5, k1, by rw [r2], rfl, rfl, rfl⟩
      have hbcc : bc = mkC C n (.region id3 ops3 false) := by
       rw [y1, K.hb, hbody] at hbo
       exact bodyOf_entry hbo
      obtain ⟨ts, z0⟩ := z0
      have vt := hf2.1.1 ts
      rw [z0] at vt
      obtain ⟨xt, hxt⟩ : ∃ xt, e2 rt 0 = some xt := by
       generalize a2.tmps.getD ts undef = u at vt
       cases vt with
       | map _ y k1 _ => exact ⟨y, k1⟩
      have FA : FillAt C n m (mkSeq C n qq.1 qq.2.1, kd, path x', path y', path z') c e2 h2 w2 f2 es rt xt est hA rs xm.r := by
       refine ⟨hext2.hr, hxt, z1, z2, fun hh => z3 (hext2.hr.inj _ _ _ _ _ _ hxt (hext2.le _ _ _ hm) hh).1, z4, z5, fun p hp => (mds p).2 (.inr (.inr (.inr (.inr ?_))))⟩
       rw [hbcc]
       show p ∈ setsR (mkSeq C n ops3.toList ops3.toList)
       rw [r2] at hp
       have hap : mkSeq C n ops3.toList ops3.toList = mkSeq C n ops3.toList qq.2.1 ++ mkSeq C n ops3.toList [qq.2.2] := by
        rw [← mkSeq_append, ← r1]
       rw [hap]
       obtain ⟨sq, k1, k2⟩ := List.mem_filterMap.1 hp
       exact List.mem_filterMap.2 ⟨sq, List.mem_append_left _ k1, k2⟩
      have hlen : lenA es = l.length := by rw [b3.length]; simp
      show (Code.ow R C.P b Q a2 w2)
      rw [K.hb]
      have hrtn : rt ≠ h1.n := fun hh => by
       rw [hget2, if_pos hh] at z1; cases z1
      have hst : Ext e2 h2 w2 e2 (hSt rt est hA []) w2 := by
       refine (Ext.refl hext2.hr).grow ⟨FA.all.n, fun q hq => ?_, FA.all.lk⟩
       rw [hSt_get]
       by_cases hqr : q = rt
       · rw [if_pos hqr, hqr, z1]; simp
       · rw [if_neg hqr, FA.all.old q hq]
         exact (Hp.get_set _ _ h2.n _ _ _).trans (if_neg hqr)
      refine ow_block (ow_of_owL (rounds_fill (ds := act.defers) (Q := Exit.inBlock out Q) MA FA hc FB K.two K.next K.nx K.extr K.more (fun eS aF wF hextF hfF => ?_) _ (List.range (lenA es)) rfl [] e2 a2 w2 ?_))
      · show Exit.inBlock out Q (.exit out) aF wF
        simp only [Exit.inBlock, if_true]
        have hdd := hfF.2.2
        exact hp eS aF wF (hext1.trans (hext2.trans hextF)) (by rw [hdd]; exact hfF) (by rw [hdd]; exact hdf.ext (hext1.trans (hext2.trans hextF)))
      · refine ⟨hst, fun _ _ _ _ _ _ => rfl, fun b g x hx => .inl (hext2.hr.lt _ _ _ hx).2, ⟨⟨fun q => ?_, hf2.1.2⟩, hf2.2⟩, ?_, ⟨#[], ?_, ?_⟩, ?_, ?_⟩
        · rw [anyAll_slot]
          by_cases hd : path q ∈ m.ds
          · rw [if_pos hd]; exact .any _
          · rw [if_neg hd]; exact hf2.1.1 q
        · rw [← hw2, heap_alloc_old _ _ (hext1.hr.lt _ _ _ hm).1]; exact b2
        · rw [← hw2]; exact heap_alloc_new _ _
        · have hleft : (leftOf es' #[]).toList = es'.toList := by
           unfold leftOf
           rw [Array.toList_filter, List.filter_eq_self]
           intro q _
           simp
          rw [hleft, hlen, range_get]
          have := b4.map some
          simpa [List.map_map, Function.comp_def] using this
        · intro i hi
          rw [List.mem_range] at hi
          simpa using hi
        · rw [List.map_nil, List.nil_append, show lenA es = rs.length by rw [lenA_eq, FA.all.len], range_get]
 · rw [hx] at hp; exact (Post.noP _ hp).elim
theorem code_sim (hd : DrawOK C) (hn : Named C.P) (n : Nat) : ∀ cd : Code, (∀ ro, R ro → ro = none) ∨ flatC cd = true → CodeOK C R n cd := by
 intro cd
 induction hs : SizeOf.sizeOf cd using Nat.strongRecOn generalizing cd with
 | ind sz IH =>
 intro hR
 have IH : ∀ cd', SizeOf.sizeOf cd' < SizeOf.sizeOf cd → (∀ ro, R ro → ro = none) ∨ flatC cd' = true → CodeOK C R n cd' := fun cd' hlt => IH (SizeOf.sizeOf cd') (hs ▸ hlt) cd' rfl
 clear hs
 cases cd with
 | skip => intro b0 k c _ f h e a w Q _ hf hdf hr hp; exact ow_skip (hp e a w (.refl hr) hf hdf)
 | label l => intro b0 k c _ f h e a w Q _ hf hdf hr hp; exact ow_label (hp e a w (.refl hr) hf hdf)
 | exit id => intro b0 k c _ f h e a w Q _ hf hdf hr hp; exact ow_exit (hp e a w (.refl hr) hf hdf)
 | ret => intro b0 k c _ f h e a w Q _ hf hdf hr hp; exact ow_ret (hp e a w (.refl hr) hf hdf)
 | region id ops draw =>
  intro b0 k c hc f h e a w Q hg hf hdf hr hp
  cases draw with
  | true => exact hd R a.defers n id ops c hc f h e a w Q hg hf hr (Post.region hp hdf)
  | false =>
   refine ow_region ?_
   have := seq_sim (Q := Q) hc ops.toList 0 (fun i o hi => by simpa using hi) f h e a w hg hf hr (Post.region hp hdf)
   rw [List.range_eq_range']
   simpa using this
 | seq x y =>
  intro b0 k c hc f h e a w Q hg hf hdf hr hp
  have hm : mkC C n (.seq x y) = match mlOf C n x y with
   | some m => mkML C n m (mkC C n y)
   | none => .seq (mkC C n x) (mkC C n y) := rfl
  rw [hm] at hp
  cases hml : mlOf C n x y with
  | some m =>
   rw [hml] at hp
   rcases hR with hR | hR
   case inr =>
    exfalso
    obtain ⟨id, ops, out, id1, ops1, o, o1, o2, t, body, K⟩ := mlOf_spec hml
    have hR : and (flatC x) (flatC y) = true := hR
    rw [Bool.and_eq_true, K.hb] at hR
    exact absurd hR.2 (by show ¬ (false = true); simp)
   exact mloop_sim (R := R) hml (fun cd' hlt => IH cd' (by simp; omega) (.inl hR)) k c hc f h e a w Q hg hf hdf hr hp
  | none =>
  rw [hml] at hp
  have ihx := IH x (by simp; omega) (hR.imp (fun h => h) fun h => by
   have h : and (flatC x) (flatC y) = true := h
   rw [Bool.and_eq_true] at h; exact h.1)
  have ihy := IH y (by simp; omega) (hR.imp (fun h => h) fun h => by
   have h : and (flatC x) (flatC y) = true := h
   rw [Bool.and_eq_true] at h; exact h.2)
  refine ow_seq (ihx b0 k c hc f h e a w _ hg hf hdf hr ?_)
  have hp : Post C b0 n e h w Q ((runC (mkC C n x) k c f h).bd Out.no (runC (mkC C n y) k c) Out.exit) := hp
  cases hx : runC (mkC C n x) k c f h with
  | norm f2 h2 =>
   rw [hx] at hp
   intro e' a' w' hext hf' hdf'
   exact ihy b0 k c hc f2 h2 e' a' w' Q (hg.mono hext.le) hf' hdf' hext.hr (Post.after hp hext)
  | exit i f2 h2 => rw [hx] at hp; exact hp
  | ret f2 h2 => rw [hx] at hp; exact hp
  | no s => rw [hx] at hp; exact hp
 | cond x y z =>
  intro b0 k c hc f h e a w Q hg hf hdf hr hp
  have ihy := IH y (by simp; omega) (hR.imp (fun h => h) fun h => by
   have h : and (flatC y) (flatC z) = true := h
   rw [Bool.and_eq_true] at h; exact h.1)
  have ihz := IH z (by simp; omega) (hR.imp (fun h => h) fun h => by
   have h : and (flatC y) (flatC z) = true := h
   rw [Bool.and_eq_true] at h; exact h.2)
  have hp : Post C b0 n e h w Q (runC (match sx C x with
   | some c => .cond c (mkC C n y) (mkC C n z)
   | none => .bad "cond") k c f h) := hp
  cases hs : sx C x with
  | none => rw [hs] at hp; exact hp.elim
  | some s =>
   rw [hs] at hp
   have hp : Post C b0 n e h w Q ((ev f s).onBool Out.no fun t => Bool.rec (motive := fun _ => Out) (runC (mkC C n z) k c f h) (runC (mkC C n y) k c f h) t) := hp
   rcases (sx_VR hg hf.1 hs).onBool (no := Out.no) (k := fun t => Bool.rec (motive := fun _ => Out) (runC (mkC C n z) k c f h) (runC (mkC C n y) k c f h) t) with ⟨b, _, h1, h2⟩ | ⟨q, h2⟩
   · rw [h2] at hp
     refine ow_cond h1 ?_
     cases b with
     | true => exact ihy b0 k c hc f h e a w Q hg hf hdf hr hp
     | false => exact ihz b0 k c hc f h e a w Q hg hf hdf hr hp
   · rw [h2] at hp; exact hp.elim
 | block id b =>
  intro b0 k c hc f h e a w Q hg hf hdf hr hp
  have ih := IH b (by simp; omega) (hR.imp (fun h => h) fun h => h)
  refine ow_block (ih b0 k c hc f h e a w _ hg hf hdf hr ?_)
  have hp : Post C b0 n e h w Q ((runC (mkC C n b) k c f h).bd Out.no Out.norm fun i f h => Bool.rec (motive := fun _ => Out) (.exit i f h) (.norm f h) (Nat.beq i id)) := hp
  cases hx : runC (mkC C n b) k c f h with
  | norm f2 h2 => rw [hx] at hp; exact hp
  | ret f2 h2 => rw [hx] at hp; exact hp
  | no s => rw [hx] at hp; exact hp
  | exit i f2 h2 =>
   rw [hx] at hp
   intro e' a' w' hext hf' hdf'
   have hp : Post C b0 n e h w Q (Bool.rec (motive := fun _ => Out) (.exit i f2 h2) (.norm f2 h2) (Nat.beq i id)) := hp
   simp only [Exit.inBlock]
   cases hb : Nat.beq i id with
   | true => rw [hb] at hp; rw [if_pos (beq_iff.1 hb)]; exact hp e' a' w' hext hf' hdf'
   | false =>
    rw [hb] at hp
    rw [if_neg (fun hh => by rw [beq_iff.2 hh] at hb; cases hb)]
    exact hp e' a' w' hext hf' hdf'
 | loop b =>
  intro b0 k c hc f h e a w Q hg hf hdf hr hp
  rcases hR with hR | hR
  case inr => exact absurd hR (by show ¬ (false = true); simp)
  have ih := IH b (by simp) (.inl hR)
  have hp : Post C b0 n e h w Q (rounds (runC (mkC C n b) k) c k f h) := hp
  have key : ∀ (m : Nat) (f : Fr) (h : Hp) (e : Emb) (a : Act) (w : World), GR C e → FN a.defers n e f a → DF b0 e w a.defers → HR e h w → Post C b0 n e h w Q (rounds (runC (mkC C n b) k) c m f h) → owL R C.P b Q a w := by
   intro m
   induction m with
   | zero => intro f h e a w _ _ _ _ hp; exact hp.elim
   | succ m ihm =>
    intro f h e a w hg hf hdf hr hp
    have hp : Post C b0 n e h w Q ((runC (mkC C n b) k c f h).bd Out.no (rounds (runC (mkC C n b) k) c m) Out.exit) := hp
    refine owL_step (ih b0 k c hc f h e a w _ hg hf hdf hr ?_)
    cases hx : runC (mkC C n b) k c f h with
    | norm f2 h2 =>
     rw [hx] at hp
     intro e' a' w' hext hf' hdf'
     exact ihm f2 h2 e' a' w' (hg.mono hext.le) hf' hdf' hext.hr (Post.after hp hext)
    | exit i f2 h2 => rw [hx] at hp; exact hp
    | ret f2 h2 => rw [hx] at hp; exact hp
    | no s => rw [hx] at hp; exact hp
  exact ow_of_owL (key k f h e a w hg hf hdf hr hp)
 | scope b =>
  intro b0 k c hc f h e a w Q hg hf hdf hr hp
  rcases hR with hR | hR
  case inr => exact absurd hR (by show ¬ (false = true); simp)
  have ih := IH b (by simp) (.inl hR)
  have hp : Post C b0 n e h w Q (runC (mkC C n b) k c f h) := hp
  intro ro hro
  rw [hR ro hro]
  refine wpIn_wide.2 (wp_scope_straight (wpIn_wide.1 (ih b0 k c hc f h e a w (Exit.noGoto Q) hg hf hdf hr ?_ none (by rw [← hR ro hro]; exact hro))))
  cases hx : runC (mkC C n b) k c f h with
  | norm f2 h2 => rw [hx] at hp; exact hp
  | ret f2 h2 => rw [hx] at hp; exact hp
  | no s => rw [hx] at hp; exact hp
  | exit i f2 h2 => rw [hx] at hp; exact hp
 | rangeFunc x ps y z =>
  intro b0 k c hc f h e a w Q hg hf hdf hr hp
  rcases hR with hR | hR
  case inr => exact absurd hR (by show ¬ (false = true); simp)
  have hp : Post C b0 n e h w Q (runC (match sx C x, and (ps.all fun t => Nat.ble (t + 1) n) (and (flatC y) (flatC z)) with
   | some s, true => .rf C s n ps.toList y z
   | _, _ => .bad "range over a function") k c f h) := hp
  cases hs : sx C x with
  | none => rw [hs] at hp; exact hp.elim
  | some s =>
   cases hb : and (ps.all fun t => Nat.ble (t + 1) n) (and (flatC y) (flatC z)) with
   | false => rw [hs, hb] at hp; exact hp.elim
   | true =>
    rw [hs, hb] at hp
    rw [Bool.and_eq_true, Bool.and_eq_true] at hb
    intro ro hro
    rw [hR ro hro]
    refine rf_sim hn hs (fun t ht => ?_) hb.2.1 hb.2.2 k c hc f h e a w Q hg hf hdf hr hp
    have := List.all_eq_true.1 (by rw [← Array.all_toList] at hb; exact hb.1) t ht
    exact Nat.le_of_ble_eq_true this
 | _ => intro b0 k c _ f h e a w Q _ _ _ _ hp; exact hp.elim
end Go.Ab
namespace Go.Ab
variable [Val]
open Go
variable {C : Cx}
theorem frameOf_slot : ∀ (l : List AV) (i : Nat) (f : Fr) (t : Nat), slot (frameOf l i f).out t = if i ≤ t ∧ t < i + l.length then (l[t - i]?).getD undefA else slot f t
 | [], i, f, t => by
  rw [if_neg (by simp only [List.length_nil]; omega)]; rfl
 | v :: l, i, f, t => by
  have h1 : frameOf (v :: l) i f = v.force fun v => (setP v (path i) f).bd fun t => frameOf l (Nat.succ i) t := rfl
  rw [h1, force_eq, setP_eq, Bx.bd_mk, frameOf_slot l (Nat.succ i), slot_set]
  simp only [List.length_cons]
  by_cases h2 : Nat.succ i ≤ t ∧ t < Nat.succ i + l.length
  · rw [if_pos h2, if_pos (by omega), show t - i = (t - Nat.succ i) + 1 by omega]
    simp
  · rw [if_neg h2]
    by_cases h3 : t = i
    · subst h3
      rw [if_pos rfl, if_pos (by omega)]
      simp
    · rw [if_neg h3, if_neg (by omega)]
theorem frame_FN {e : Emb} {args : List AV} {args' : List Value} (h : VRL e args args') (n : Nat) : FN [] n e (frameOf args 0 .e).out { tmps := args'.toArray ++ Array.replicate (n - args'.toArray.size) undef, defers := [] } := by
 refine ⟨⟨fun t => ?_, trivial⟩, ?_, rfl⟩
 · rw [frameOf_slot]
   have hl := h.length
   by_cases ht : 0 ≤ t ∧ t < 0 + args.length
   · rw [if_pos ht]
     have hlt : t < args.length := by omega
     obtain ⟨v', h1, h2⟩ := h.get (List.getElem?_eq_getElem hlt)
     have h3 : (args'.toArray ++ Array.replicate (n - args'.toArray.size) undef).getD t undef = v' := by
      rw [Array.getD_eq_getD_getElem?, Array.getElem?_append_left (by simp; omega)]
      simp [h1]
     rw [h3, Nat.sub_zero, List.getElem?_eq_getElem hlt]
     exact h2
   · rw [if_neg ht]
     have h3 : (args'.toArray ++ Array.replicate (n - args'.toArray.size) undef).getD t undef = undef := by
      rw [Array.getD_eq_getD_getElem?, Array.getElem?_append_right (by simp; omega), Array.getElem?_replicate]
      split <;> rfl
     rw [h3, slot_eq, getP_e]
     exact undef_VR e
 · simp; omega
theorem resOf_sim {e : Emb} {f : Fr} {a : Act} {h : Hp} {w : World} (hf : FR e f a) (hr : HR e h w) {r : ResultVar} {p : List Bool × Option Sh} (hp : mkRes C [r] = [p]) {v : AV} (hx : resOf p f h = .ok v) :
 ∃ v', (match r with
  | .tmp t => pure (a.tmps.getD t undef)
  | .cell b t => do loadVar t (← asAddr (a.tmps.getD b undef)) : Sem Value).run C.P w = .ok v' w ∧ VR e v v' := by
 cases r with
 | tmp t =>
  cases hp
  have hx : Res.ok (ev f (.t (path t))) = .ok v := hx
  cases hx
  exact ⟨_, rfl, hf.1 t⟩
 | cell b t =>
  cases hp
  have hx : (ev f (.t (path b))).onPtr Res.no (fun b g o => Sh.rec (motive := fun _ => Res AV) (fun n => (h.readN b g o n).bd fun l => .ok (.agg l)) (h.read1 b g o) (.no "result") (shOf C t)) = .ok v := hx
  rcases (show VR e (ev f (.t (path b))) _ from hf.1 b).onPtr (no := Res.no) (k := fun b g o => Sh.rec (motive := fun _ => Res AV) (fun n => (h.readN b g o n).bd fun l => .ok (.agg l)) (h.read1 b g o) (.no "result") (shOf C t)) with ⟨b2, g, o', y, _, h1, h2, h3, h4, h5⟩ | ⟨q, h5⟩
  · rw [h5] at hx
    simp only [h4, asAddr]
    cases hs : shOf C t with
    | bad => rw [hs] at hx; exact (no_okR hx).elim
    | one =>
     rw [hs] at hx
     obtain ⟨v', k1, k2, _⟩ := hr.read1 h1 h3 hx
     exact ⟨v', by simp [run_loadVar_one hs k1], k2⟩
    | agg n =>
     rw [hs] at hx
     obtain ⟨l, hl, hx⟩ := Res.bd_eq_ok hx
     cases hx
     obtain ⟨l', k1, k2, k3, _⟩ := hr.readN C.P h1 h3 hl
     exact ⟨.agg l'.toArray, by simp [run_loadVar_agg hs k1], .agg _ _ k2 k3⟩
  · rw [h5] at hx; exact (no_okR hx).elim
theorem resL_sim {e : Emb} {f : Fr} {a : Act} {h : Hp} {w : World} (hf : FR e f a) (hr : HR e h w) : ∀ (rs : List ResultVar) (vs : List AV), resL (mkRes C rs) f h = .ok vs →
 ∃ vs', (rs.mapM fun r => (match r with
  | .tmp t => pure (a.tmps.getD t undef)
  | .cell b t => do loadVar t (← asAddr (a.tmps.getD b undef)) : Sem Value)).run C.P w = .ok vs' w ∧ VRL e vs vs'
 | [], vs, hx => by
  cases hx
  exact ⟨[], rfl, .nil⟩
 | r :: rs, vs, hx => by
  have hcons : ∃ p, mkRes C (r :: rs) = p :: mkRes C rs ∧ mkRes C [r] = [p] := by cases r <;> exact ⟨_, rfl, rfl⟩
  obtain ⟨p, hp1, hp2⟩ := hcons
  rw [hp1] at hx
  have hx : (resOf p f h).bd (fun v => (resL (mkRes C rs) f h).bd fun r => .ok (v :: r)) = .ok vs := hx
  obtain ⟨v, h1, hx⟩ := Res.bd_eq_ok hx
  obtain ⟨vs2, h2, hx⟩ := Res.bd_eq_ok hx
  cases hx
  obtain ⟨v', k1, k2⟩ := resOf_sim hf hr hp2 h1
  obtain ⟨vs', k3, k4⟩ := resL_sim hf hr rs vs2 h2
  refine ⟨v' :: vs', ?_, .cons _ _ _ _ k2 k4⟩
  rw [List.mapM_cons]
  simp only [Sem.run_bind, Sem.run_pure]
  erw [k1]
  simp only [Result.andThen_ok]
  erw [k3]
  rfl
theorem leave_sim {e : Emb} {f : Fr} {a : Act} {h h' : Hp} {w : World} {fn : Func} {code : CC} (hf : FR e f a) (hr : HR e h w) {v : AV} (hx : leave ⟨code, mkRes C fn.results.toList⟩ f h = .ok v h') :
 h' = h ∧ ∃ v', (results fn a.tmps).run C.P w = .ok v' w ∧ VR e v v' := by
 have hx : (resL (mkRes C fn.results.toList) f h).bd2 (fun l => .ok (oneOf l) h) = .ok v h' := hx
 obtain ⟨vs, h1, hx⟩ := Res.bd2_eq_ok hx
 cases hx
 obtain ⟨vs', k1, k2⟩ := resL_sim hf hr fn.results.toList vs h1
 refine ⟨rfl, ?_⟩
 have hrun : (results fn a.tmps).run C.P w = .ok (if h : vs'.toArray.size = 1 then vs'.toArray[0] else .tuple vs'.toArray) w := by
  unfold results
  rw [Array.mapM_eq_mapM_toList]
  simp only [Sem.run_bind, Sem.run_map]
  erw [k1]
  rfl
 rw [hrun]
 refine ⟨_, rfl, ?_⟩
 cases k2 with
 | nil => exact .tup [] [] .nil
 | cons v v' l l' hv hl =>
  cases hl with
  | nil => exact hv
  | cons u u' l2 l2' hu hl => exact .tup _ _ (.cons _ _ _ _ hv (.cons _ _ _ _ hu hl))
theorem mkF_spec {g : Nat} {cf : CF} (h : mkF C g = some cf) : ∃ fn b, C.P.funcs[g]? = some fn ∧ fn.body = some b ∧ cf = ⟨mkC C fn.ntmps b, mkRes C fn.results.toList⟩ := by
 unfold mkF at h
 rw [nthA_eq, Array.getElem?_toList] at h
 cases hg : C.P.funcs[g]? with
 | none => rw [hg] at h; cases h
 | some fn =>
  rw [hg] at h
  simp only at h
  cases hb : fn.body with
  | none => rw [hb] at h; cases h
  | some b => rw [hb] at h; cases h; exact ⟨fn, b, rfl, hb, rfl⟩
theorem leaves_DF {e e' : Emb} {h h' : Hp} {w : World} {fn : Func} {tmps : Array Value} {P : Program} {R : Ending → World → Prop} : ∀ (l : List Deferred) (w' : World), Ext e h w e' h' w' → DF w.heap.size e' w' l → (∀ w'', Ext e h w e' h' w'' → LeavesIn Fence.wide 0 P fn tmps R [] .returning w'') → LeavesInM Fence.wide 0 P fn tmps R l .returning w'
 | [], w', x, _, hk => hk w' x
 | d :: l, w', x, hd, hk => by
  obtain ⟨D, h1, h2, h3, h4⟩ := hd.1 d (.head _)
  have hnd := List.nodup_cons.1 hd.2.1
  have x2 : Ext e h w e' h' (w'.putObj D (.deferred none)) := x.aside (by rw [World.putObj_size]; exact Nat.le_refl _) (fun r _ hr => World.putObj_heap_other fun hh => by
   rcases hr with hr | ⟨b, g, y, hy, hyr⟩
   · omega
   · exact h3 b g y hy (hyr.trans hh)) rfl rfl
  refine ⟨(fun hh => by cases hh), .inl ⟨D, w'.putObj D (.deferred none), by rw [h1], run_takeDeferred h2, leaves_DF l _ x2 ⟨fun d2 hd2 => ?_, hnd.2, by rw [World.putObj_size]; exact hd.2.2⟩ hk⟩⟩
  obtain ⟨D2, k1, k2, k3, k4⟩ := hd.1 d2 (.tail _ hd2)
  refine ⟨D2, k1, ?_, k3, k4⟩
  rw [World.putObj_heap_other]
  · exact k2
  · intro hh
    subst hh
    rw [← h1] at k1
    exact hnd.1 (k1 ▸ hd2)
theorem enter_sim (hd : DrawOK C) (hn : Named C.P) {c : CallT} (hc : CallOK C c) {g : Nat} {fn : Func} {b : Code} {k : Nat} {args : List AV} {args' : List Value} {h h' : Hp} {v : AV} (hg : C.P.funcs[g]? = some fn) (hb : fn.body = some b)
 (hx : enter ⟨mkC C fn.ntmps b, mkRes C fn.results.toList⟩ k c args h = .ok v h') {e : Emb} {w : World} (hge : GR C e) (hv : VRL e args args') (hr : HR e h w) :
 Calls C.P g args'.toArray w fun en w' => ∃ v' e', en = .returned v' ∧ VR e' v v' ∧ Ext e h w e' h' w' := by
 refine (callsIn_wide (n := 0)).1 (callsIn_of_wp_marks hg hb trivial ?_)
 have hx : Out.rec (motive := fun _ => R2) (leave ⟨mkC C fn.ntmps b, mkRes C fn.results.toList⟩) (fun _ _ _ => .no "exit") (leave ⟨mkC C fn.ntmps b, mkRes C fn.results.toList⟩) R2.no ((frameOf args 0 .e).bd fun f => runC (mkC C fn.ntmps b) k c f h) = .ok v h' := hx
 rw [Bx.eta (frameOf args 0 .e), Bx.bd_mk] at hx
 refine code_sim (R := fun ro => ro = none) hd hn fn.ntmps b (.inl fun _ hh => hh) w.heap.size k c hc _ h e _ w _ hge (frame_FN hv fn.ntmps) (DF.nil e (Nat.le_refl _)) hr ?_ none rfl
 cases ho : runC (mkC C fn.ntmps b) k c (frameOf args 0 .e).out h with
 | no q => rw [ho] at hx; exact (no_ok hx).elim
 | exit i f2 h2 => rw [ho] at hx; exact (no_ok hx).elim
 | norm f2 h2 =>
  rw [ho] at hx
  intro e' a' w' hext hf' hdf'
  refine leaves_DF a'.defers w' hext hdf' fun w'' hext'' => ?_
  obtain ⟨rfl, v', k1, k2⟩ := leave_sim hf'.1 hext''.hr hx
  exact ⟨v', k1, v', e', rfl, k2, hext''⟩
 | ret f2 h2 =>
  rw [ho] at hx
  intro e' a' w' hext hf' hdf'
  refine leaves_DF a'.defers w' hext hdf' fun w'' hext'' => ?_
  obtain ⟨rfl, v', k1, k2⟩ := leave_sim hf'.1 hext''.hr hx
  exact ⟨v', k1, v', e', rfl, k2, hext''⟩
theorem lastN_append (m : Nat) : ∀ xs : List AV, lastN (xs ++ [.ptr m 0 0]) = some m
 | [] => rfl
 | x :: xs => by
  have h := lastN_append m xs
  cases xs with
  | nil => rfl
  | cons y ys => exact h
theorem putXs_nil : ∀ (ps : List Nat) (f : Fr), putXs ps [] f = none
 | [], _ => rfl
 | _ :: _, _ => rfl
theorem putXs_spec {e : Emb} {m : Nat} : ∀ (ps : List Nat) (xs : List AV) (f : Fr) (r : Fr × Nat) (xs' : List Value) (tmps : Array Value), putXs ps (xs ++ [.ptr m 0 0]) f = some r → VRL e xs xs' → (∀ t, VR e (slot f t) (tmps.getD t undef)) → (∀ t ∈ ps, t < tmps.size) →
 xs'.length = ps.length ∧ (∀ t, VR e (slot r.1 t) (((ps.zip xs').foldl (fun tm (p : Nat × Value) => tm.setIfInBounds p.1 p.2) tmps).getD t undef)) ∧ ((ps.zip xs').foldl (fun tm (p : Nat × Value) => tm.setIfInBounds p.1 p.2) tmps).size = tmps.size
 | [], xs, f, r, xs', tmps, hx, hv, hf, _ => by
  cases xs with
  | nil =>
   cases hv
   have hx : some (f, m) = some r := hx
   cases hx
   exact ⟨rfl, hf, rfl⟩
  | cons x xs =>
   exfalso
   have hx : (match x :: (xs ++ [.ptr m 0 0]) with
    | [.ptr m 0 0] => some (f, m)
    | _ => none) = some r := hx
   cases xs with
   | nil => split at hx <;> first | (rename_i hh; cases hh; done) | cases hx
   | cons y ys => split at hx <;> first | (rename_i hh; cases hh; done) | cases hx
 | p :: ps, xs, f, r, xs', tmps, hx, hv, hf, hp => by
  cases xs with
  | nil =>
   exfalso
   have hx : (setP (.ptr m 0 0) (path p) f).bd (fun f => putXs ps [] f) = some r := hx
   rw [Bx.eta (setP (.ptr m 0 0) (path p) f), Bx.bd_mk, putXs_nil] at hx
   cases hx
  | cons x xs =>
   cases hv with
   | cons _ v' _ l' h1 h2 =>
    have hx : (setP x (path p) f).bd (fun f => putXs ps (xs ++ [.ptr m 0 0]) f) = some r := hx
    rw [setP_eq, Bx.bd_mk] at hx
    have hpl := hp p (.head _)
    obtain ⟨k1, k2, k3⟩ := putXs_spec ps xs _ r l' (tmps.setIfInBounds p v') hx h2 (fun t => by
     rw [slot_set]
     by_cases ht : t = p
     · subst ht
       rw [if_pos rfl]
       simpa [hpl] using h1
     · rw [if_neg ht]
       have : (tmps.setIfInBounds p v').getD t undef = tmps.getD t undef := by
        simp [Array.getElem?_setIfInBounds_ne (Ne.symm ht)]
       rw [this]; exact hf t) (fun t ht => by simpa using hp t (.tail _ ht))
    refine ⟨by simp [k1], k2, ?_⟩
    rw [List.zip_cons_cons, List.foldl_cons, k3]
    simp
theorem fin_ok {o : Out} {k : Fr → Hp → R2} {v : AV} {h' : Hp} (hx : o.fin k = .ok v h') : ∃ f h, o = .norm f h ∧ k f h = .ok v h' := by
 cases o with
 | norm f h => exact ⟨f, h, rfl, hx⟩
 | exit i f h => cases hx
 | ret f h => cases hx
 | no q => cases hx
theorem rnd_sim (hd : DrawOK C) (hn : Named C.P) {c : CallT} (hc : CallOK C c) {k : Nat} {args : List AV} {h h' : Hp} {v : AV} (hx : rnd C k c args h = .ok v h') {e : Emb} {w : World} {xs : List AV} {xs' : List Value} {m : Nat} {x : Loc}
 (hargs : args = xs ++ [.ptr m 0 0]) (hm : e m 0 = some x) (hge : GR C e) (hv : VRL e xs xs') (hr : HR e h w) :
 ∃ fn tmps assign body, (Instr.yield x.r xs'.toArray).run C.P w = .ok (.round x.r fn tmps assign body) w ∧ RoundIn Fence.wide 0 C.P x.r fn tmps assign body w fun en w' => ∃ v' e', en = .returned v' ∧ VR e' v v' ∧ Ext e h w e' h' w' := by
 unfold rnd at hx
 rw [hargs, lastN_append] at hx
 simp only at hx
 cases hget : h.get m with
 | none => rw [hget] at hx; cases hx
 | some blk =>
 rw [hget] at hx
 cases blk <;> try (cases hx; done)
 rename_i q
 have hx : (match putXs q.ps (xs ++ [.ptr m 0 0]) q.f with
  | some f => (runC (mkC C q.n q.a) k c f.1 h).fin fun f2 h2 => (h2.put m (.sit 0 0 8)).bd fun h3 => (runC (mkC C q.n q.b) k c f2 h3).fin fun _ h4 => (h4.put m (.lp q)).bd fun h5 => .ok (.bool true) h5
  | none => .no "yield: values") = .ok v h' := hx
 cases hpx : putXs q.ps (xs ++ [.ptr m 0 0]) q.f with
 | none => rw [hpx] at hx; cases hx
 | some f =>
 rw [hpx] at hx
 obtain ⟨f2, h2, ha, hx⟩ := fin_ok (show (runC (mkC C q.n q.a) k c f.1 h).fin _ = .ok v h' from hx)
 rw [Hp.put_eq, Bx.bd_mk] at hx
 obtain ⟨f4, h4, hb, hx⟩ := fin_ok hx
 rw [Hp.put_eq, Bx.bd_mk] at hx
 cases hx
 obtain ⟨blk, k1, k2⟩ := hr.at' m 0 x hm
 rw [hget] at k1; cases k1
 generalize hob : w.heap[x.r]? = ob at k2
 have hlt : x.r < w.heap.size := (hr.lt m 0 x hm).1
 cases k2 with
 | cells _ _ _ q => exact q.cells.elim
 | map _ _ _ _ hh => cases hh
 | sit _ _ hh => cases hh
 | iter _ _ _ _ hh => cases hh
 | busy _ hh => cases hh
 | dfr hh => cases hh
 | lp q' fn tmps df hq _ hbl hsl hsz hps hfa hfb =>
  cases hq
  obtain ⟨s1, s2, s3⟩ := putXs_spec q.ps xs q.f f xs' tmps hpx hv hsl (fun t ht => Nat.lt_of_lt_of_le (hps t ht) hsz)
  obtain ⟨rec, hrec⟩ : ∃ rec : Loop, rec = { state := .ready, pending := none, fn := fn, tmps := tmps, params := q.ps.toArray, assign := q.a, body := q.b, defers := df } := ⟨_, rfl⟩
  rw [← hrec] at hob
  have hbr : ∀ e4 : Emb, e.le e4 → BR e4 (.lp q) 0 x (some (.loop rec)) := fun e4 hle => by
   rw [hrec]; exact .lp q fn tmps df rfl rfl hbl (fun t => (hsl t).mono hle) hsz hps hfa hfb
  have rom : h.ro m := ⟨(hr.lt m 0 x hm).2, .inl ⟨_, hget, trivial⟩⟩
  refine ⟨fn, (q.ps.zip xs').foldl (fun tm (p : Nat × Value) => tm.setIfInBounds p.1 p.2) tmps, q.a, q.b, ?_, ?_⟩
  · have := run_yield (P := C.P) (args := xs'.toArray) hob (by rw [hrec]; simp [s1])
    rw [this, hrec]
    simp
  · refine roundIn_of_wpIn trivial ?_
    have fn0 : FN [] q.n e f.1 { tmps := (q.ps.zip xs').foldl (fun tm (p : Nat × Value) => tm.setIfInBounds p.1 p.2) tmps, defers := [] } := ⟨⟨s2, trivial⟩, by rw [s3]; exact hsz, rfl⟩
    refine code_sim (R := fun _ => True) hd hn q.n q.a (.inr hfa) w.heap.size k c hc f.1 h e _ w _ hge fn0 (DF.nil e (Nat.le_refl _)) hr ?_ (some x.r) trivial
    rw [ha]
    intro e2 a2 w2 x1 hf2 hd2
    have hx2 : e2 m 0 = some x := x1.le _ _ _ hm
    have hget2 : h2.get m = some (.lp q) := (x1.ro m rom).trans hget
    have hob2 : w2.heap[x.r]? = some (.loop rec) := (x1.frame x.r hlt fun b g y hy hyr => by
     have := (hr.inj _ _ _ _ _ _ hy hm hyr).1
     subst this; exact rom).trans hob
    refine ⟨_, run_beginRound hob2 (by rw [hrec]), ?_⟩
    have hr3 := x1.hr.turn hx2 hget2 id (BR.busy (e := e2) (b := .sit 0 0 8) (g := 0) (x := x) (.loop { rec with state := .busy }) rfl rfl hbl)
    have hd3 : DF w.heap.size e2 (w2.putObj x.r (.loop { rec with state := .busy })) a2.defers := hd2.other (r := x.r) (fun o hh => by rw [hob2] at hh; cases hh) (fun k hk => World.putObj_heap_other hk) (by rw [World.putObj_size]; exact Nat.le_refl _)
    refine code_sim (R := fun _ => True) hd hn q.n q.b (.inr hfb) w.heap.size k c hc f2 _ e2 a2 _ _ (hge.mono x1.le) hf2 hd3 hr3 ?_ (some x.r) trivial
    rw [hb]
    intro e4 a4 w4 x2 hf4 hd4
    have hob4 : w4.heap[x.r]? = some (.loop { rec with state := .busy }) := by
     rw [x2.frame x.r (by rw [World.putObj_size]; have := x1.size; omega) fun b g y hy hyr => ?_]
     · exact World.putObj_heap_same (by have := x1.size; omega)
     · have := (x1.hr.inj _ _ _ _ _ _ hy hx2 hyr).1
       subst this
       refine ⟨(x1.hr.lt _ _ _ hx2).2, .inl ⟨.sit 0 0 8, ?_, rfl, rfl, .inl rfl⟩⟩
       rw [Hp.get_set _ _ h2.n, if_pos rfl]
    have hend := run_endRound (P := C.P) none hob4
    refine ⟨_, _, hend, .bool true, e4, rfl, .bool true, ?_⟩
    have hfin := Ext.round hr hm hget hob x1 x2 (hbr e4 (x1.le.trans x2.le))
    rw [hrec] at hfin ⊢
    exact hfin
def SpOK (C : Cx) (sp : Nat → List AV → Hp → Option (AV × Hp)) : Prop := ∀ g args h v h', sp g args h = some (v, h') → CallOne C g args h v h'
theorem callK_sim (hd : DrawOK C) (hn : Named C.P) {sp : Nat → List AV → Hp → Option (AV × Hp)} (hsp : SpOK C sp) (k : Nat) : ∀ d, CallOK C (callK C sp k d)
 | 0 => fun _ _ _ _ _ hx => (no_ok (w := "depth") hx).elim
 | d + 1 => fun g args h v h' hx => by
  have hx : Option.rec (motive := fun _ => R2) (ifb (Nat.ble yF g) (ifb (Nat.beq g yF) (rnd C k (callK C sp k d) args h) (.no "no such function")) (Option.rec (motive := fun _ => R2) (.no "no such function, or no body") (fun cf => enter cf k (callK C sp k d) args h) (mkF C g))) (fun q => .ok q.1 q.2) (sp g args h) = .ok v h' := hx
  cases hs : sp g args h with
  | some q =>
   rw [hs] at hx
   cases hx
   exact hsp g args h q.1 q.2 hs
  | none =>
   rw [hs] at hx
   have hx : ifb (Nat.ble yF g) (ifb (Nat.beq g yF) (rnd C k (callK C sp k d) args h) (.no "no such function")) (Option.rec (motive := fun _ => R2) (.no "no such function, or no body") (fun cf => enter cf k (callK C sp k d) args h) (mkF C g)) = .ok v h' := hx
   cases hy : Nat.ble yF g with
   | true =>
    rw [hy, ifb_true] at hx
    cases hb : Nat.beq g yF with
    | false => rw [hb] at hx; exact (no_ok hx).elim
    | true =>
     rw [hb, ifb_true] at hx
     exact .inr (.inr ⟨beq_iff.1 hb, fun e w xs xs' m x h1 h2 _ h4 h5 h6 => rnd_sim hd hn (callK_sim hd hn hsp k d) hx h1 h2 h4 h5 h6⟩)
   | false =>
    rw [hy, ifb_false] at hx
    obtain ⟨cf, hcf, hx⟩ := optR hx
    obtain ⟨fn, b, h1, h2, rfl⟩ := mkF_spec hcf
    refine .inl ⟨hy, ⟨fn, b, h1, hn g fn h1 (by rw [h2]; exact fun hh => by cases hh), h2⟩, fun e w args' hg hv hr => ?_⟩
    exact enter_sim hd hn (callK_sim hd hn hsp k d) h1 h2 hx hg hv hr
end Go.Ab
namespace Go.Ab
variable [Val]
open Go
variable {C : Cx}
structure Laid (C : Cx) (gl : List (Nat × List AV)) (n : Nat) : Prop where
 gs : C.gs = gl.map (·.1)
 ok : globOK gl (globHp gl n) = true
 lt : gl.all (fun q => and (Nat.ble (q.1 + 1) n) (closedL q.2)) = true
def baseE (gl : List (Nat × List AV)) (n : Nat) (mu : List (Nat × Nat)) (e : Emb) : Emb := fun b g => if g = 0 then (if b ∈ gl.map (·.1) then e b 0 else if n ≤ b then (match mu[b - n]? with
 | some p => e p.1 p.2
 | none => none) else none) else none
theorem baseE_spec {gl : List (Nat × List AV)} {n : Nat} {mu : List (Nat × Nat)} {e : Emb} {b g : Nat} {x : Loc} (h : baseE gl n mu e b g = some x) : g = 0 ∧ ((b ∈ gl.map (·.1) ∧ e b 0 = some x) ∨ ∃ i p, b = n + i ∧ mu[i]? = some p ∧ e p.1 p.2 = some x) := by
 unfold baseE at h
 by_cases hg : g = 0
 · rw [if_pos hg] at h
   by_cases hb : b ∈ gl.map (·.1)
   · rw [if_pos hb] at h; exact ⟨hg, .inl ⟨hb, h⟩⟩
   · rw [if_neg hb] at h
     by_cases hn : n ≤ b
     · rw [if_pos hn] at h
       cases hm : mu[b - n]? with
       | none => rw [hm] at h; cases h
       | some p => rw [hm] at h; exact ⟨hg, .inr ⟨b - n, p, by omega, hm, h⟩⟩
     · rw [if_neg hn] at h; cases h
 · rw [if_neg hg] at h; cases h
section
variable {gl : List (Nat × List AV)} {n : Nat} {mu : List (Nat × Nat)} {e : Emb} {h : Hp} {w : World} {q : Kn}
theorem Laid.lt' (L : Laid C gl n) {b : Nat} (hb : b ∈ gl.map (·.1)) : b < n := by
 obtain ⟨p, hp, rfl⟩ := List.mem_map.1 hb
 have := List.all_eq_true.1 L.lt _ hp
 rw [Bool.and_eq_true] at this
 exact Nat.le_of_ble_eq_true this.1
theorem baseE_arg (L : Laid C gl n) {i : Nat} {p : Nat × Nat} (hp : mu[i]? = some p) : baseE gl n mu e (n + i) 0 = e p.1 p.2 := by
 unfold baseE
 rw [if_pos rfl, if_neg (fun hh => by have := L.lt' hh; omega), if_pos (by omega), Nat.add_sub_cancel_left, hp]
theorem argHp_spec (gl : List (Nat × List AV)) (n : Nat) (bas : List (List AV × Nat)) : (argHp gl n bas).n = n + bas.length ∧ (argHp gl n bas).lk = ⟨n + bas.length, []⟩ ∧ (∀ b, b < n → (argHp gl n bas).get b = (globHp gl n).get b) ∧
 ∀ i q, bas[i]? = some q → (argHp gl n bas).get (n + i) = some (.flat (renL (renU (argMu n bas.length) 0) q.1) q.2) := by
 have h1 : argHp gl n bas = ⟨(addAll (renU (argMu n bas.length) 0) bas (globHp gl n)).out.t, (addAll (renU (argMu n bas.length) 0) bas (globHp gl n)).out.n, ⟨(addAll (renU (argMu n bas.length) 0) bas (globHp gl n)).out.n, []⟩⟩ := by
  unfold argHp
  rw [lenA_eq, Bx.eta (addAll (renU (argMu n bas.length) 0) bas (globHp gl n)), Bx.bd_mk]
  rfl
 obtain ⟨k1, k2, k3, k4⟩ := addAll_spec (renU (argMu n bas.length) 0) bas (globHp gl n)
 rw [globHp_n] at k1 k3 k4
 rw [h1]
 exact ⟨k1, by rw [k1], k3, k4⟩
theorem base_sim (L : Laid C gl n) (hg : GR C e) (hr : HR e h w) (hgo : globOK gl h = true) (hb : blksOK (renU mu h.n) h n mu q.bas = true) :
 GR C (baseE gl n mu e) ∧ HR (baseE gl n mu e) (argHp gl n q.bas) w ∧ ∀ i x, e (renU mu h.n i).1 (renU mu h.n i).2 = some x → baseE gl n mu e (renU (argMu n q.bas.length) 0 i).1 (renU (argMu n q.bas.length) 0 i).2 = some x := by
 obtain ⟨hlen, hge, hpw, hblk⟩ := blksOK_spec hb
 obtain ⟨a1, a2, a3, a4⟩ := argHp_spec gl n q.bas
 have hmem : ∀ b, b ∈ gl.map (·.1) → ∃ l, (b, l) ∈ gl := fun b hb => by
  obtain ⟨p, hp, rfl⟩ := List.mem_map.1 hb
  exact ⟨p.2, hp⟩
 have hk : ∀ i x, e (renU mu h.n i).1 (renU mu h.n i).2 = some x → baseE gl n mu e (renU (argMu n q.bas.length) 0 i).1 (renU (argMu n q.bas.length) 0 i).2 = some x := fun i x hx => by
  cases hi : mu[i]? with
  | none =>
   rw [renU_ge hi] at hx
   have := (hr.lt _ _ _ hx).2
   exact absurd this (by show ¬ h.n + (i - mu.length) < h.n; omega)
  | some p =>
   rw [renU_lt hi] at hx
   have hil : i < q.bas.length := by have := (List.getElem?_eq_some_iff.1 hi).1; omega
   rw [renU_lt (show (argMu n q.bas.length)[i]? = some (n + i, 0) by rw [argMu_get, if_pos hil])]
   show baseE gl n mu e (n + i) 0 = some x
   rw [baseE_arg L hi]; exact hx
 refine ⟨fun g hgm => ?_, ⟨fun b g x b' g' x' h1 h2 hrr => ?_, fun b g x h1 => ?_, fun b g x h1 => ?_⟩, hk⟩
 · obtain ⟨x, h1, h2⟩ := hg g hgm
   refine ⟨x, ?_, h2⟩
   rw [L.gs] at hgm
   obtain ⟨j, hj, hj2⟩ := List.any_eq_true.1 hgm
   have : g = j := beq_iff.1 hj2
   subst this
   unfold baseE
   rw [if_pos rfl, if_pos hj]; exact h1
 · obtain ⟨rfl, k1⟩ := baseE_spec h1
   obtain ⟨rfl, k2⟩ := baseE_spec h2
   rcases k1 with ⟨k3, k4⟩ | ⟨i, p, rfl, k3, k4⟩ <;> rcases k2 with ⟨j3, j4⟩ | ⟨j, p', rfl, j3, j4⟩
   · exact hr.inj _ _ _ _ _ _ k4 j4 hrr
   · have := (hr.inj _ _ _ _ _ _ k4 j4 hrr).1
     have h3 := L.lt' k3
     have h4 := hge p' (List.mem_of_getElem? j3)
     omega
   · have := (hr.inj _ _ _ _ _ _ k4 j4 hrr).1
     have h3 := L.lt' j3
     have h4 := hge p (List.mem_of_getElem? k3)
     omega
   · have hpp := hr.inj _ _ _ _ _ _ k4 j4 hrr
     have hij : i = j := by
      refine Classical.byContradiction fun hne => ?_
      obtain ⟨hi, hi2⟩ := List.getElem?_eq_some_iff.1 k3
      obtain ⟨hj, hj2⟩ := List.getElem?_eq_some_iff.1 j3
      rcases Nat.lt_or_gt_of_ne hne with hl | hl
      · have := List.pairwise_iff_getElem.1 hpw i j hi hj hl
        rw [hi2, hj2] at this
        exact this hpp.1
      · have := List.pairwise_iff_getElem.1 hpw j i hj hi hl
        rw [hi2, hj2] at this
        exact this hpp.1.symm
     exact ⟨by rw [hij], hpp.2⟩
 · rw [a1]
   obtain ⟨rfl, k1⟩ := baseE_spec h1
   rcases k1 with ⟨k3, k4⟩ | ⟨i, p, rfl, k3, k4⟩
   · have := L.lt' k3
     exact ⟨(hr.lt _ _ _ k4).1, by omega⟩
   · have := (List.getElem?_eq_some_iff.1 k3).1
     exact ⟨(hr.lt _ _ _ k4).1, by omega⟩
 · obtain ⟨rfl, k1⟩ := baseE_spec h1
   rcases k1 with ⟨k3, k4⟩ | ⟨i, p, rfl, k3, k4⟩
   · obtain ⟨l, hl⟩ := hmem b k3
     have hcl := List.all_eq_true.1 L.lt _ hl
     rw [Bool.and_eq_true] at hcl
     obtain ⟨blk, h2, h3⟩ := hr.at' b 0 x k4
     rw [globOK_get hgo hl] at h2; cases h2
     exact ⟨_, by rw [a3 b (L.lt' k3)]; exact globOK_get L.ok hl, h3.closedT hcl.2⟩
   · have hi := (List.getElem?_eq_some_iff.1 k3).1
     have hq : q.bas[i]? = some (q.bas[i]'(by omega)) := List.getElem?_eq_getElem _
     generalize q.bas[i]'(by omega) = bq at hq
     obtain ⟨blk, h2, h3⟩ := hr.at' p.1 p.2 x k4
     exact ⟨_, a4 i bq hq, BR.ofBlk hk (hblk i p bq k3 hq) h2 h3⟩
theorem kn_ext (L : Laid C gl n) (hr : HR e h w) (hbm : blksOK (renU mu h.n) h n mu q.bas = true) {keep : List (Nat × Nat)} {v1 : AV} {h1 : Hp} (hv : v1 = q.v.ren (renK (argMu n q.bas.length) keep h1.n)) (hb : blksOK (renK (argMu n q.bas.length) keep h1.n) h1 (n + q.bas.length) keep q.bs = true)
 {v' : Value} {e1 : Emb} {w' : World} (hvr : VR e1 v1 v') (hext : Ext (baseE gl n mu e) (argHp gl n q.bas) w e1 h1 w') :
 ∃ e', VR e' (q.v.ren (renU mu h.n)) v' ∧ Ext e h w e' (addAll (renU mu h.n) q.bs h).out w' := by
 obtain ⟨hmlen, hmge, _, _⟩ := blksOK_spec hbm
 obtain ⟨hlen, hge, hpw, hblk⟩ := blksOK_spec hb
 obtain ⟨a1, a2, a3, a4⟩ := addAll_spec (renU mu h.n) q.bs h
 obtain ⟨b1, b2, b3, b4⟩ := argHp_spec gl n q.bas
 generalize (addAll (renU mu h.n) q.bs h).out = h' at a1 a2 a3 a4
 let e' : Emb := fun b g => if b < h.n then e b g else match keep[b - h.n]? with
  | some p => if g = 0 then e1 p.1 p.2 else none
  | none => none
 have hold : ∀ b g, b < h.n → e' b g = e b g := fun b g hb => by show (if b < h.n then e b g else _) = _; rw [if_pos hb]
 have hnew : ∀ (i : Nat) (p : Nat × Nat), keep[i]? = some p → e' (h.n + i) 0 = e1 p.1 p.2 := fun i p hp => by
  show (if h.n + i < h.n then e (h.n + i) 0 else match keep[h.n + i - h.n]? with
   | some p => if (0 : Nat) = 0 then e1 p.1 p.2 else none
   | none => none) = _
  rw [if_neg (by omega), Nat.add_sub_cancel_left, hp]
  simp
 have hle : e.le e' := fun b g x hx => by rw [hold b g (hr.lt b g x hx).2]; exact hx
 have hcase : ∀ b g x, e' b g = some x → (b < h.n ∧ e b g = some x) ∨ ∃ i p, b = h.n + i ∧ g = 0 ∧ keep[i]? = some p ∧ e1 p.1 p.2 = some x := fun b g x hx => by
  by_cases hbn : b < h.n
  · rw [hold b g hbn] at hx; exact .inl ⟨hbn, hx⟩
  · right
    have hx : (if b < h.n then e b g else match keep[b - h.n]? with
     | some p => if g = 0 then e1 p.1 p.2 else none
     | none => none) = some x := hx
    rw [if_neg hbn] at hx
    cases hk : keep[b - h.n]? with
    | none => rw [hk] at hx; cases hx
    | some p =>
     rw [hk] at hx
     simp only at hx
     by_cases hg : g = 0
     · rw [if_pos hg] at hx
       exact ⟨b - h.n, p, by omega, hg, hk, hx⟩
     · rw [if_neg hg] at hx; cases hx
 have hk : ∀ i x, e1 (renK (argMu n q.bas.length) keep h1.n i).1 (renK (argMu n q.bas.length) keep h1.n i).2 = some x → e' (renU mu h.n i).1 (renU mu h.n i).2 = some x := fun i x hx => by
  cases hi : mu[i]? with
  | some p =>
   have hil : i < q.bas.length := by have := (List.getElem?_eq_some_iff.1 hi).1; omega
   rw [renK_lt (show (argMu n q.bas.length)[i]? = some (n + i, 0) by rw [argMu_get, if_pos hil])] at hx
   have hx : e1 (n + i) 0 = some x := hx
   rw [renU_lt hi]
   rcases hext.names _ _ _ hx with ⟨g0, x0, h0⟩ | h0
   · obtain ⟨rfl, _⟩ := baseE_spec h0
     have h2 := hext.le _ _ _ h0
     rw [hx] at h2; cases h2
     rw [baseE_arg L hi] at h0
     exact hle _ _ _ h0
   · rw [b1] at h0; omega
  | none =>
   have hil : ¬ i < q.bas.length := by
    intro hh
    rw [List.getElem?_eq_none_iff] at hi
    omega
   rw [renK_ge (show (argMu n q.bas.length)[i]? = none by rw [argMu_get, if_neg hil]), argMu_length] at hx
   rw [renU_ge hi]
   cases hki : keep[i - q.bas.length]? with
   | none =>
    rw [hki] at hx
    have := (hext.hr.lt _ _ _ hx).2
    exact absurd this (Nat.lt_irrefl _)
   | some p =>
    rw [hki] at hx
    show e' (h.n + (i - mu.length)) 0 = some x
    rw [hmlen, hnew _ p hki]; exact hx
 have hro : ∀ r, r < w.heap.size → w'.heap[r]? = w.heap[r]? := fun r hlt => hext.frame r hlt fun b g x hx _ => by
  obtain ⟨rfl, k0⟩ := baseE_spec hx
  rcases k0 with ⟨k3, _⟩ | ⟨i, p, rfl, k3, _⟩
  · obtain ⟨y, hy, rfl⟩ := List.mem_map.1 k3
    have := L.lt' k3
    exact ⟨by rw [b1]; omega, .inl ⟨.flat y.2 3, by rw [b3 _ (L.lt' k3)]; exact globOK_get L.ok hy, show (3 : Nat) = 3 from rfl⟩⟩
  · have := (List.getElem?_eq_some_iff.1 k3).1
    refine ⟨by rw [b1]; omega, .inr ?_⟩
    unfold Hp.okw
    rw [b2]
    have h1 : Nat.ble (n + q.bas.length) (n + i) = false := by
     cases hh : Nat.ble (n + q.bas.length) (n + i) with
     | false => rfl
     | true => have := Nat.le_of_ble_eq_true hh; omega
    show ifb (Nat.ble (n + q.bas.length) (n + i)) true (memN (n + i) []) = false
    rw [h1]; rfl
 have hfresh : ∀ (i : Nat) (p : Nat × Nat) (x : Loc), keep[i]? = some p → e1 p.1 p.2 = some x → w.heap.size ≤ x.r := fun i p x hp hx => by
  rcases hext.blocks _ _ _ hx with ⟨g0, x0, h0, _⟩ | h0
  · obtain ⟨_, k0⟩ := baseE_spec h0
    have h3 := hge p (List.mem_of_getElem? hp)
    rcases k0 with ⟨k3, _⟩ | ⟨j, p', k3, k4, _⟩
    · have := L.lt' k3; omega
    · have := (List.getElem?_eq_some_iff.1 k4).1; omega
  · exact h0
 refine ⟨e', by subst hv; exact VR.ren hk q.v hvr, hle, ⟨?_, ?_, ?_⟩, ?_, ?_, fun r hlt _ => hro r hlt, fun b hb _ => a3 b hb, fun b hb => a3 b hb.1, by omega, hext.size, hext.os, hext.output, a2⟩
 · intro b g x b' g' x' hx hx' hrr
   rcases hcase _ _ _ hx with ⟨k1, k2⟩ | ⟨i, p, k1, k2, k3, k4⟩ <;> rcases hcase _ _ _ hx' with ⟨j1, j2⟩ | ⟨j, p', j1, j2, j3, j4⟩
   · exact hr.inj _ _ _ _ _ _ k2 j2 hrr
   · have := hfresh j p' x' j3 j4
     have := (hr.lt _ _ _ k2).1
     omega
   · have := hfresh i p x k3 k4
     have := (hr.lt _ _ _ j2).1
     omega
   · have hpp := hext.hr.inj _ _ _ _ _ _ k4 j4 hrr
     have hij : i = j := by
      refine Classical.byContradiction fun hne => ?_
      obtain ⟨hi, hi2⟩ := List.getElem?_eq_some_iff.1 k3
      obtain ⟨hj, hj2⟩ := List.getElem?_eq_some_iff.1 j3
      rcases Nat.lt_or_gt_of_ne hne with hl | hl
      · have := List.pairwise_iff_getElem.1 hpw i j hi hj hl
        rw [hi2, hj2] at this
        exact this hpp.1
      · have := List.pairwise_iff_getElem.1 hpw j i hj hi hl
        rw [hi2, hj2] at this
        exact this hpp.1.symm
     exact ⟨by rw [k1, j1, hij], hpp.2⟩
 · intro b g x hx
   rcases hcase _ _ _ hx with ⟨k1, k2⟩ | ⟨i, p, k1, k2, k3, k4⟩
   · have := hr.lt _ _ _ k2
     exact ⟨Nat.lt_of_lt_of_le this.1 hext.size, by omega⟩
   · have := (List.getElem?_eq_some_iff.1 k3).1
     exact ⟨(hext.hr.lt _ _ _ k4).1, by omega⟩
 · intro b g x hx
   rcases hcase _ _ _ hx with ⟨k1, k2⟩ | ⟨i, p, rfl, rfl, k3, k4⟩
   · obtain ⟨blk, j1, j2⟩ := hr.at' _ _ _ k2
     refine ⟨blk, by rw [a3 b k1]; exact j1, ?_⟩
     rw [hro _ (hr.lt _ _ _ k2).1]
     exact j2.mono hle
   · have hi := (List.getElem?_eq_some_iff.1 k3).1
     have hq : q.bs[i]? = some (q.bs[i]'(by omega)) := List.getElem?_eq_getElem _
     generalize q.bs[i]'(by omega) = bq at hq
     obtain ⟨blk2, m1, m2⟩ := hext.hr.at' _ _ _ k4
     exact ⟨_, a4 i bq hq, BR.ofBlk hk (hblk i p bq k3 hq) m1 m2⟩
 · intro b g x hx
   rcases hcase _ _ _ hx with ⟨k1, k2⟩ | ⟨i, p, k1, _⟩
   · exact .inl ⟨g, x, k2⟩
   · exact .inr (by omega)
 · intro b g x hx
   rcases hcase _ _ _ hx with ⟨k1, k2⟩ | ⟨i, p, k1, k2, k3, k4⟩
   · exact .inl ⟨g, x, k2, rfl⟩
   · exact .inr (hfresh i p x k3 k4)
end
theorem kn_sim {gl : List (Nat × List AV)} {n : Nat} (L : Laid C gl n) {c : CallT} (hc : CallOK C c) {keep : List (Nat × Nat)} {q : Kn} (hok : q.ok c gl n keep = true) {args : List AV} {h h' : Hp} {v : AV} (hu : q.use gl n args h = some (v, h')) : CallOne C q.g args h v h' := by
 unfold Kn.use at hu
 simp only at hu
 generalize muOfK q args h = mu at hu
 cases hg : and (avEqL args (renL (renU mu h.n) q.args)) (and (globOK gl h) (blksOK (renU mu h.n) h n mu q.bas)) with
 | false => rw [hg] at hu; cases hu
 | true =>
 rw [hg, ifb_true, natF_eq, force_eq, Bx.eta (addAll _ q.bs h), Bx.bd_mk] at hu
 cases hu
 simp only [Bool.and_eq_true] at hg
 obtain ⟨hargs, hgo, hbm⟩ := hg
 have hargs := avEqL_eq hargs
 unfold Kn.ok at hok
 rw [lenA_eq] at hok
 rw [Bool.and_eq_true, Bool.not_eq_true'] at hok
 obtain ⟨hy, hok⟩ := hok
 cases hrun : c q.g (renL (renU (argMu n q.bas.length) 0) q.args) (argHp gl n q.bas) with
 | no w => rw [hrun] at hok; cases hok
 | ok v1 h1 =>
  rw [hrun] at hok
  have hok : and (avEq v1 (q.v.ren (renK (argMu n q.bas.length) keep h1.n))) (blksOK (renK (argMu n q.bas.length) keep h1.n) h1 (n + q.bas.length) keep q.bs) = true := hok
  rw [Bool.and_eq_true] at hok
  have hv1 := avEq_eq hok.1
  rcases hc _ _ _ _ _ hrun with ⟨_, hfn, hcall⟩ | ⟨_, hval⟩ | ⟨hh, _⟩
  case inr.inr => rw [hh] at hy; exact absurd hy (by decide)
  · refine .inl ⟨hy, hfn, fun e w args' hg hv hr => ?_⟩
    obtain ⟨k1, k2, k3⟩ := base_sim L hg hr hgo hbm
    rw [hargs] at hv
    refine Calls.mono (hcall (baseE gl n mu e) w args' k1 (VRL.ren k3 q.args hv) k2) fun en w' he => ?_
    obtain ⟨v', e1, rfl, hvr, hext⟩ := he
    obtain ⟨e', m1, m2⟩ := kn_ext L hr hbm hv1 hok.2 hvr hext
    exact ⟨v', e', rfl, m1, m2⟩
  · refine .inr (.inl ⟨hy, fun e w args' hg hv hr => ?_⟩)
    obtain ⟨k1, k2, k3⟩ := base_sim L hg hr hgo hbm
    rw [hargs] at hv
    obtain ⟨v', w', e1, h3, hvr, hext⟩ := hval (baseE gl n mu e) w args' k1 (VRL.ren k3 q.args hv) k2
    obtain ⟨e', m1, m2⟩ := kn_ext L hr hbm hv1 hok.2 hvr hext
    exact ⟨v', w', e', h3, m1, m2⟩
theorem knOf_sim {gl : List (Nat × List AV)} {n : Nat} : ∀ {l : List Kn}, (∀ q ∈ l, ∀ args h v h', q.use gl n args h = some (v, h') → CallOne C q.g args h v h') → ∀ {g : Nat} {args : List AV} {h h' : Hp} {v : AV}, knOf gl n g args h l = some (v, h') → CallOne C g args h v h'
 | [], _, _, _, _, _, _, hx => by cases hx
 | q :: l, hl, g, args, h, h', v, hx => by
  have hrest := fun hx => knOf_sim (n := n) (fun q' hq' => hl q' (.tail _ hq')) (g := g) (args := args) (h := h) (h' := h') (v := v) hx
  have hx : ifb (Nat.beq g q.g) (match q.use gl n args h with
   | some r => some r
   | none => knOf gl n g args h l) (knOf gl n g args h l) = some (v, h') := hx
  cases hb : Nat.beq g q.g with
  | false => rw [hb] at hx; exact hrest hx
  | true =>
   rw [hb, ifb_true] at hx
   cases hu : q.use gl n args h with
   | none => rw [hu] at hx; exact hrest hx
   | some r =>
    rw [hu] at hx
    cases hx
    rw [beq_iff.1 hb]
    exact hl q (.head _) args h v h' hu
end Go.Ab
namespace Go.Ab
variable [Val]
open Go
variable {C : Cx}
theorem idxByte_eq (l : List UInt8) (c : UInt8) : ∀ (n i : Nat), i + n = l.length → idxByte (packB l) c.toNat n i = (if Lib.indexByte (l.drop i) c == -1 then -1 else Lib.indexByte (l.drop i) c + i)
 | 0, i, h => by
  rw [List.drop_of_length_le (by omega)]; rfl
 | n + 1, i, h => by
  have hi : i < l.length := by omega
  have h1 : idxByte (packB l) c.toNat (n + 1) i = ifb (Nat.beq (byteAt (packB l) i) c.toNat) (.ofNat i) (idxByte (packB l) c.toNat n (i + 1)) := rfl
  rw [h1, byteAt_eq l i l[i] (List.getElem?_eq_getElem hi), idxByte_eq l c n (i + 1) (by omega), List.drop_eq_getElem_cons hi]
  have hge := Lib.indexByte_ge (l.drop (i + 1)) c
  rw [show Lib.indexByte (l[i] :: l.drop (i + 1)) c = (if l[i] == c then 0 else if Lib.indexByte (l.drop (i + 1)) c == -1 then -1 else Lib.indexByte (l.drop (i + 1)) c + 1) from rfl]
  generalize Lib.indexByte (l.drop (i + 1)) c = r at hge
  by_cases hb : l[i] = c
  · have h2 : Nat.beq l[i].toNat c.toNat = true := by rw [hb]; exact beq_iff.2 rfl
    rw [h2, ifb_true]
    simp [hb]
  · have h2 : Nat.beq l[i].toNat c.toNat = false := by
     cases hh : Nat.beq l[i].toNat c.toNat with
     | false => rfl
     | true => exact absurd (UInt8.toNat_inj.1 (beq_iff.1 hh)) hb
    have h3 : (l[i] == c) = false := by simpa using hb
    rw [h2, ifb_false, h3]
    by_cases hm : r = -1
    · subst hm; rfl
    · have h4 : (r == -1) = false := by simpa using hm
      have h5 : (r + 1 == -1) = false := by rw [beq_eq_false_iff_ne]; omega
      simp only [h4, h5, Bool.false_eq_true, if_false]
      omega
theorem spIndexByte_ok {g : Nat} {fn : Func} (hgy : Nat.ble yF g = false) (hf : C.P.funcs[g]? = some fn) (hname : (fn.name == "runtime.NumGoroutine") = false) (hb : fn.body.isNone = true) (hn : Extern.findNext fn = Option.none) (he : Extern.find fn = some Extern.BytealgIndexByte.indexByte)
 {args : List AV} {v : AV} (hx : spIndexByte args = some v) (h : Hp) : CallOne C g args h v h := by
 refine .inr (.inl ⟨hgy, fun e w args' hg hv hr => ?_⟩)
 unfold spIndexByte at hx
 split at hx
 · rename_i n a c
   cases hc : Nat.ble c 255 with
   | false => rw [hc] at hx; cases hx
   | true =>
    rw [hc, ifb_true] at hx
    have hc := Nat.le_of_ble_eq_true hc
    generalize hu : AV.str n a = u at hv
    cases hv with
    | cons _ v1 _ l1 hv1 hv2 =>
     cases hv2 with
     | cons _ v2 _ l2 hv2 hv3 =>
      cases hv3
      cases hv2
      cases hv1 <;> first | (cases hu; done) | skip
      case str s =>
       cases hu
       have hcu : c = c.toUInt8.toNat := by
        simp
        omega
       have hi : idxByte (packB s.data.toList) c s.size 0 = Lib.indexByte s.data.toList c.toUInt8 := by
        have := idxByte_eq s.data.toList c.toUInt8 s.size 0 (by rw [Nat.zero_add]; rfl)
        rw [← hcu] at this
        rw [this, List.drop_zero]
        split
        · rename_i hm; simpa using (beq_iff_eq.1 hm).symm
        · simp
       refine ⟨.int .i64 (Lib.indexByte s.data.toList c.toUInt8), w, e, ?_, ?_, .refl hr⟩
       · have h1 := run_callFunc_extern (P := C.P) hf hname hb hn he #[.string s, .int .u8 (c : Int)] w
         rw [Lib.run_indexByteString] at h1
         exact h1
       · have hx : intF (idxByte (packB s.data.toList) c s.size 0) (fun i => some (AV.int .i64 i)) = some v := hx
         rw [hi] at hx
         have hx2 : some (AV.int .i64 (Lib.indexByte s.data.toList c.toUInt8)) = some v := by
          rw [← hx]
          cases Lib.indexByte s.data.toList c.toUInt8 with
          | ofNat m => cases m <;> rfl
          | negSucc m => cases m <;> rfl
         cases hx2
         exact .int _ _
 · cases hx
def initE (gl : List (Nat × List AV)) : Emb := fun b g => if g = 0 then (match gl.find? fun q => q.1 == b with
 | some q => some ⟨b, 0, 0, q.2.length⟩
 | Option.none => Option.none) else Option.none
theorem initE_spec {gl : List (Nat × List AV)} {b g : Nat} {x : Loc} (h : initE gl b g = some x) : g = 0 ∧ ∃ q ∈ gl, q.1 = b ∧ x = ⟨b, 0, 0, q.2.length⟩ := by
 unfold initE at h
 by_cases hg : g = 0
 · rw [if_pos hg] at h
   cases hf : gl.find? fun q => q.1 == b with
   | none => rw [hf] at h; cases h
   | some q =>
    rw [hf] at h
    cases h
    have := List.find?_some hf
    exact ⟨hg, q, List.mem_of_find?_eq_some hf, by simpa using this, rfl⟩
 · rw [if_neg hg] at h; cases h
def Holds (gl : List (Nat × List AV)) (w : World) : Prop := ∀ q ∈ gl, (∀ v ∈ q.2, v.isCell = true) ∧ ∃ c t, w.heap[q.1]? = some (.cells c t (0, 0)) ∧ VRL (fun _ _ => Option.none) q.2 c.toList
theorem init_sim {gl : List (Nat × List AV)} {n : Nat} (L : Laid C gl n) {w : World} (hw : Holds gl w) : HR (initE gl) (globHp gl n) w ∧ GR C (initE gl) := by
 have hget : ∀ q ∈ gl, (globHp gl n).get q.1 = some (.flat q.2 3) := by
  intro q hq
  have h1 := List.all_eq_true.1 (show gl.all _ = true from L.ok) q hq
  split at h1
  · rename_i l z hh
    rw [Bool.and_eq_true] at h1
    have hz := beq_iff.1 h1.1
    subst hz
    rw [hh, avEqL_eq h1.2]
  · cases h1
 refine ⟨⟨fun b g x b' g' x' h1 h2 hr => ?_, fun b g x h1 => ?_, fun b g x h1 => ?_⟩, fun g hg => ?_⟩
 · obtain ⟨_, q, _, rfl, rfl⟩ := initE_spec h1
   obtain ⟨_, q', _, rfl, rfl⟩ := initE_spec h2
   exact ⟨hr, rfl⟩
 · obtain ⟨_, q, hq, rfl, rfl⟩ := initE_spec h1
   obtain ⟨_, c, t, hc, _⟩ := hw q hq
   obtain ⟨hlt, _⟩ := Array.getElem?_eq_some_iff.1 hc
   exact ⟨hlt, by rw [globHp_n]; exact L.lt' (List.mem_map_of_mem hq)⟩
 · obtain ⟨rfl, q, hq, rfl, rfl⟩ := initE_spec h1
   obtain ⟨hcell, c, t, hc, hv⟩ := hw q hq
   refine ⟨_, hget q hq, ?_⟩
   show BR (initE gl) (.flat q.2 3) 0 ⟨q.1, 0, 0, q.2.length⟩ w.heap[q.1]?
   rw [hc]
   have hlen := hv.length
   have hsz : c.size = q.2.length := by rw [← hlen]; simp
   refine .cells c t (0, 0) ⟨trivial, Nat.le_refl _, hsz, Nat.le_refl _, ?_, fun i v hi hr => ?_, fun _ i _ hh => by simp at hh, fun _ i hh => by simp at hh⟩
   · show (Blk.flat q.2 3).known 0 ≤ 0 + c.size
     rw [hsz, Nat.zero_add]
     show lenA q.2 ≤ q.2.length
     rw [lenA_eq]; exact Nat.le_refl _
   · have hr : ifb (Nat.beq 0 0) (nthA q.2 i) Option.none = some v := hr
     rw [show Nat.beq 0 0 = true from rfl, ifb_true, nthA_eq] at hr
     obtain ⟨v', k1, k2⟩ := hv.get hr
     exact ⟨hcell v (List.mem_of_getElem? hr), v', by rw [Nat.sub_zero]; simpa using k1, k2.mono fun _ _ _ hh => by cases hh⟩
 · rw [L.gs] at hg
   obtain ⟨j, hj, hj2⟩ := List.any_eq_true.1 hg
   have : g = j := beq_iff.1 hj2
   subst this
   obtain ⟨q, hq, hqg⟩ := List.mem_map.1 hj
   cases hf : gl.find? (fun q => q.1 == g) with
   | none =>
    have := List.find?_eq_none.1 hf q hq
    simp [hqg] at this
   | some q2 =>
    refine ⟨⟨g, 0, 0, q2.2.length⟩, ?_, rfl, rfl, rfl⟩
    unfold initE
    rw [if_pos rfl, hf]
theorem holds_tab {P : Program} {w : World} {laid : List (String × DataW Unit)} (h : laidMet P laid w) {name : String} {k : IntKind} {zs : List Int} (hm : (name, Lib.tabData k zs) ∈ laid) {g t e : Nat} {n : Nat}
 (hg : P.globalNamed name = some g) (hy : (P.globals[g]?).map (·.type) = some t) (ht : P.underlying t = some (.array n e)) (he : P.underlying e = some (.int k)) (hce : P.cellsOf e = 1) (hct : P.cellsOf t = n) (hn : 0 < zs.length) :
 ∃ c ty, w.heap[g]? = some (.cells c ty (0, 0)) ∧ c.toList = zs.map fun z => Value.int k z := by
 obtain ⟨ps, hv, _, hz⟩ := h
 have hall : ∀ {l : List (String × DataW Unit)} {ps : List MemPlace}, DataW.LaidVars P w l ps → (name, Lib.tabData k zs) ∈ l → ∃ cs : Array Value, w.var? P name = some cs ∧ cs.toList = (zs.map fun z => Value.int k z) ∧ ∀ p ∈ MemPlace.row ⟨g, 0, Option.none⟩ cs.size, p ∈ ps := by
  intro l
  induction l with
  | nil => intro ps _ hm; cases hm
  | cons y r ih =>
   intro ps h hm
   obtain ⟨n', d'⟩ := y
   obtain ⟨g', t', cs, fuel, p, q, h1, h2, h3, h4, h5, h6⟩ := h
   rcases List.mem_cons.1 hm with e1 | e1
   · cases e1
     obtain rfl := Option.some.inj (hg.symm.trans h1)
     obtain rfl := Option.some.inj (hy.symm.trans h2)
     refine ⟨cs, h3, Lib.cells_of_tab ht he hce hct h4, fun p hp => ?_⟩
     rw [h6]
     exact List.mem_append_left _ (List.mem_append_left _ hp)
   · obtain ⟨cs, k1, k2, k3⟩ := ih h5 e1
     exact ⟨cs, k1, k2, fun p hp => by rw [h6]; exact List.mem_append_right _ (k3 p hp)⟩
 obtain ⟨cs, k1, k2, k3⟩ := hall hv hm
 have hs : 0 < cs.size := by
  have := congrArg List.length k2
  simp at this
  omega
 obtain ⟨⟨c, ty, hc⟩, _⟩ := hz g 0 (k3 _ (by unfold MemPlace.row; exact List.mem_map.2 ⟨0, List.mem_range.2 hs, rfl⟩))
 refine ⟨c, ty, hc, ?_⟩
 simp only [World.var?, hg, Option.bind_some, hc, Option.some.injEq] at k1
 rw [k1]; exact k2
theorem law_calls2 {gl : List (Nat × List AV)} {n : Nat} (L : Laid C gl n) {c : CallT} (hc : CallOK C c) {g : Nat} {fn : Func} {b : Code} (hgy : Nat.ble yF g = false) (hf : C.P.funcs[g]? = some fn) (hname : (fn.name == "runtime.NumGoroutine") = false) (hb : fn.body = some b)
 {args : List AV} (hx : R2.rec (motive := fun _ => Bool) (fun v _ => avEq v (.bool true)) (fun _ => false) (c g args (globHp gl n)) = true) {w : World} (hw : Holds gl w) {args' : List Value} (hv : VRL (initE gl) args args') :
 Calls C.P g args'.toArray w fun en w' => en = .returned (.bool true) ∧ w'.os = w.os ∧ w'.output = w.output ∧ ∀ i, i < w.heap.size → w'.heap[i]? = w.heap[i]? := by
 obtain ⟨hr, hg⟩ := init_sim L hw
 cases hrun : c g args (globHp gl n) with
 | no q => rw [hrun] at hx; cases hx
 | ok v h' =>
  rw [hrun] at hx
  have hv1 := avEq_eq (show avEq v (.bool true) = true from hx)
  subst hv1
  rcases hc _ _ _ _ _ hrun with ⟨_, _, hcall⟩ | ⟨_, hval⟩ | ⟨hh, _⟩
  case inr.inr => rw [hh] at hgy; exact absurd hgy (by decide)
  · refine Calls.mono (hcall _ w args' hg hv hr) fun en w' he => ?_
    obtain ⟨v', e', rfl, hvr, hext⟩ := he
    cases hvr
    refine ⟨rfl, hext.os, hext.output, fun i hi => ?_⟩
    have := hext.frame i hi fun b g x hb hxr => by
     obtain ⟨_, q, hq, rfl, rfl⟩ := initE_spec hb
     have h1 := List.all_eq_true.1 (show gl.all _ = true from L.ok) q hq
     refine ⟨by rw [globHp_n]; exact L.lt' (List.mem_map_of_mem hq), .inl ?_⟩
     split at h1
     · rename_i l z hh
       rw [Bool.and_eq_true] at h1
       have hz := beq_iff.1 h1.1
       subst hz
       exact ⟨.flat l 3, hh, show (3 : Nat) = 3 from rfl⟩
     · cases h1
    exact this
  · obtain ⟨v', w', e', h1, _⟩ := hval _ w args' hg hv hr
    rw [run_callFunc hf hname hb] at h1
    cases h1
theorem law_calls {gl : List (Nat × List AV)} {n : Nat} (L : Laid C gl n) {c : CallT} (hc : CallOK C c) {g : Nat} {fn : Func} {b : Code} (hgy : Nat.ble yF g = false) (hf : C.P.funcs[g]? = some fn) (hname : (fn.name == "runtime.NumGoroutine") = false) (hb : fn.body = some b)
 {args : List AV} (hx : R2.rec (motive := fun _ => Bool) (fun v _ => avEq v (.bool true)) (fun _ => false) (c g args (globHp gl n)) = true) {w : World} (hw : Holds gl w) {args' : List Value} (hv : VRL (initE gl) args args') :
 Calls C.P g args'.toArray w fun en w' => en = .returned (.bool true) ∧ w.keptBut w' fun _ => False := by
 refine Calls.mono (law_calls2 L hc hgy hf hname hb hx hw hv) fun en w' ⟨h1, h2, h3, h4⟩ => ⟨h1, h2, h3, fun i hi => ?_⟩
 rw [h4 i hi]
 cases w.heap[i]? with
 | none => rfl
 | some o => cases o <;> first | rfl | exact ⟨rfl, rfl, rfl, fun _ _ => rfl⟩ | exact .inr ⟨rfl, rfl⟩
theorem VR.rest {e : Emb} {a : Int} (m : Nat) (hm : 0 < m) (hm2 : m < 256) (h0 : 0 ≤ a) (h1 : a < 256) : VR e (.nil (10 + 2 * (a.toNat % m + 256 * m))) (.int .u8 a) := by
 obtain ⟨n, rfl⟩ := Int.eq_ofNat_of_zero_le h0
 have hr := Nat.mod_lt n hm
 have e0 : (n : Int).toNat = n := rfl
 rw [e0]
 generalize hq : n % m = r at hr
 have d1 : Nat.div (10 + 2 * (r + 256 * m)) 2 = 5 + (r + 256 * m) := by
  show (10 + 2 * (r + 256 * m)) / 2 = _
  omega
 have d2 : Nat.mod (10 + 2 * (r + 256 * m)) 2 = 0 := by
  show (10 + 2 * (r + 256 * m)) % 2 = _
  omega
 have a1 : modM (10 + 2 * (r + 256 * m)) = m := by
  unfold modM; rw [d1]
  show (5 + (r + 256 * m) - 5) / 256 = m
  omega
 have a2 : modR (10 + 2 * (r + 256 * m)) = r := by
  unfold modR; rw [d1]
  show (5 + (r + 256 * m) - 5) % 256 = r
  omega
 have a3 : modK (10 + 2 * (r + 256 * m)) = .u8 := by unfold modK; rw [d2]; rfl
 have := VR.modv (e := e) (10 + 2 * (r + 256 * m)) n (by omega) (by omega) (by rw [a1]; exact hm) (by rw [a1, a2]; exact hq) (by omega)
 rw [a3] at this
 exact this
theorem VR.left {e : Emb} (n : Int) (m : Nat) (r : Nat) (hr : r < 512) (h : n.tmod m = (r : Int) - 256) (hm : m < 8000000 := by omega) : VR e (.nil (1048576 + (r + 512 * m))) (.int .i64 n) := by
 have d1 : Nat.div (Nat.sub (1048576 + (r + 512 * m)) 1048576) 512 = m := by
  show (1048576 + (r + 512 * m) - 1048576) / 512 = m
  omega
 have d2 : Nat.mod (Nat.sub (1048576 + (r + 512 * m)) 1048576) 512 = r := by
  show (1048576 + (r + 512 * m) - 1048576) % 512 = r
  omega
 refine .remv _ n (by omega) ?_ (by omega)
 unfold remM remR
 rw [d1, d2, subA_eq]
 exact h
end Go.Ab
namespace Go.Ab
variable [Val]
open Go
theorem okWide_one {P : Program} {w : World} {r : Reach} {b : Nat} {t : TypeId} {v : Value} (h : Cell.okWide P w r b t v) : v.oneCell' = true := by
 unfold Cell.okWide at h
 split at h <;> first | rfl | skip
 unfold Cell.ok at h
 split at h <;> first | rfl | exact h.elim
theorem row_one {P : Program} {w : World} {r : Reach} {b : Nat} {t : TypeId} {cs : Array Value} (h : Row.okWide P w r b t cs) : ∀ v ∈ cs.toList, v.oneCell' = true := by
 intro v hv
 obtain ⟨i, hi⟩ := List.mem_iff_getElem?.1 hv
 obtain ⟨ts, _, _, h3⟩ := h
 obtain ⟨u, _, h4⟩ := h3 i v (by rw [← Array.getElem?_toList]; exact hi)
 exact okWide_one h4
theorem VRL_opq (e : Emb) : ∀ l : List Value, (∀ v ∈ l, v.oneCell' = true) → VRL e (List.replicate l.length (.nil 8)) l
 | [], _ => .nil
 | v :: l, h => .cons _ _ _ _ (.opq v (h v (.head _))) (VRL_opq e l fun u hu => h u (.tail _ hu))
theorem sameAt_kept {w w' : World} (h : ∀ i, i < w.heap.size → w'.heap[i]? = w.heap[i]?) {p : MemPlace} (hp : p.block < w.heap.size) : w.sameAt w' p := by
 cases p with
 | cell b off =>
  have h1 := h b hp
  simp only [World.sameAt, World.cell?, h1]
 | map b => exact h b hp
end Go.Ab
namespace Go.Ab
variable [Val]
open Go
variable {C : Cx} {ds : List Deferred}
theorem seq_part {n : Nat} {ops : Array Oper} {c : CallT} (hc : CallOK C c) {Q : Exit → Act → World → Prop} (rest : List Nat) : ∀ (l : List Oper) (s : Nat), (∀ i o, l[i]? = some o → ops[s + i]? = some o) → ∀ (f : Fr) (h : Hp) (e : Emb) (a : Act) (w : World) (f' : Fr) (h' : Hp),
 GR C e → FN ds n e f a → HR e h w → runR (mkSeq C n ops.toList l) c f h = .norm f' h' → (∀ e' a' w', Ext e h w e' h' w' → FN ds n e' f' a' → owOps C.P ops Q rest a' w') → owOps C.P ops Q (List.range' s l.length ++ rest) a w := by
 intro l
 induction l with
 | nil =>
  intro s _ f h e a w f' h' _ hf hr hx hk
  cases hx
  exact hk e a w (.refl hr) hf
 | cons o l ih =>
  intro s hl f h e a w f' h' hg hf hr hx hk
  have ho : ops[s]? = some o := by simpa using hl 0 o rfl
  have hl' : ∀ i o, l[i]? = some o → ops[s + 1 + i]? = some o := by
   intro i o hi
   have := hl (i + 1) o (by simpa using hi)
   rw [show s + 1 + i = s + (i + 1) by omega]; exact this
  have hp : oneS (mkS C n ops.toList o) (runR (mkSeq C n ops.toList l)) c f h = .norm f' h' := hx
  show owOps C.P ops Q (s :: (List.range' (s + 1) l.length ++ rest)) a w
  simp only [owOps, ho]
  rcases mkS_spec (C := C) (n := n) (ops := ops.toList) (o := o) with ⟨g, g1, g2, g3⟩ | ⟨q, g2⟩
  · rw [g2] at hp
    have hp : ifb (okG g f) (ifb (wantG g f) ((xO (mk C o) c f h).bd Out.no (doneS ⟨mk C o, g, o.dst.map path, false⟩ (runR (mkSeq C n ops.toList l)) c f)) (doneS ⟨mk C o, g, o.dst.map path, false⟩ (runR (mkSeq C n ops.toList l)) c f undefA h)) (.no "guard") = .norm f' h' := hp
    cases hok : okG g f with
    | false => rw [hok] at hp; cases hp
    | true =>
    have hgs := guard_sim hf.1 g1 hok
    rw [hok, ifb_true, hgs] at hp
    have hdone : ∀ (v : AV) (h2 : Hp), doneS ⟨mk C o, g, o.dst.map path, false⟩ (runR (mkSeq C n ops.toList l)) c f v h2 = runR (mkSeq C n ops.toList l) c (putD (o.dst.map path) v f).out h2 := by
     intro v h2
     show v.force (fun v => (putD (o.dst.map path) v f).bd fun f => runR (mkSeq C n ops.toList l) c f h2) = _
     rw [force_eq, putD_mk]; rfl
    cases hw : Region.wanted o (yielded ops a.tmps) with
    | true =>
     rw [hw, ifb_true] at hp
     simp only [if_true]
     left
     cases hx : xO (mk C o) c f h with
     | no q => rw [hx] at hp; cases hp
     | ok v h2 =>
      rw [hx] at hp
      have hp : doneS ⟨mk C o, g, o.dst.map path, false⟩ (runR (mkSeq C n ops.toList l)) c f v h2 = .norm f' h' := hp
      rw [hdone] at hp
      refine mk_sim o c hc f h v h2 e a w hx hg hf.1 hr _ Q fun e' v' w' hext hv => ?_
      exact ih (s + 1) hl' _ h2 e' _ w' f' h' (hg.mono hext.le) ((hf.mono hext.le).putO g3 hv) hext.hr hp fun e2 a2 w2 x2 => hk e2 a2 w2 (hext.trans x2)
    | false =>
     rw [hw, ifb_false, hdone] at hp
     simp only [Bool.false_eq_true, if_false]
     exact ih (s + 1) hl' _ h e _ w f' h' hg (hf.putO g3 (undef_VR e)) hr hp hk
  · rw [g2] at hp
    cases hp
theorem call_ow {o : Oper} {g : FuncId} {fn : Func} {b : Code} {args' : List Value} {a : Act} {w : World} (h1 : C.P.funcs[g]? = some fn) (h2 : (fn.name == "runtime.NumGoroutine") = false) (h3 : fn.body = some b)
 (hex : (execOp a.eval o).run C.P w = (callFunc g args'.toArray).run C.P w) {R : Ending → World → Prop} (hcall : Calls C.P g args'.toArray w R) {K : Act → World → Prop} {Q : Exit → Act → World → Prop}
 (hk : ∀ en w', R en w' → ∃ v', en = .returned v' ∧ K (a.put o.dst v') w') : o.ow C.P a w K Q := by
 intro ro
 refine ⟨fun _ _ => trivial, ?_⟩
 rw [show (fw ro).round = ro from rfl, semAt_run (hex.trans (run_callFunc h1 h2 h3)) (fun _ hh => by cases hh)]
 rw [Oper.uponIn_enter]
 refine ⟨(fun hh => by cases hh), callsIn_fw (Calls.mono hcall fun en w' he => ?_)⟩
 obtain ⟨v', rfl, h4⟩ := hk en w' he
 exact h4
theorem HR.grown {e : Emb} {h : Hp} {w w' : World} (hr : HR e h w) (hs : w.heap.size ≤ w'.heap.size) (hb : ∀ i, i < w.heap.size → w'.heap[i]? = w.heap[i]?) : HR e h w' :=
 ⟨hr.inj, fun b g x hx => ⟨Nat.lt_of_lt_of_le (hr.lt b g x hx).1 hs, (hr.lt b g x hx).2⟩, fun b g x hx => by
  rw [hb _ (hr.lt b g x hx).1]; exact hr.at' b g x hx⟩
theorem Ext.grown {e : Emb} {h : Hp} {w w' : World} (hr : HR e h w) (ho : w'.os = w.os) (hout : w'.output = w.output) (hs : w.heap.size ≤ w'.heap.size) (hb : ∀ i, i < w.heap.size → w'.heap[i]? = w.heap[i]?) : Ext e h w e h w' :=
 ⟨.refl e, hr.grown hs hb, fun _ g x he => .inl ⟨g, x, he⟩, fun _ g x he => .inl ⟨g, x, he, rfl⟩, fun r hr _ => hb r hr, fun _ _ _ => rfl, fun _ _ => rfl, Nat.le_refl _, hs, ho, hout, rfl⟩
theorem ow_piece (hd : DrawOK C) (hn : Named C.P) {c : CallT} (hc : CallOK C c) {n b0 k : Nat} {x y : Code} {f f' : Fr} {h h' : Hp} {e : Emb} {a : Act} {w : World} {Q : Exit → Act → World → Prop}
 (hge : GR C e) (hf : FN a.defers n e f a) (hdf : DF b0 e w a.defers) (hr : HR e h w) (hx : runC (mkC C n x) k c f h = .norm f' h')
 (hk : ∀ e' a' w', Ext e h w e' h' w' → FN a'.defers n e' f' a' → DF b0 e' w' a'.defers → y.ow (fun ro => ro = none) C.P Q a' w') : (Code.seq x y).ow (fun ro => ro = none) C.P Q a w := by
 refine ow_seq (code_sim (R := fun ro => ro = none) hd hn n x (.inl fun _ hh => hh) b0 k c hc f h e a w _ hge hf hdf hr ?_)
 rw [hx]
 exact hk
theorem ow_call_region {c : CallT} (hc : CallOK C c) {n b0 id : Nat} {ops : Array Oper} {f f2 : Fr} {h h2 : Hp} {e : Emb} {a : Act} {w : World} {Q : Exit → Act → World → Prop}
 (hge : GR C e) (hf : FN a.defers n e f a) (hdf : DF b0 e w a.defers) (hr : HR e h w) {i : Nat} (hpre : runR (mkSeq C n ops.toList (ops.toList.take i)) c f h = .norm f2 h2)
 {o : Oper} (ho : ops[i]? = some o) {d : Nat} (hdst : o.dst = some d) (hdn : d < n) {gd : Option (List Bool × Bool)} (hgd : mkGuard ops.toList o = some gd) (hgk : okG gd f2 = true) (hgw : wantG gd f2 = true)
 (hcall : ∀ e1 a1 w1, Ext e h w e1 h2 w1 → FR e1 f2 a1 → ∃ (g1 : FuncId) (fn1 : Func) (b1 : Code) (args1 : List Value), C.P.funcs[g1]? = some fn1 ∧ (fn1.name == "runtime.NumGoroutine") = false ∧ fn1.body = some b1 ∧
  (execOp a1.eval o).run C.P w1 = (callFunc g1 args1.toArray).run C.P w1 ∧ Calls C.P g1 args1.toArray w1 fun en w' => ∃ v' q f3 h3, en = .returned v' ∧ VR e1 q v' ∧ Ext e1 h2 w1 e1 h2 w' ∧
   runR (mkSeq C n ops.toList (ops.toList.drop (i + 1))) c (setT q (path d) f2) h2 = .norm f3 h3 ∧ ∀ e' a' w'', Ext e h w e' h3 w'' → FN a'.defers n e' f3 a' → DF b0 e' w'' a'.defers → Q .normal a' w'') :
 (Code.region id ops false).ow (fun ro => ro = none) C.P Q a w := by
 refine ow_region ?_
 have hi : i < ops.size := (Array.getElem?_eq_some_iff.1 ho).1
 have hrange : List.range ops.size = List.range' 0 (ops.toList.take i).length ++ (i :: List.range' (i + 1) (ops.toList.drop (i + 1)).length) := by
  rw [List.length_take, List.length_drop, Array.length_toList, Nat.min_eq_left (Nat.le_of_lt hi), List.range_eq_range']
  have h1 : i :: List.range' (i + 1) (ops.size - (i + 1)) = List.range' (0 + i) (ops.size - i) := by
   rw [show ops.size - i = (ops.size - (i + 1)) + 1 by omega, List.range'_succ, Nat.zero_add]
  rw [h1, List.range'_append_1, show i + (ops.size - i) = ops.size by omega]
 rw [hrange]
 refine seq_part hc _ (ops.toList.take i) 0 (fun j o' hj => ?_) f h e a w f2 h2 hge hf hr hpre ?_
 · rw [List.getElem?_take] at hj
   split at hj
   · simpa using hj
   · cases hj
 intro e2 a2 w2 x2 hf2
 have hwant := (guard_sim hf2.1 hgd hgk).symm.trans hgw
 rw [owOps_cons]
 unfold owOp
 rw [ho]
 simp only [hwant, if_true]
 left
 obtain ⟨g1, fn1, b1, args1, k1, k2, k3, k4, k5⟩ := hcall e2 a2 w2 x2 hf2.1
 refine call_ow k1 k2 k3 k4 k5 fun en w3 ⟨v', q, f3, h3, hen, hvr, hx3, hpost, hk⟩ => ⟨v', hen, ?_⟩
 rw [hdst]
 have hf3 : FN a.defers n e2 (setT q (path d) f2) (a2.put (some d) v') := hf2.put hdn hvr
 have hX3 : Ext e h w e2 h2 w3 := x2.trans hx3
 have := seq_part hc (Q := Q) [] (ops.toList.drop (i + 1)) (i + 1) (fun j o' hj => by simpa using hj) _ h2 e2 _ w3 f3 h3 (hge.mono x2.le) hf3 hx3.hr hpost fun e' a' w'' x' hf' =>
  hk e' a' w'' (hX3.trans x') (by rw [hf'.2.2]; exact hf') (by rw [hf'.2.2]; exact hdf.ext (hX3.trans x'))
 rwa [List.append_nil] at this
theorem ow_ret_leave {fn : Func} {f4 : Fr} {h h4 h' : Hp} {e e' : Emb} {a' : Act} {w w' : World} {code : CC} {v : AV} (hx : leave ⟨code, mkRes C fn.results.toList⟩ f4 h4 = .ok v h') (hext : Ext e h w e' h4 w') {n : Nat} (hf' : FN a'.defers n e' f4 a') (hdf' : DF w.heap.size e' w' a'.defers) :
 LeavesInM Fence.wide 0 C.P fn a'.tmps (fun en w' => ∃ v' e', en = .returned v' ∧ VR e' v v' ∧ Ext e h w e' h' w') a'.defers .returning w' := by
 refine leaves_DF a'.defers w' hext hdf' fun w'' hext'' => ?_
 obtain ⟨rfl, v', k1, k2⟩ := leave_sim hf'.1 hext''.hr hx
 exact ⟨v', k1, v', e', rfl, k2, hext''⟩
noncomputable def withBlk (gl : List (Nat × List AV)) (n k : Nat) : Hp := ((globHp gl n).put k (.sit 0 0 8)).out
def withE (gl : List (Nat × List AV)) (k : Nat) (x : Loc) : Emb := fun b g => if b = k then (if g = 0 then some x else Option.none) else initE gl b g
theorem withBlk_eq (gl : List (Nat × List AV)) (n k : Nat) : withBlk gl n k = ⟨setT (.sit 0 0 8) (path k) (globHp gl n).t, (globHp gl n).n, (globHp gl n).lk⟩ := by
 unfold withBlk; rw [Hp.put_eq]; rfl
theorem withBlk_get (gl : List (Nat × List AV)) (n k b : Nat) : (withBlk gl n k).get b = if b = k then some (.sit 0 0 8) else (globHp gl n).get b := by
 rw [withBlk_eq]
 unfold Hp.get
 rw [getP_path]
theorem init_with {gl : List (Nat × List AV)} {n k : Nat} (L : Laid C gl n) {w : World} (hw : Holds gl w) {x : Loc} (hk : k < n) (hgk : ∀ q ∈ gl, q.1 ≠ k) (hC : C.gs.any (Nat.beq k) = false) (hx : x.r < w.heap.size) (hne : ∀ q ∈ gl, q.1 ≠ x.r) (hb : x.base ≤ x.lo) :
 HR (withE gl k x) (withBlk gl n k) w ∧ GR C (withE gl k x) := by
 obtain ⟨hr, hg⟩ := init_sim L hw
 have hle : (initE gl).le (withE gl k x) := fun b g y hy => by
  obtain ⟨rfl, q, hq, rfl, _⟩ := initE_spec hy
  unfold withE
  rw [if_neg (hgk q hq)]; exact hy
 have inv : ∀ b g y, withE gl k x b g = some y → (b = k ∧ g = 0 ∧ y = x) ∨ (b ≠ k ∧ initE gl b g = some y) := by
  intro b g y hy
  unfold withE at hy
  by_cases hbk : b = k
  · rw [if_pos hbk] at hy
    by_cases hg0 : g = 0
    · rw [if_pos hg0] at hy; cases hy; exact .inl ⟨hbk, hg0, rfl⟩
    · rw [if_neg hg0] at hy; cases hy
  · rw [if_neg hbk] at hy; exact .inr ⟨hbk, hy⟩
 have hr1 : ∀ b g y, initE gl b g = some y → y.r ≠ x.r := by
  intro b g y hy
  obtain ⟨_, q, hq, rfl, rfl⟩ := initE_spec hy
  exact hne q hq
 refine ⟨⟨fun b g y b' g' y' h1 h2 h3 => ?_, fun b g y h1 => ?_, fun b g y h1 => ?_⟩, hg.mono hle⟩
 · rcases inv b g y h1 with ⟨rfl, rfl, rfl⟩ | ⟨q1, q2⟩ <;> rcases inv b' g' y' h2 with ⟨rfl, rfl, rfl⟩ | ⟨q3, q4⟩
   · exact ⟨rfl, rfl⟩
   · exact absurd h3.symm (hr1 _ _ _ q4)
   · exact absurd h3 (hr1 _ _ _ q2)
   · exact hr.inj b g y b' g' y' q2 q4 h3
 · rcases inv b g y h1 with ⟨rfl, rfl, rfl⟩ | ⟨q1, q2⟩
   · exact ⟨hx, by rw [withBlk_eq]; show b < (globHp gl n).n; rw [globHp_n]; exact hk⟩
   · exact ⟨(hr.lt b g y q2).1, by rw [withBlk_eq]; exact (hr.lt b g y q2).2⟩
 · rcases inv b g y h1 with ⟨rfl, rfl, rfl⟩ | ⟨q1, q2⟩
   · refine ⟨_, by rw [withBlk_get, if_pos rfl], ?_⟩
     rw [Array.getElem?_eq_getElem hx]
     exact .busy _ rfl rfl hb
   · obtain ⟨blk, k1, k2⟩ := hr.at' b g y q2
     exact ⟨blk, by rw [withBlk_get, if_neg q1]; exact k1, k2.mono hle⟩
theorem with_kept {gl : List (Nat × List AV)} {n k : Nat} (L : Laid C gl n) {x : Loc} (hk : k < n) (hgk : ∀ q ∈ gl, q.1 ≠ k) {w w' : World} {e' : Emb} {h' : Hp} (hext : Ext (withE gl k x) (withBlk gl n k) w e' h' w') : ∀ i, i < w.heap.size → w'.heap[i]? = w.heap[i]? := by
 intro i hi
 refine hext.frame i hi fun b g y hy hyr => ?_
 unfold withE at hy
 by_cases hbk : b = k
 · subst hbk
   exact ⟨by rw [withBlk_eq]; show b < (globHp gl n).n; rw [globHp_n]; exact hk, .inl ⟨.sit 0 0 8, by rw [withBlk_get, if_pos rfl], rfl, rfl, .inl rfl⟩⟩
 · rw [if_neg hbk] at hy
   obtain ⟨_, q, hq, rfl, rfl⟩ := initE_spec hy
   have h1 := List.all_eq_true.1 (show gl.all _ = true from L.ok) q hq
   refine ⟨by rw [withBlk_eq]; show q.1 < (globHp gl n).n; rw [globHp_n]; exact L.lt' (List.mem_map_of_mem hq), .inl ?_⟩
   split at h1
   · rename_i l z hh
     rw [Bool.and_eq_true] at h1
     have hz := beq_iff.1 h1.1
     subst hz
     exact ⟨.flat l 3, by rw [withBlk_get, if_neg hbk]; exact hh, show (3 : Nat) = 3 from rfl⟩
   · cases h1
end Go.Ab
namespace Go.Ab
variable [Val]
open Go
variable {C : Cx}
theorem VR.ptr0 {e : Emb} {b : Nat} {v' : Value} (h : VR e (.ptr b 0 0) v') : ∃ x, e b 0 = some x ∧ x.base = 0 ∧ x.lo = 0 ∧ v' = .pointer (some ⟨x.r, 0, none⟩) := by
 cases h with
 | ptr _ _ _ x h1 h2 h3 =>
  have hb : x.base = 0 := by omega
  exact ⟨x, h1, hb, by omega, by rw [hb]⟩
theorem HR.cell0 {e : Emb} {h : Hp} {w : World} (hr : HR e h w) {b z : Nat} {l : List AV} {x : Loc} (hb : h.get b = some (.flat l z)) (hx : e b 0 = some x) (h0 : x.base = 0) (h1 : x.lo = 0) : x.r < w.heap.size ∧ ∀ j v, l[j]? = some v → ∃ v', w.cell? ⟨x.r, j, none⟩ = some v' ∧ VR e v v' := by
 refine ⟨(hr.lt b 0 x hx).1, fun j v hv => ?_⟩
 have hrd : h.read1 b 0 j = .ok v := by
  unfold Hp.read1
  rw [hb]
  show Res.of "read" (nthA l j) = _
  rw [nthA_eq, hv]; rfl
 obtain ⟨v', h2, h3, _⟩ := hr.read1 hx (by omega) hrd
 rw [h0, Nat.sub_zero] at h2
 exact ⟨v', h2, h3⟩
theorem kn_hand {gl : List (Nat × List AV)} {n : Nat} (L : Laid C gl n) {q : Kn} (hy : Nat.ble yF q.g = false) (hfn : ∃ fn b, C.P.funcs[q.g]? = some fn ∧ (fn.name == "runtime.NumGoroutine") = false ∧ fn.body = some b) (hbs : q.bs = []) (hv : ∀ ρ, q.v.ren ρ = q.v)
 (hH : ∀ e w args', VRL e (renL (renU (argMu n q.bas.length) 0) q.args) args' → HR e (argHp gl n q.bas) w → Calls C.P q.g args'.toArray w fun en w' => ∃ v', en = .returned v' ∧ (∀ e, VR e q.v v') ∧ w'.os = w.os ∧ w'.output = w.output ∧ w.heap.size ≤ w'.heap.size ∧ ∀ i, i < w.heap.size → w'.heap[i]? = w.heap[i]?) :
 ∀ args h v h', q.use gl n args h = some (v, h') → CallOne C q.g args h v h' := by
 intro args h v h' hu
 unfold Kn.use at hu
 simp only at hu
 generalize muOfK q args h = mu at hu
 cases hg : and (avEqL args (renL (renU mu h.n) q.args)) (and (globOK gl h) (blksOK (renU mu h.n) h n mu q.bas)) with
 | false => rw [hg] at hu; cases hu
 | true =>
 rw [hg, ifb_true, natF_eq, force_eq, Bx.eta (addAll _ q.bs h), Bx.bd_mk] at hu
 cases hu
 simp only [Bool.and_eq_true] at hg
 obtain ⟨hargs, hgo, hbm⟩ := hg
 have hargs := avEqL_eq hargs
 refine .inl ⟨hy, hfn, fun e w args' hg hv' hr => ?_⟩
 obtain ⟨k1, k2, k3⟩ := base_sim L hg hr hgo hbm
 rw [hargs] at hv'
 refine Calls.mono (hH (baseE gl n mu e) w args' (VRL.ren k3 q.args hv') k2) fun en w' he => ?_
 obtain ⟨v', rfl, h1, h2, h3, h4, h5⟩ := he
 refine ⟨v', e, rfl, by rw [hv]; exact h1 e, ?_⟩
 rw [hbs]
 have ha : (addAll (renU mu h.n) ([] : List (List AV × Nat)) h).out = h := rfl
 rw [ha]
 exact Ext.grown hr h2 h3 h4 h5
end Go.Ab
namespace Go.Ab
variable [Val]
open Go
variable {C : Cx}
theorem mid_sim (hd : DrawOK C) (hn : Named C.P) {c : CallT} (hc : CallOK C c) {g : Nat} {fn : Func} {r0 r1 r2 r3 : Code} {id : Nat} {ops : Array Oper} {k : Nat} (hg : C.P.funcs[g]? = some fn) (hb : fn.body = some (.seq r0 (.seq r1 (.seq r2 (.seq r3 (.seq (.region id ops false) .ret))))))
 {args : List AV} {args' : List Value} {e : Emb} {h : Hp} {w : World} (hge : GR C e) (hv : VRL e args args') (hr : HR e h w) {f1 f2 f3 f4 f5 f6 : Fr} {h1 h2 h3 h4 h5 h6 h' : Hp}
 (hx0 : runC (mkC C fn.ntmps r0) k c (frameOf args 0 .e).out h = .norm f1 h1) (hx1 : runC (mkC C fn.ntmps r1) k c f1 h1 = .norm f2 h2) (hx2 : runC (mkC C fn.ntmps r2) k c f2 h2 = .norm f3 h3) (hx3 : runC (mkC C fn.ntmps r3) k c f3 h3 = .norm f4 h4)
 {i : Nat} {o : Oper} {d : Nat} {gd : Option (List Bool × Bool)} (hpre : runR (mkSeq C fn.ntmps ops.toList (ops.toList.take i)) c f4 h4 = .norm f5 h5) (ho : ops[i]? = some o) (hdst : o.dst = some d) (hdn : d < fn.ntmps) (hgd : mkGuard ops.toList o = some gd) (hgk : okG gd f5 = true) (hgw : wantG gd f5 = true)
 {q v : AV} (hcall : ∀ e1 a1 w1, Ext e h w e1 h5 w1 → FR e1 f5 a1 → ∃ (g1 : FuncId) (fn1 : Func) (b1 : Code) (args1 : List Value), C.P.funcs[g1]? = some fn1 ∧ (fn1.name == "runtime.NumGoroutine") = false ∧ fn1.body = some b1 ∧
  (execOp a1.eval o).run C.P w1 = (callFunc g1 args1.toArray).run C.P w1 ∧ Calls C.P g1 args1.toArray w1 fun en w' => ∃ v', en = .returned v' ∧ VR e1 q v' ∧ Ext e1 h5 w1 e1 h5 w')
 (hpost : runR (mkSeq C fn.ntmps ops.toList (ops.toList.drop (i + 1))) c (setT q (path d) f5) h5 = .norm f6 h6) {code : CC} (hlv : leave ⟨code, mkRes C fn.results.toList⟩ f6 h6 = .ok v h') :
 Calls C.P g args'.toArray w fun en w' => ∃ v' e', en = .returned v' ∧ VR e' v v' ∧ Ext e h w e' h' w' := by
 refine (callsIn_wide (n := 0)).1 (callsIn_of_wp_marks hg hb trivial ?_)
 refine ow_piece hd hn hc (b0 := w.heap.size) hge (frame_FN hv fn.ntmps) (DF.nil e (Nat.le_refl _)) hr hx0 (fun e1 a1 w1 x1 q1 d1 => ?_) none rfl
 refine ow_piece hd hn hc (hge.mono x1.le) q1 d1 x1.hr hx1 (fun e2 a2 w2 x2 q2 d2 => ?_)
 have X2 := x1.trans x2
 refine ow_piece hd hn hc (hge.mono X2.le) q2 d2 x2.hr hx2 (fun e3 a3 w3 x3 q3 d3 => ?_)
 have X3 := X2.trans x3
 refine ow_piece hd hn hc (hge.mono X3.le) q3 d3 x3.hr hx3 (fun e4 a4 w4 x4 q4 d4 => ?_)
 have X4 := X3.trans x4
 refine ow_seq (ow_call_region hc (hge.mono X4.le) q4 d4 x4.hr hpre ho hdst hdn hgd hgk hgw fun e5 a5 w5 x5 q5 => ?_)
 obtain ⟨g1, fn1, b1, args1, k1, k2, k3, k4, k5⟩ := hcall e5 a5 w5 (X4.trans x5) q5
 refine ⟨g1, fn1, b1, args1, k1, k2, k3, k4, k5.mono fun en w' ⟨v', j1, j2, j3⟩ => ⟨v', q, f6, h6, j1, j2, j3, hpost, fun e' a' w'' x6 q6 d6 => ?_⟩⟩
 refine ow_ret ?_
 exact ow_ret_leave hlv (X4.trans x6) q6 d6
end Go.Ab
