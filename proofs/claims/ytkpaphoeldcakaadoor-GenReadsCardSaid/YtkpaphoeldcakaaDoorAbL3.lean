/-
  An executable reading of the model's code on named blocks, and the proof that what it comes to is what the model does, in any order that is free: part 3.
-/
import Derived.Test.YtkpaphoeldcakaaDoorAbL2
import Derived.Deep.AppendSrc
import Derived.Lib.AppendZeros
import Derived.Orders
/- Each operation, done on named blocks, is what the model does (tenth part: maps, lengths, strings gone through). -/
namespace Go.Ab
open Go
variable {C : Cx}

/-- Another object in a block that is no cells. -/
theorem HR.setObj {e : Emb} {h : Hp} {w : World} (hr : HR e h w) {b : Nat} {x : Loc} {blk blk' : Blk} {ob' : Obj} (hx : e b 0 = some x) (hget : h.get b = some blk) (hnc : ¬ blk.isCells) (hkp : ¬ blk.kept) (hbr : BR e blk' 0 x (some ob')) (hok : h.okw b = true) :
    Ext e h w e ⟨setT blk' (path b) h.t, h.n, h.lk⟩ { w with heap := w.heap.setIfInBounds x.r ob' } := by
  have hlt := hr.lt b 0 x hx
  have hg : ∀ g y, e b g = some y → g = 0 ∧ y = x := by
    intro g y hy
    obtain ⟨blk2, h1, h2⟩ := hr.at' b g y hy
    rw [hget] at h1; cases h1
    have : g = 0 := by
      generalize w.heap[y.r]? = ob at h2
      cases h2 with
      | cells c t fr q => exact absurd q.cells hnc
      | map _ _ _ _ _ hg _ _ _ _ => exact hg
      | sit _ _ _ hg => exact hg
      | iter _ _ _ _ _ hg => exact hg
      | lp q0 fn0 tm0 df0 _ hg => exact hg
      | busy o0 _ hg => exact hg
      | dfr _ hg => exact hg
    subst this
    rw [hx] at hy; cases hy; exact ⟨rfl, rfl⟩
  refine ⟨.refl e, ⟨hr.inj, ?_, ?_⟩, fun _ g y he => .inl ⟨g, y, he⟩, fun _ g y he => .inl ⟨g, y, he, rfl⟩, ?_, ?_, ?_, Nat.le_refl _, ?_, rfl, rfl, rfl⟩
  · intro b' g y hy
    simpa using hr.lt b' g y hy
  · intro b' g y hy
    by_cases hb : b' = b
    · subst hb
      obtain ⟨rfl, rfl⟩ := hg g y hy
      refine ⟨blk', by rw [Hp.get_set _ _ h.n, if_pos rfl], ?_⟩
      simpa [hlt.1] using hbr
    · obtain ⟨blk2, h1, h2⟩ := hr.at' b' g y hy
      refine ⟨blk2, by rw [Hp.get_set _ _ h.n, if_neg hb]; exact h1, ?_⟩
      have hne : x.r ≠ y.r := fun hh => hb (hr.inj _ _ _ _ _ _ hy hx hh.symm).1
      simpa [Array.getElem?_setIfInBounds_ne hne] using h2
  · intro r hrl hro
    by_cases hrr : x.r = r
    · rcases (hro b 0 x hx hrr).2 with ⟨l, hl⟩ | hl
      · rw [hget] at hl; cases hl.1
        exact absurd hl.2 hkp
      · rw [hok] at hl; cases hl
    · simp [Array.getElem?_setIfInBounds_ne hrr]
  · intro b' _ hno
    rw [Hp.get_set _ _ h.n, if_neg]
    intro hb; subst hb; rw [hno 0] at hx; cases hx
  · intro b' ⟨_, hl⟩
    rw [Hp.get_set _ _ h.n, if_neg]
    intro hb; subst hb
    rcases hl with ⟨l, hl⟩ | hl
    · rw [hget] at hl; cases hl.1
      exact absurd hl.2 hkp
    · rw [hok] at hl; cases hl
  · simp

theorem R2.put_ok {h h' : Hp} {r : Nat} {b : Blk} {f v : AV} (e : R2.put h r b f = .ok v h') : v = f ∧ h' = ⟨setT b (path r) h.t, h.n, h.lk⟩ ∧ h.okw r = true := by
  unfold R2.put at e
  rw [Hp.put_eq] at e
  cases hok : h.okw r with
  | false => rw [hok] at e; cases e
  | true =>
    rw [hok] at e
    cases e
    exact ⟨rfl, rfl, rfl⟩

theorem run_findKey {P : Program} {w : World} {kt : TypeId} {d : TypeDesc} {k : Value} {L : List MapEntry} {r : Option (Nat × Value)} (hu : P.underlying kt = some d) (h : Instr.findNow d k L 0 = some r) : (Instr.findKey kt k L).run P w = .ok r w := by
  simp [Instr.findKey, run_und hu, h]

theorem mapZero_spec {t kt el : TypeId} {z : AV} (hu : C.P.underlying t = some (.map kt el)) (h : mapZero C t = some z) : ∃ i v, C.P.info? el = some i ∧ i.zero = some v ∧ conv v = some z := by
  unfold mapZero at h
  rw [hu] at h
  obtain ⟨i, v, h1, h2, h3, _⟩ := zeroOf_spec h
  exact ⟨i, v, h1, h2, h3⟩

theorem ifb_okTup {e : Emb} {ok : Bool} {v : AV} {v' : Value} {b : Bool} (h : VR e v v') : VR e (okTup ok v b) (if ok then .tuple #[v', .bool b] else v') := by
  cases ok with
  | false => exact h
  | true => exact .tup [v, .bool b] [v', .bool b] (.cons _ _ _ _ h (.cons _ _ _ _ (.bool b) .nil))

theorem sim_lookup {o : Oper} {t : TypeId} {x y : Operand} {ok : Bool} (ho : o.op = .lookup t x y ok) : Sim C o (xO (mk C o)) := by
  intro c _ f h v h' e a wd hx hg hf hr K Q hk
  simp only [mk, ho] at hx
  obtain ⟨co, h1, hx⟩ := orBad_ok hx
  cases hkd : keyKd C t with
  | none => rw [hkd] at h1; cases h1
  | some kd => cases hz : mapZero C t with
    | none => rw [hkd, hz] at h1; cases h1
    | some z => cases hs : sx C x with
      | none => rw [hkd, hz, hs] at h1; cases h1
      | some sm => cases hs2 : sx C y with
        | none => rw [hkd, hz, hs, hs2] at h1; cases h1
        | some sk =>
          rw [hkd, hz, hs, hs2] at h1
          cases h1
          obtain ⟨kt, el, d, u1, u2, kdd⟩ := keyKd_spec hkd
          obtain ⟨zi, zv, z1, z2, z3⟩ := mapZero_spec u1 hz
          have vk := sx_VR hg hf hs2
          have fin : ∀ (es : Es) (es' : Array MapEntry) (l : List (Value × Value)), ERL e es l → l.Perm (es'.toList.map fun m => (m.key, m.val)) → keysOk es → lkIn kd z ok (ev f sk) es h = .ok v h' →
              ((a.eval x = .map none ∧ es' = #[]) ∨ ∃ r clock, a.eval x = .map (some r) ∧ wd.heap[r]? = some (.map es' clock)) → o.ow C.P a wd K Q := by
            intro es es' l q1 q2 q3 hx hexec
            unfold lkIn at hx
            obtain ⟨hk1, hx⟩ := ifbR hx
            obtain ⟨r, hfk, hx⟩ := optR hx
            obtain ⟨kv, _⟩ := keyIs_spec vk kdd hk1
            rcases find_sim q1 q2 q3 kv hfk with ⟨rfl, g1, _, _⟩ | ⟨i, v0, j, m, rfl, _, g1, _, _, _, g2⟩
            · have hx : R2.ok (okTup ok z false) h = .ok v h' := hx
              cases hx
              refine wp_val (v := if ok then .tuple #[zv, .bool false] else zv) ?_ (hk e _ wd (.refl hr) (ifb_okTup (conv_VR e zv z z3)))
              rcases hexec with ⟨m1, rfl⟩ | ⟨r, clock, m1, m2⟩
              · simp only [execOp, ho, Instr.lookup, Sem.run_bind, run_und u1, m1, run_checkKeyA u2 kdd, run_findKey u2 g1, Result.andThen_ok, run_zero z1 z2, Sem.run_pure]
              · simp only [execOp, ho, Instr.lookup, Sem.run_bind, run_und u1, m1, MapKept.run_getObj_map m2, run_checkKeyA u2 kdd, run_findKey u2 g1, Result.andThen_ok, run_zero z1 z2, Sem.run_pure]
            · have hx : R2.ok (okTup ok v0 true) h = .ok v h' := hx
              cases hx
              refine wp_val (v := if ok then .tuple #[m.val, .bool true] else m.val) ?_ (hk e _ wd (.refl hr) (ifb_okTup g2))
              rcases hexec with ⟨m1, rfl⟩ | ⟨r, clock, m1, m2⟩
              · simp only [execOp, ho, Instr.lookup, Sem.run_bind, run_und u1, m1, run_checkKeyA u2 kdd, run_findKey u2 g1, Result.andThen_ok, Sem.run_pure]
              · simp only [execOp, ho, Instr.lookup, Sem.run_bind, run_und u1, m1, MapKept.run_getObj_map m2, run_checkKeyA u2 kdd, run_findKey u2 g1, Result.andThen_ok, Sem.run_pure]
          have hx : (ev f sm).onMap R2.no (lkIn kd z ok (ev f sk) [] h) (fun r => h.onMap r (.no "lookup: no map") fun es => lkIn kd z ok (ev f sk) es h) = .ok v h' := hx
          rcases (sx_VR hg hf hs).mapR hx with ⟨m1, hx⟩ | ⟨r, y0, p1, mb, m1, hx⟩
          · exact fin [] #[] [] .nil (by simp) .nil hx (.inl ⟨m1, rfl⟩)
          · obtain ⟨es, es', clock, l, g1, g2, q1, q2, q3, _, hx⟩ := hr.mapAt p1 hx
            exact fin es es' l q1 q2 q3 hx (.inr ⟨_, _, m1, g2⟩)

/-! ### Keys that are put in -/
theorem keyEq_comm (x y : AV) : keyEq x y = keyEq y x := by
  cases x <;> cases y <;> try rfl
  case int.int j a k b =>
    show ifb (sameK j k) (some (eqA a b)) none = ifb (sameK k j) (some (eqA b a)) none
    have h1 : sameK j k = sameK k j := by cases j <;> cases k <;> rfl
    have h2 : eqA a b = eqA b a := by rw [eqA_eq, eqA_eq, Bool.eq_iff_iff]; simp; exact eq_comm
    rw [h1, h2]
  case bool.bool a b => cases a <;> cases b <;> rfl
  case str.str n a m b =>
    show some (eqStr n a m b) = some (eqStr m b n a)
    have h1 : ∀ i j : Nat, Nat.beq i j = Nat.beq j i := fun i j => by rw [Bool.eq_iff_iff, beq_iff, beq_iff]; exact eq_comm
    unfold eqStr; rw [h1 n, h1 a]

theorem setVal_eq (k v : AV) : ∀ (es : Es) (i : Nat), setVal k v es i = .mk (es.set i (k, v))
  | [], _ => rfl
  | e :: es, 0 => rfl
  | e :: es, i + 1 => by
    show (setVal k v es i).bd (fun r => Bx.mk (e :: r)) = _
    rw [setVal_eq k v es i]; rfl
theorem eraseA_eq : ∀ (es : Es) (i : Nat), eraseA es i = .mk (es.eraseIdx i)
  | [], _ => rfl
  | e :: es, 0 => rfl
  | e :: es, i + 1 => by
    show (eraseA es i).bd (fun r => Bx.mk (e :: r)) = _
    rw [eraseA_eq es i]; rfl

theorem ERL.set {e : Emb} {es : Es} {l : List (Value × Value)} (h : ERL e es l) {k v : AV} {k' v' : Value} (hk : VR e k k') (hv : VR e v v') (hp : keyPrim k = true) (i : Nat) : ERL e (es.set i (k, v)) (l.set i (k', v')) := by
  induction h generalizing i with
  | nil => exact .nil
  | cons k0 v0 k1 v1 l0 l1 a b c d ih => cases i with
    | zero => exact .cons _ _ _ _ _ _ hk hv hp d
    | succ i => exact .cons _ _ _ _ _ _ a b c (ih i)
theorem ERL.erase {e : Emb} {es : Es} {l : List (Value × Value)} (h : ERL e es l) (i : Nat) : ERL e (es.eraseIdx i) (l.eraseIdx i) := by
  induction h generalizing i with
  | nil => exact .nil
  | cons k0 v0 k1 v1 l0 l1 a b c d ih => cases i with
    | zero => exact d
    | succ i => exact .cons _ _ _ _ _ _ a b c (ih i)
theorem ERL.push {e : Emb} {es : Es} {l : List (Value × Value)} (h : ERL e es l) {k v : AV} {k' v' : Value} (hk : VR e k k') (hv : VR e v v') (hp : keyPrim k = true) : ERL e (es ++ [(k, v)]) (l ++ [(k', v')]) := by
  induction h with
  | nil => exact .cons _ _ _ _ _ _ hk hv hp .nil
  | cons k0 v0 k1 v1 l0 l1 a b c d ih => exact .cons _ _ _ _ _ _ a b c ih

theorem keysOk_set : ∀ {es : Es} {i : Nat} {k v v0 : AV}, keysOk es → es[i]? = some (k, v0) → keysOk (es.set i (k, v))
  | [], _, _, _, _, _, h => by simp at h
  | e :: es, 0, k, v, v0, h, hi => by
    have h := List.pairwise_cons.1 h
    simp at hi; subst hi
    exact List.pairwise_cons.2 ⟨h.1, h.2⟩
  | e :: es, i + 1, k, v, v0, h, hi => by
    have h := List.pairwise_cons.1 h
    have hi : es[i]? = some (k, v0) := by simpa using hi
    refine List.pairwise_cons.2 ⟨?_, keysOk_set h.2 hi⟩
    intro x hx
    rcases List.mem_or_eq_of_mem_set hx with hx | rfl
    · exact h.1 x hx
    · exact h.1 (k, v0) (List.mem_of_getElem? hi)
theorem keysOk_push {es : Es} {k v : AV} (h : keysOk es) (hn : ∀ x ∈ es, keyEq k x.1 = some false) : keysOk (es ++ [(k, v)]) := by
  refine List.pairwise_append.2 ⟨h, by simp, ?_⟩
  intro a ha b hb
  simp at hb; subst hb
  exact ⟨by rw [keyEq_comm]; exact hn a ha, hn a ha⟩
theorem keysOk_erase {es : Es} (h : keysOk es) (i : Nat) : keysOk (es.eraseIdx i) := List.Pairwise.sublist (List.eraseIdx_sublist _ _) h

/-- One of a list, ahead of the others. -/
theorem perm_at {α : Type} : ∀ {l : List α} {i : Nat} {x : α}, l[i]? = some x → l.Perm (x :: l.eraseIdx i)
  | [], _, _, h => by simp at h
  | a :: l, 0, x, h => by simp at h; subst h; exact .refl _
  | a :: l, i + 1, x, h => by
    have h : l[i]? = some x := by simpa using h
    exact ((perm_at h).cons a).trans (.swap _ _ _)
theorem perm_set {α : Type} : ∀ {l : List α} {i : Nat} {x y : α}, l[i]? = some x → (l.set i y).Perm (y :: l.eraseIdx i)
  | [], _, _, _, h => by simp at h
  | a :: l, 0, x, y, h => .refl _
  | a :: l, i + 1, x, y, h => by
    have h : l[i]? = some x := by simpa using h
    exact ((perm_set h).cons a).trans (.swap _ _ _)
theorem perm_both {α : Type} {l m : List α} {i j : Nat} {x : α} (h : l.Perm m) (hi : l[i]? = some x) (hj : m[j]? = some x) : (l.eraseIdx i).Perm (m.eraseIdx j) :=
  List.Perm.cons_inv (((perm_at hi).symm.trans h).trans (perm_at hj))
end Go.Ab

/- Each operation, done on named blocks, is what the model does (eleventh part: what is put into maps, lengths, strings gone through, calls). -/
namespace Go.Ab
open Go
variable {C : Cx}

theorem run_keyStays {P : Program} {w : World} {d : TypeDesc} {k : AV} {k' : Value} (h : KV d k k') : (Instr.keyThatStays k' k').run P w = .ok k' w := by
  have : Instr.sameBits 10000 k' k' = true := by
    cases h with
    | bool b => simp [Instr.sameBits]
    | int q j n => simp [Instr.sameBits]
    | str s => simp only [Instr.sameBits]; exact (MapKept.bytes_beq s s).2 rfl
  simp [Instr.keyThatStays, this]

theorem modify_pairs {es : Array MapEntry} {j : Nat} {f : MapEntry → MapEntry} {k v : Value} (hf : ∀ m, (f m).key = k ∧ (f m).val = v) : (es.modify j f).toList.map (fun m => (m.key, m.val)) = (es.toList.map fun m => (m.key, m.val)).set j (k, v) := by
  apply List.ext_getElem?
  intro i
  simp only [List.getElem?_map, Array.getElem?_toList, Array.getElem?_modify, List.getElem?_set, List.length_map, Array.length_toList]
  by_cases hij : j = i
  · subst hij
    by_cases hl : j < es.size
    · simp [hl, hf]
    · simp [hl]
  · simp [hij]

noncomputable def muOf (C : Cx) (t : TypeId) (x y z : Operand) : Option CO := match keyKd C t, sx C x, sx C y, sx C z with
  | some kd, some m, some k, some x => some (.mu kd m k x)
  | _, _, _, _ => none
/-- What puts an entry into a map. -/
theorem put_sim {o : Oper} {t : TypeId} {x y z : Operand} {w0 : String} (hmk : mk C o = orBad w0 (muOf C t x y z))
    (hex : ∀ ρ : Operand → Value, execOp ρ o = (do Instr.mapUpdate t (ρ x) (ρ y) (ρ z); pure .skip)) : Sim C o (xO (mk C o)) := by
  intro c _ f h v h' e a wd hx hg hf hr K Q hk
  rw [hmk] at hx
  have hx := orBad_ok hx
  unfold muOf at hx
  obtain ⟨co, h1, hx⟩ := hx
  cases hkd : keyKd C t with
  | none => rw [hkd] at h1; cases h1
  | some kd => cases hs : sx C x with
    | none => rw [hkd, hs] at h1; cases h1
    | some sm => cases hs2 : sx C y with
      | none => rw [hkd, hs, hs2] at h1; cases h1
      | some sk => cases hs3 : sx C z with
        | none => rw [hkd, hs, hs2, hs3] at h1; cases h1
        | some sv =>
          rw [hkd, hs, hs2, hs3] at h1
          cases h1
          obtain ⟨kt, el, d, u1, u2, kdd⟩ := keyKd_spec hkd
          have vk := sx_VR hg hf hs2
          have vv := sx_VR hg hf hs3
          have hx : (ev f sm).onMap R2.no (.no "mapUpdate: nil") (fun r => h.onMap r (.no "mapUpdate: no map") fun es => muIn kd (ev f sk) (ev f sv) es r h) = .ok v h' := hx
          rcases (sx_VR hg hf hs).mapR hx with ⟨m1, hx⟩ | ⟨r, y0, p1, mb, m1, hx⟩
          · exact (no_ok hx).elim
          · obtain ⟨es, es', clock, l, g1, g2, q1, q2, q3, q4, hx⟩ := hr.mapAt p1 hx
            unfold muIn at hx
            rw [force_eq, force_eq] at hx
            obtain ⟨hk1, hx⟩ := ifbR hx
            obtain ⟨r0, hfk, hx⟩ := optR hx
            obtain ⟨kv, kp⟩ := keyIs_spec vk kdd hk1
            rcases find_sim q1 q2 q3 kv hfk with ⟨rfl, f1, f2, _⟩ | ⟨i, v0, j, m, rfl, f0, f1, f2, f3, f4, _⟩
            · have hx : (appS es [(ev f sk, ev f sv)]).bd (fun es => R2.put h r (.map es) undefA) = .ok v h' := hx
              rw [appS_eq, Bx.bd_mk] at hx
              obtain ⟨rfl, rfl, hok⟩ := R2.put_ok hx
              have hext := hr.setObj (blk' := .map (es ++ [(ev f sk, ev f sv)])) (ob' := .map (es'.push { key := a.eval y, val := a.eval z, born := clock }) (clock + 1)) p1 g1 id id
                (.map _ _ _ (l ++ [(a.eval y, a.eval z)]) rfl rfl (q1.push vk vv kp) (by simpa using q2.append_right _) (keysOk_push q3 f2) (q4.push _ _) mb)
              refine wp_skp ?_ (hk e _ _ (hext hok) (undef_VR e))
              simp only [hex, Instr.mapUpdate, Sem.run_bind, run_und u1, m1, MapKept.run_getObj_map g2, run_checkKeyA u2 kdd, run_findKey u2 f1, Result.andThen_ok, MapKept.run_setObj_map _ g2, Sem.run_pure]
            · have hx : (setVal (ev f sk) (ev f sv) es i).bd (fun es => R2.put h r (.map es) undefA) = .ok v h' := hx
              rw [setVal_eq, Bx.bd_mk] at hx
              obtain ⟨rfl, rfl, hok⟩ := R2.put_ok hx
              have hj : (es'.toList.map fun m => (m.key, m.val))[j]? = some (a.eval y, m.val) := by simp [List.getElem?_map, f2, f3]
              have hperm : (l.set i (a.eval y, a.eval z)).Perm ((es'.modify j fun e => { e with key := a.eval y, val := a.eval z }).toList.map fun m => (m.key, m.val)) := by
                rw [modify_pairs (k := a.eval y) (v := a.eval z) (fun m => ⟨rfl, rfl⟩)]
                exact ((perm_set f4).trans ((perm_both q2 f4 hj).cons _)).trans (perm_set hj).symm
              have hext := hr.setObj (blk' := .map (es.set i (ev f sk, ev f sv))) (ob' := .map (es'.modify j fun e => { e with key := a.eval y, val := a.eval z }) clock) p1 g1 id id
                (.map _ _ _ (l.set i (a.eval y, a.eval z)) rfl rfl (q1.set vk vv kp i) hperm (keysOk_set q3 f0) (q4.modify _ fun _ => rfl) mb)
              refine wp_skp ?_ (hk e _ _ (hext hok) (undef_VR e))
              have hold : ((es'[j]?).map (·.key)).getD (a.eval y) = a.eval y := by
                rw [Array.getElem?_toList] at f2
                simp [f2, f3]
              simp only [hex, Instr.mapUpdate, Sem.run_bind, run_und u1, m1, MapKept.run_getObj_map g2, run_checkKeyA u2 kdd, run_findKey u2 f1, Result.andThen_ok, hold, run_keyStays kv, MapKept.run_setObj_map _ g2, Sem.run_pure]

theorem sim_mapUpdate {o : Oper} {t : TypeId} {x y z : Operand} (ho : o.op = .mapUpdate t x y z) : Sim C o (xO (mk C o)) :=
  put_sim (t := t) (x := x) (y := y) (z := z) (w0 := "mapUpdate") (by simp only [mk, ho]; rfl) (fun ρ => by simp only [execOp, ho])
theorem sim_insert {o : Oper} {t : TypeId} {x y z : Operand} (ho : o.op = .insert t x y z) : Sim C o (xO (mk C o)) :=
  put_sim (t := t) (x := x) (y := y) (z := z) (w0 := "insert") (by simp only [mk, ho]; rfl) (fun ρ => by simp only [execOp, ho])

/-! ### Strings gone through -/
theorem isStrT_spec {t : TypeId} (h : isStrT C t = true) : C.P.underlying t = some .string := by
  unfold isStrT at h
  cases hu : C.P.underlying t with
  | none => rw [hu] at h; cases h
  | some d => rw [hu] at h; cases d <;> first | rfl | cases h

theorem sim_range {o : Oper} {t : TypeId} {x : Operand} (ho : o.op = .range t x) : Sim C o (xO (mk C o)) := by
  intro c _ f h v h' e a wd hx hg hf hr K Q hk
  simp only [mk, ho] at hx
  obtain ⟨co, h1, hx⟩ := orBad_ok hx
  cases ht : isStrT C t with
  | false => rw [ht] at h1; cases h1
  | true => cases hs : sx C x with
    | none => rw [ht, hs] at h1; cases h1
    | some s =>
      rw [ht, hs] at h1
      cases h1
      have hu := isStrT_spec ht
      have hx : (ev f s).onStr R2.no (fun n a => R2.new h (.sit n a 0) fun m => .ptr m 0 0) = .ok v h' := hx
      obtain ⟨s0, s1, hx⟩ := (sx_VR hg hf hs).strR hx
      obtain ⟨rfl, rfl⟩ := R2.new_ok hx
      obtain ⟨e', n1, n2⟩ := hr.alloc (.sit s0.size (packB s0.data.toList) 0) (.stringIter s0 0) ⟨wd.heap.size, 0, 0, 0⟩ rfl (fun e' _ _ => .sit s0 0 rfl rfl (Nat.le_refl _))
      refine wp_val (v := .pointer (some ⟨wd.heap.size, 0, none⟩)) (w' := wd.alloc (.stringIter s0 0)) ?_ (hk e' _ _ n2 (.ptr h.n 0 0 _ n1 (Nat.le_refl _) (Nat.le_refl _)))
      simp [execOp, ho, Instr.range, run_und hu, s1]

theorem get!_list (s : ByteArray) (i : Nat) : (s.get! i).toNat = if i < s.size then byteAt (packB s.data.toList) i else 0 := by
  by_cases h : i < s.size
  · rw [if_pos h]
    have h2 : i < s.data.toList.length := by rw [← size_list]; exact h
    rw [byteAt_eq _ _ _ (List.getElem?_eq_getElem h2)]
    have : s.get! i = s.data[i]! := rfl
    have h3 : i < s.data.size := h
    rw [this, getElem!_pos s.data i h3]
    simp
  · rw [if_neg h]
    have : s.get! i = s.data[i]! := rfl
    have h3 : ¬ i < s.data.size := h
    rw [this, getElem!_neg s.data i h3]
    rfl

theorem decodeA_eq (s : ByteArray) (i : Nat) : decodeA s.size (packB s.data.toList) i = Utf8.decode s i := by
  unfold decodeA Utf8.decode
  simp only [get!_list]

theorem sim_next {o : Oper} {x : Operand} (ho : o.op = .next x true) : Sim C o (xO (mk C o)) := by
  intro c _ f h v h' e a wd hx hg hf hr K Q hk
  simp only [mk, ho] at hx
  obtain ⟨co, h1, hx⟩ := orBad_ok hx
  obtain ⟨s, hs, rfl⟩ := map_ok h1
  have hx : (ev f s).onPtr R2.no (fun r _ o => ifb (Nat.beq o 0) (Option.rec (motive := fun _ => R2) (.no "next") (fun b => b.onSit (.no "next") fun n a p => nxtAt n a p r h) (h.get r)) (.no "next")) = .ok v h' := hx
  obtain ⟨r, g, o', y, p1, p2, p3, p4, hx⟩ := (sx_VR hg hf hs).ptrR hx
  obtain ⟨h0, hx⟩ := ifbR hx
  have h0 := beq_iff.1 h0
  subst h0
  obtain ⟨blk, hget, hx⟩ := optR hx
  obtain ⟨blk2, hget2, hbr⟩ := hr.at' r g y p1
  rw [hget] at hget2; cases hget2
  cases blk with
  | flat l fz => exact (no_ok (w := "next") hx).elim
  | grown t n g fz => exact (no_ok (w := "next") hx).elim
  | map es => exact (no_ok (w := "next") hx).elim
  | lp q => exact (no_ok (w := "next") hx).elim
  | sit n bits p =>
    have hx : nxtAt n bits p r h = .ok v h' := hx
    generalize hwr : wd.heap[y.r]? = ob at hbr
    cases hbr with
    | cells c t fr q => exact q.cells.elim
    | map es es' clock l a _ _ _ _ _ => cases a
    | iter m0 since0 seen0 step0 heq _ =>
      cases heq
      exact (no_ok (w := "next: over a map") hx).elim
    | lp q0 fn0 tm0 df0 heq => cases heq
    | busy o0 heq =>
      cases heq
      exact (no_ok (w := "next: over a map") hx).elim
    | dfr heq =>
      cases heq
      exact (no_ok (w := "next: over a map") hx).elim
    | sit s0 pos heq hg0 =>
      cases heq
      subst hg0
      have hb : 0 - y.base = 0 := Nat.zero_sub _
      unfold nxtAt at hx
      obtain ⟨_, hx⟩ := ifbR hx
      unfold nxtAt1 at hx
      cases hlt : Nat.ble (Nat.succ p) s0.size with
      | false =>
        rw [hlt] at hx
        have hx : R2.ok (.tup [.bool false]) h = .ok v h' := hx
        cases hx
        refine wp_val (v := .tuple #[.bool false]) (w' := wd) ?_ (hk e _ wd (.refl hr) (.tup [.bool false] [.bool false] (.cons _ _ _ _ (.bool false) .nil)))
        have : ¬ p < s0.size := fun hh => by rw [ble_iff.2 (show Nat.succ p ≤ s0.size from hh)] at hlt; cases hlt
        simp [execOp, ho, Instr.next, p4, hb, getObj, Sem.run, hwr, this]
      | true =>
        have hpos : p < s0.size := ble_iff.1 hlt
        rw [hlt] at hx
        simp only [ifb_true, natF_eq] at hx
        have fin : ∀ (cc q : Nat), (Utf8.decode s0 p) = (cc, q) → R2.put h r (.sit s0.size (packB s0.data.toList) (p + q)) (.tup [.bool true, .int .i64 (.ofNat p), .int .i32 (.ofNat cc)]) = .ok v h' → o.ow C.P a wd K Q := by
          intro cc q hd hx
          obtain ⟨rfl, rfl, hok⟩ := R2.put_ok hx
          have hext := hr.setObj (blk' := .sit s0.size (packB s0.data.toList) (p + q)) (ob' := .stringIter s0 (p + q)) p1 hget id (fun hh => by have : s0.size = 0 ∧ _ ∧ (p = 8 ∨ p = 9) := hh; omega) (.sit s0 (p + q) rfl rfl p2)
          refine wp_val (v := .tuple #[.bool true, .int .i64 (.ofNat p), .int .i32 (.ofNat cc)]) ?_ (hk e _ _ (hext hok) (.tup _ [.bool true, .int .i64 (.ofNat p), .int .i32 (.ofNat cc)] (.cons _ _ _ _ (.bool true) (.cons _ _ _ _ (.int _ _) (.cons _ _ _ _ (.int _ _) .nil)))))
          simp [execOp, ho, Instr.next, p4, hb, getObj, setObj, Sem.run, hwr, hpos, hd, goInt]
        cases hasc : Nat.ble (byteAt (packB s0.data.toList) p) 127 with
        | true =>
          rw [hasc, ifb_true] at hx
          refine fin (byteAt (packB s0.data.toList) p) 1 ?_ hx
          rw [← decodeA_eq]
          have hb := ble_iff.1 hasc
          unfold decodeA
          simp only [Nat.add_zero, hpos, if_true]
          rw [if_pos (by omega)]
        | false =>
          rw [hasc, ifb_false, decodeA_eq] at hx
          exact fin _ _ rfl hx
end Go.Ab

/- Each operation, done on named blocks, is what the model does (twelfth part: builtins). -/
namespace Go.Ab
open Go
variable {C : Cx}

/-- What a builtin comes to. -/
def BOK (C : Cx) (s : Sem Value) (e : Emb) (h : Hp) (w : World) (v : AV) (h' : Hp) : Prop := ∃ v' e' w', s.run C.P w = .ok v' w' ∧ Ext e h w e' h' w' ∧ VR e' v v'

theorem BOK.here {s : Sem Value} {e : Emb} {h : Hp} {w : World} {v : AV} {v' : Value} (hr : HR e h w) (hs : s.run C.P w = .ok v' w) (hv : VR e v v') : BOK C s e h w v h := ⟨v', e, w, hs, .refl hr, hv⟩

section
variable {c : CallT} {f : Fr} {h h' : Hp} {v : AV} {e : Emb} {a : Act} {w : World} {ts : List TypeId} {l : List Operand} {s : List Sx} {co : CO} {ty : TypeId}

theorem b_len (hg : GR C e) (hf : FR e f a) (hr : HR e h w) (hs : sxL C l = some s) (h1 : mkBuiltin C .len ts s = some co) (hx : xO co c f h = .ok v h') : BOK C (Builtin.len_ ts.toArray ty (l.map a.eval).toArray) e h w v h' := by
  cases ts with
  | nil => cases h1
  | cons t ts => cases s with
    | nil => cases h1
    | cons sa s =>
      obtain ⟨x, l, rfl, sa1, _⟩ := sxL_one hs
      have hv := sx_VR hg hf sa1
      have lens : ∀ (b : Nat), C.P.underlying t = some (.array b 0) → True := fun _ _ => trivial
      simp only [mkBuiltin] at h1
      cases hu : C.P.underlying t with
      | none => rw [hu] at h1; cases h1
      | some d =>
        rw [hu] at h1
        cases d <;> try (cases h1; done)
        case string =>
          cases h1
          have hx : (ev f sa).onStr R2.no (fun n _ => .ok (.int .i64 (.ofNat n)) h) = .ok v h' := hx
          obtain ⟨s0, s1, hx⟩ := hv.strR hx
          cases hx
          exact .here hr (v' := .int .i64 (.ofNat s0.size)) (by simp [Builtin.len_, run_und hu, s1, goInt]) (.int _ _)
        case slice el =>
          cases h1
          have hx : (ev f sa).onSl R2.no (.ok (.int .i64 0) h) (fun _ _ _ n _ => .ok (.int .i64 (.ofNat n)) h) = .ok v h' := hx
          rcases hv.slR hx with ⟨s1, hx⟩ | ⟨b, g, o, n, cc, cap, y, ad, _, _, _, _, _, _, s1, _, hx⟩
          · cases hx
            exact .here hr (v' := .int .i64 0) (by simp [Builtin.len_, run_und hu, s1, goInt]) (.int _ _)
          · cases hx
            exact .here hr (v' := .int .i64 (.ofNat n)) (by simp [Builtin.len_, run_und hu, s1, goInt]) (.int _ _)
        case map kt el =>
          cases h1
          have hx : (ev f sa).onMap R2.no (.ok (.int .i64 0) h) (fun r => h.onMap r (.no "len: no map") fun es => .ok (.int .i64 (.ofNat (lenA es))) h) = .ok v h' := hx
          rcases hv.mapR hx with ⟨s1, hx⟩ | ⟨r, y, p1, mb, s1, hx⟩
          · cases hx
            exact .here hr (v' := .int .i64 0) (by simp [Builtin.len_, run_und hu, s1, goInt]) (.int _ _)
          · obtain ⟨es, es', clock, l, _, g2, q1, q2, _, _, hx⟩ := hr.mapAt p1 hx
            cases hx
            have hlen : es'.size = lenA es := by
              have h1 := q2.length_eq
              have h2 := q1.length
              simp at h1 ⊢
              omega
            exact .here hr (v' := .int .i64 (.ofNat (lenA es))) (by simp [Builtin.len_, run_und hu, s1, MapKept.run_getObj_map g2, goInt, hlen]) (.int _ _)
        case array n el =>
          cases h1
          have hx : R2.ok (.int .i64 (.ofNat n)) h = .ok v h' := hx
          cases hx
          exact .here hr (v' := .int .i64 (.ofNat n)) (by simp [Builtin.len_, run_und hu, goInt]) (.int _ _)
        case pointer p =>
          simp only at h1
          cases hu2 : C.P.underlying p with
          | none => rw [hu2] at h1; cases h1
          | some d2 =>
            rw [hu2] at h1
            cases d2 <;> try (cases h1; done)
            case array n el =>
              cases h1
              have hx : R2.ok (.int .i64 (.ofNat n)) h = .ok v h' := hx
              cases hx
              exact .here hr (v' := .int .i64 (.ofNat n)) (by simp [Builtin.len_, run_und hu, run_und hu2, goInt]) (.int _ _)

theorem b_cap (hg : GR C e) (hf : FR e f a) (hr : HR e h w) (hs : sxL C l = some s) (h1 : mkBuiltin C .cap ts s = some co) (hx : xO co c f h = .ok v h') : BOK C (Builtin.cap_ ts.toArray ty (l.map a.eval).toArray) e h w v h' := by
  cases ts with
  | nil => cases h1
  | cons t ts => cases s with
    | nil => cases h1
    | cons sa s =>
      obtain ⟨x, l, rfl, sa1, _⟩ := sxL_one hs
      have hv := sx_VR hg hf sa1
      simp only [mkBuiltin] at h1
      cases hu : C.P.underlying t with
      | none => rw [hu] at h1; cases h1
      | some d =>
        rw [hu] at h1
        cases d <;> try (cases h1; done)
        case slice el =>
          cases h1
          have hx : (ev f sa).onSl R2.no (.ok (.int .i64 0) h) (fun _ _ _ _ c => ifb (Nat.beq (Nat.mod c 2) 1) (.ok (.int .i64 (.ofNat (Nat.div c 2))) h) (.no "cap: not known")) = .ok v h' := hx
          rcases hv.slR hx with ⟨s1, hx⟩ | ⟨b, g, o, n, cc, cap, y, ad, _, _, _, _, hodd, _, s1, _, hx⟩
          · cases hx
            exact .here hr (v' := .int .i64 0) (by simp [Builtin.cap_, run_und hu, s1, goInt]) (.int _ _)
          · obtain ⟨hb, hx⟩ := ifbR hx
            cases hx
            have := hodd (beq_iff.1 hb)
            subst this
            exact .here hr (v' := .int .i64 (.ofNat (cc / 2))) (by simp [Builtin.cap_, run_und hu, s1, goInt]) (.int _ _)

theorem b_min (hg : GR C e) (hf : FR e f a) (hr : HR e h w) (hs : sxL C l = some s) (h1 : mkBuiltin C .min ts s = some co) (hx : xO co c f h = .ok v h') : BOK C (Builtin.min_ ts.toArray ty (l.map a.eval).toArray) e h w v h' := by
  cases s with
  | nil => cases h1
  | cons sa s =>
    obtain ⟨x, l, rfl, sa1, hs⟩ := sxL_one hs
    simp only [mkBuiltin] at h1
    cases h1
    have hx : (mmL f false s (ev f sa)).val h = .ok v h' := hx
    obtain ⟨hx2, rfl⟩ := Res.val_eq_ok hx
    obtain ⟨u', k1, k2⟩ := mm_sim (P := C.P) (w := w) hg hf false l s _ _ v hs (sx_VR hg hf sa1) hx2
    exact .here hr (by simpa [Builtin.min_] using k1) k2
theorem b_max (hg : GR C e) (hf : FR e f a) (hr : HR e h w) (hs : sxL C l = some s) (h1 : mkBuiltin C .max ts s = some co) (hx : xO co c f h = .ok v h') : BOK C (Builtin.max_ ts.toArray ty (l.map a.eval).toArray) e h w v h' := by
  cases s with
  | nil => cases h1
  | cons sa s =>
    obtain ⟨x, l, rfl, sa1, hs⟩ := sxL_one hs
    simp only [mkBuiltin] at h1
    cases h1
    have hx : (mmL f true s (ev f sa)).val h = .ok v h' := hx
    obtain ⟨hx2, rfl⟩ := Res.val_eq_ok hx
    obtain ⟨u', k1, k2⟩ := mm_sim (P := C.P) (w := w) hg hf true l s _ _ v hs (sx_VR hg hf sa1) hx2
    exact .here hr (by simpa [Builtin.max_] using k1) k2

theorem map_erase {α β : Type} (k : α → β) : ∀ (l : List α) (j : Nat), (l.eraseIdx j).map k = (l.map k).eraseIdx j
  | [], _ => rfl
  | _ :: _, 0 => rfl
  | a :: l, j + 1 => by simp [map_erase k l j]
theorem erase_pairs {es : Array MapEntry} {j : Nat} : (es.eraseIdxIfInBounds j).toList.map (fun m => (m.key, m.val)) = (es.toList.map fun m => (m.key, m.val)).eraseIdx j := by
  unfold Array.eraseIdxIfInBounds
  split
  · rw [Array.toList_eraseIdx, map_erase]
  · rename_i hh
    rw [List.eraseIdx_of_length_le]
    simpa using hh

theorem b_delete (hg : GR C e) (hf : FR e f a) (hr : HR e h w) (hs : sxL C l = some s) (h1 : mkBuiltin C .delete ts s = some co) (hx : xO co c f h = .ok v h') : BOK C (Builtin.delete_ ts.toArray ty (l.map a.eval).toArray) e h w v h' := by
  cases ts with
  | nil => cases h1
  | cons t ts => cases s with
    | nil => cases h1
    | cons sm s => cases s with
      | nil => cases h1
      | cons sk s =>
        obtain ⟨x, l, rfl, sa1, hs⟩ := sxL_one hs
        obtain ⟨y, l, rfl, sa2, hs⟩ := sxL_one hs
        simp only [mkBuiltin] at h1
        obtain ⟨kd, hkd, rfl⟩ := map_ok h1
        obtain ⟨kt, el, d, u1, u2, kdd⟩ := keyKd_spec hkd
        have vk := sx_VR hg hf sa2
        have hx : ifb (keyIs kd (ev f sk)) ((ev f sm).onMap R2.no (.ok undefA h) fun r => h.onMap r (.no "delete: no map") fun es => Option.rec (motive := fun _ => R2) (.no "delete: keys") (fun o => Option.rec (motive := fun _ => R2) (.ok undefA h) (fun x => (eraseA es x.1).bd fun es => R2.put h r (.map es) undefA) o) (findK (ev f sk) es 0)) (.no "delete: key") = .ok v h' := hx
        obtain ⟨hk1, hx⟩ := ifbR hx
        obtain ⟨kv, kp⟩ := keyIs_spec vk kdd hk1
        rcases (sx_VR hg hf sa1).mapR hx with ⟨m1, hx⟩ | ⟨r, y0, p1, mb, m1, hx⟩
        · cases hx
          exact .here hr (v' := .tuple #[]) (by simp [Builtin.delete_, run_und u1, m1, run_checkKeyA u2 kdd]) (undef_VR e)
        · obtain ⟨es, es', clock, l, g1, g2, q1, q2, q3, q4, hx⟩ := hr.mapAt p1 hx
          obtain ⟨r0, hfk, hx⟩ := optR hx
          rcases find_sim q1 q2 q3 kv hfk with ⟨rfl, f1, f2, _⟩ | ⟨i, v0, j, m, rfl, f0, f1, f2, f3, f4, _⟩
          · have hx : R2.ok undefA h = .ok v h' := hx
            cases hx
            have hsame : ({ w with heap := w.heap.setIfInBounds y0.r (.map es' clock) } : World) = w := by
              have : w.heap.setIfInBounds y0.r (.map es' clock) = w.heap := by
                apply Array.ext_getElem?
                intro i
                by_cases hi : y0.r = i
                · subst hi
                  obtain ⟨h1, h2⟩ := Array.getElem?_eq_some_iff.1 g2
                  simp [h1, h2]
                · rw [Array.getElem?_setIfInBounds_ne hi]
              rw [this]
            exact .here hr (v' := .tuple #[]) (by simp [Builtin.delete_, run_und u1, m1, MapKept.run_getObj_map g2, run_checkKeyA u2 kdd, run_findKey u2 f1, MapKept.run_setObj_map _ g2, hsame]) (undef_VR e)
          · have hx : (eraseA es i).bd (fun es => R2.put h r (.map es) undefA) = .ok v h' := hx
            rw [eraseA_eq, Bx.bd_mk] at hx
            obtain ⟨rfl, rfl, hok⟩ := R2.put_ok hx
            have hj : (es'.toList.map fun m => (m.key, m.val))[j]? = some (a.eval y, m.val) := by simp [List.getElem?_map, f2, f3]
            have hext := hr.setObj (blk' := .map (es.eraseIdx i)) (ob' := .map (es'.eraseIdxIfInBounds j) clock) p1 g1 id id
              (.map _ _ _ (l.eraseIdx i) rfl rfl (q1.erase i) (by rw [erase_pairs]; exact perm_both q2 f4 hj) (keysOk_erase q3 i) (q4.erase j) mb)
            exact ⟨.tuple #[], e, _, by simp only [Builtin.delete_, List.map_cons, List.getElem?_toArray, List.getElem?_cons_zero, List.getElem?_cons_succ, Sem.run_bind, run_und u1, m1, MapKept.run_getObj_map g2, run_checkKeyA u2 kdd, run_findKey u2 f1, Result.andThen_ok, MapKept.run_setObj_map _ g2, Sem.run_pure], hext hok, undef_VR e⟩
end
end Go.Ab

/- Each operation, done on named blocks, is what the model does (thirteenth part: append and copy). -/
namespace Go.Ab
open Go
variable {C : Cx}

/-- Cells that are read. -/
theorem HR.readC {e : Emb} {h : Hp} {w : World} (hr : HR e h w) {b g o m : Nat} {x : Loc} {l : List AV} (hx : e b g = some x) (hlo : x.lo ≤ o) (hv : h.readN b g o m = .ok l) :
    ∃ l' : List Value, (∀ j v, l'[j]? = some v → w.cell? ((⟨x.r, o - x.base, none⟩ : Addr).add j) = some v) ∧ VRL e l l' ∧ (∀ v ∈ l, v.isCell = true) ∧ l.length = m ∧
      ∀ i u, l[i]? = some u → ∃ blk, h.get b = some blk ∧ blk.read1 g (o + i) = some u := by
  obtain ⟨blk, hget, hbr⟩ := hr.at' b g x hx
  unfold Hp.readN at hv
  rw [hget] at hv
  have hv := Res.of_ok hv
  obtain ⟨hlen, hat⟩ := readN_get hv
  cases hb : w.heap[x.r]? with
  | none => rw [hb] at hbr; cases hbr
  | some ob =>
  rw [hb] at hbr
  cases hbr with
  | map es es' clock l a _ _ _ _ _ => subst a; cases hv
  | sit s pos a _ => subst a; cases hv
  | iter m0 since0 seen0 step0 a _ => subst a; cases hv
  | lp q0 fn0 tm0 df0 a => subst a; cases hv
  | busy o0 a => subst a; cases hv
  | dfr a => subst a; cases hv
  | cells c t fr q =>
    have key : ∀ i v, l[i]? = some v → v.isCell = true ∧ ∃ v', c[o - x.base + i]? = some v' ∧ VR e v v' := by
      intro i v hi
      obtain ⟨h1, v', h2, h3⟩ := q.at' (o + i) v (by omega) (hat i v hi)
      refine ⟨h1, v', ?_, h3⟩
      have := q.lo
      rw [← h2]; congr 1; omega
    let l' : List Value := (List.range m).map fun i => (c[o - x.base + i]?).getD undef
    have hl' : ∀ (i : Nat) (v : AV), l[i]? = some v → ∃ v', l'[i]? = some v' ∧ VR e v v' := by
      intro i v hi
      obtain ⟨_, v', h2, h3⟩ := key i v hi
      have him : i < m := by rw [← hlen]; exact (List.getElem?_eq_some_iff.1 hi).1
      exact ⟨v', by simp [l', him, h2], h3⟩
    refine ⟨l', fun j v hj => ?_, VRL.of_get (by simp [l', hlen]) hl', ?_, hlen, fun i u hi => ⟨blk, hget, hat i u hi⟩⟩
    · have hjm : j < m := by
        have := (List.getElem?_eq_some_iff.1 hj).1; simpa [l'] using this
      rw [Addr.add_mk]
      have hjl : j < l.length := by omega
      obtain ⟨_, v', h2, _⟩ := key j l[j] (List.getElem?_eq_getElem hjl)
      have : l'[j]? = some v' := by simp [l', hjm, h2]
      rw [this] at hj; cases hj
      simp [World.cell?, hb, h2]
    · intro v hvm
      obtain ⟨i, hi⟩ := List.mem_iff_getElem?.1 hvm
      exact (key i v hi).1

theorem cell_heap {w w' : World} (h : w'.heap = w.heap) (a : Addr) : w'.cell? a = w.cell? a := by unfold World.cell?; rw [h]

/-- What is appended, or copied. -/
def SrcKind (C : Cx) (str : Bool) (size : Nat) (u : TypeId) : Prop := (str = true ∧ C.P.underlying u = some .string ∧ size = 1) ∨ (str = false ∧ ∃ el, C.P.underlying u = some (.slice el))

theorem src_sim {str : Bool} {size : Nat} {u : TypeId} (hkind : SrcKind C str size u) {e : Emb} {xv : AV} {x' : Value} (hv : VR e xv x') {h h' : Hp} {w : World} (hr : HR e h w) {k : Nat → (Nat → Res (List AV)) → R2} {v : AV} (hx : srcOf str size xv h k = .ok v h') :
    ∃ m cells, k m cells = .ok v h' ∧ (∀ w', (Builtin.lenOf x').run C.P w' = .ok m w') ∧ (∀ w', (Builtin.firstCells size 0 x').run C.P w' = .ok #[] w') ∧ ∀ q vs, q ≤ m → cells q = .ok vs →
      ∃ vs' : List Value, VRL e vs vs' ∧ (∀ u ∈ vs, u.isCell = true) ∧ vs.length = q * size ∧ ∀ w', w'.heap = w.heap → (Builtin.firstCells size q x').run C.P w' = .ok vs'.toArray w' := by
  rcases hkind with ⟨rfl, _, rfl⟩ | ⟨rfl, _⟩
  · have hx : xv.onStr R2.no (fun n a => k n fun m => (bytesA m a).bd Res.ok) = .ok v h' := hx
    obtain ⟨s0, rfl, hx⟩ := hv.strR hx
    refine ⟨_, _, hx, fun w' => rfl, fun w' => ?_, fun q vs hq hvs => ?_⟩
    · simp only [Builtin.firstCells, Sem.run_pure]
      congr 1
      apply Array.toList_inj.1
      rw [Array.toList_map, Lib.extract_data]
      simp
    rw [size_list] at hq
    rw [bytesA_eq _ _ hq, Bx.bd_mk] at hvs
    cases hvs
    refine ⟨_, u8_VRL e (s0.data.toList.take q), ?_, by rw [List.length_map, List.length_take]; omega, fun w' _ => ?_⟩
    · intro u hu
      obtain ⟨b, _, rfl⟩ := List.mem_map.1 hu
      rfl
    · simp only [Builtin.firstCells, Sem.run_pure]
      congr 1
      apply Array.toList_inj.1
      rw [Array.toList_map, Lib.extract_data]
      simp
  · have hx : xv.onSl R2.no (k 0 fun _ => .ok []) (fun b g o n _ => k n fun m => h.readN b g o (Nat.mul m size)) = .ok v h' := hx
    rcases hv.slR hx with ⟨rfl, hx⟩ | ⟨b, g, o, n, cc, cap, y, ad, p1, p2, p3, p4, _, _, rfl, had, hx⟩
    · refine ⟨_, _, hx, fun w' => rfl, fun w' => by simp [Builtin.firstCells], fun q vs hq hvs => ?_⟩
      cases hvs
      have : q = 0 := by omega
      subst this
      exact ⟨[], .nil, (fun u hu => by cases hu), by simp, fun w' _ => by simp [Builtin.firstCells]⟩
    · refine ⟨_, _, hx, fun w' => rfl, fun w' => by simp [Builtin.firstCells, loadCells, loadCellsFrom], fun q vs hq hvs => ?_⟩
      obtain ⟨l', h1, h2, h3, h4, _⟩ := hr.readC p1 p3 hvs
      refine ⟨l', h2, h3, h4, fun w' hw => ?_⟩
      rcases had with rfl | ⟨rfl, _⟩
      · exact run_firstCells_some w' size q _ _ _ l' (by rw [h2.length]; exact h4) (fun j u hj => by rw [cell_heap hw]; exact h1 j u hj)
      · have hq0 : q = 0 := by omega
        subst hq0
        have : l' = [] := List.eq_nil_of_length_eq_zero (by have := h2.length; have h4' : vs.length = 0 * size := h4; omega)
        subst this
        simp [Builtin.firstCells, loadCells, loadCellsFrom]

theorem cells_one {e : Emb} {vs : List AV} {vs' : List Value} (h : VRL e vs vs') (hc : ∀ u ∈ vs, u.isCell = true) : ∀ u ∈ vs', u.oneCell' = true := by
  intro v' hv'
  obtain ⟨i, hi⟩ := List.mem_iff_getElem?.1 hv'
  have hlen := h.length
  have hi2 : i < vs.length := by
    rcases List.getElem?_eq_some_iff.1 hi with ⟨h1, _⟩; omega
  obtain ⟨u, hu, hvr⟩ := h.get (List.getElem?_eq_getElem hi2)
  rw [hi] at hu; cases hu
  exact hvr.oneCell (hc _ (List.getElem_mem hi2))

section
variable {c : CallT} {f : Fr} {h h' : Hp} {v : AV} {e : Emb} {a : Act} {w : World} {ts : List TypeId} {l : List Operand} {s : List Sx} {co : CO} {ty : TypeId}

theorem copy_sim {str : Bool} {size : Nat} {sd sx : Sx} {d x : Value} {t u el : TypeId} {i : TypeInfo} {ts : List TypeId} {rest : List Value} (hr : HR e h w) (hu : C.P.underlying t = some (.slice el)) (hi : C.P.info? el = some i) (his : i.size = size) (hk : SrcKind C str size u)
    (hvd : VR e (ev f sd) d) (hvx : VR e (ev f sx) x) (hx : xO (.cpy str size sd sx) c f h = .ok v h') : BOK C (Builtin.copy_ (t :: u :: ts).toArray ty (d :: x :: rest).toArray) e h w v h' := by
  have hx : srcOf str size (ev f sx) h (fun m cells => (ev f sd).onSl R2.no (.ok (.int .i64 0) h) fun b g o n _ =>
    ifb (Nat.beq (Nat.min m n) 0) (.ok (.int .i64 0) h) ((cells (Nat.min m n)).bd2 fun vs => (h.write b g o vs).bd2 fun h => .ok (.int .i64 (.ofNat (Nat.min m n))) h)) = .ok v h' := hx
  obtain ⟨m, cells, hx, hlen, h0, hcells⟩ := src_sim hk hvx hr hx
  rcases hvd.slR hx with ⟨rfl, hx⟩ | ⟨b, g, o, n, cc, cap, y, ad, p1, p2, p3, p4, _, _, rfl, had, hx⟩
  · cases hx
    exact .here hr (v' := .int .i64 0) (by simp [Builtin.copy_, run_und hu, run_siz hi, his, hlen, h0, goInt]) (.int _ _)
  · cases hz : Nat.beq (Nat.min m n) 0 with
    | true =>
      rw [hz] at hx
      cases hx
      have hz := beq_iff.1 hz
      exact .here hr (v' := .int .i64 0) (by simp [Builtin.copy_, run_und hu, run_siz hi, his, hlen, hz, h0, goInt, storeCells]) (.int _ _)
    | false =>
      rw [hz] at hx
      have hx : (cells (Nat.min m n)).bd2 (fun vs => (h.write b g o vs).bd2 fun h => .ok (.int .i64 (.ofNat (Nat.min m n))) h) = .ok v h' := hx
      obtain ⟨vs, hvs, hx⟩ := Res.bd2_eq_ok hx
      obtain ⟨h2, hw, hx⟩ := Res.bd2_eq_ok hx
      cases hx
      obtain ⟨vs', k1, k2, k3, k4⟩ := hcells _ vs (Nat.min_le_left m n) hvs
      have had : ad = ⟨y.r, o - y.base, none⟩ := had.resolve_right (fun hh => by
        have h0 : Nat.min m n = 0 := by rw [hh.1]; exact Nat.min_zero m
        rw [beq_iff.2 h0] at hz; cases hz)
      subst had
      obtain ⟨w', w1, w2⟩ := hr.write C.P p1 p3 hw k1 k2
      refine ⟨.int .i64 (.ofNat (Nat.min m n)), e, w', ?_, w2, .int _ _⟩
      simp [Builtin.copy_, run_und hu, run_siz hi, his, hlen, k4 w rfl, w1, goInt]

theorem zeroCells_copies (z : Array Value) (n : Nat) : (Builtin.zeroCells z n).toList = copies n z.toList := by
  have h : Builtin.zeroCells z n = (Array.range (n * z.size)).map fun i => z[i % z.size]! := rfl
  rw [h, zeros_array z n (n * z.size) rfl]
theorem b_clear (hg : GR C e) (hf : FR e f a) (hr : HR e h w) (hs : sxL C l = some s) (h1 : mkBuiltin C .clear ts s = some co) (hx : xO co c f h = .ok v h') : BOK C (Builtin.clear_ ts.toArray ty (l.map a.eval).toArray) e h w v h' := by
  cases ts with
  | nil => cases h1
  | cons t ts => cases s with
    | nil => cases h1
    | cons sa s =>
      obtain ⟨x, l, rfl, sa1, hs⟩ := sxL_one hs
      have hv := sx_VR hg hf sa1
      simp only [mkBuiltin] at h1
      cases hu : C.P.underlying t with
      | none => rw [hu] at h1; cases h1
      | some d =>
        rw [hu] at h1
        cases d <;> try (cases h1; done)
        case slice el =>
          simp only at h1
          cases hsz : szOf C el with
          | none => rw [hsz] at h1; cases h1
          | some k0 => cases hz : zeroOf C el with
            | none => rw [hsz, hz] at h1; cases h1
            | some z =>
              rw [hsz, hz] at h1
              simp only at h1
              by_cases hc : z.cells.length = k0
              · rw [if_pos hc] at h1
                cases h1
                obtain ⟨zi, zv, i1, i2, i3, i4⟩ := zeroOf_spec hz
                obtain ⟨j2, j3⟩ := zero_cells (conv_VR e zv z i3) i4
                have hx : (ev f sa).onSl R2.no (.ok undefA h) (fun b g o n _ => ifb (Nat.beq n 0) (.ok undefA h) ((forceL z.cells).bd fun z => (zerosR n z).bd fun vs => (h.write b g o vs).hp)) = .ok v h' := hx
                rcases hv.slR hx with ⟨s1, hx⟩ | ⟨b, g, o, n, cc, cap, y, ad, p1, p2, p3, p4, _, _, s1, had, hx⟩
                · cases hx
                  exact .here hr (v' := .tuple #[]) (by simp [Builtin.clear_, run_und hu, s1]) (undef_VR e)
                · cases hn : Nat.beq n 0 with
                  | true =>
                    rw [hn] at hx
                    cases hx
                    have hn := beq_iff.1 hn
                    subst hn
                    exact .here hr (v' := .tuple #[]) (by simp [Builtin.clear_, run_und hu, s1]) (undef_VR e)
                  | false =>
                    rw [hn, ifb_false, forceL_eq, Bx.bd_mk, zerosR_eq, Bx.bd_mk] at hx
                    have hn0 : n ≠ 0 := fun hh => by rw [beq_iff.2 hh] at hn; cases hn
                    have had : ad = ⟨y.r, o - y.base, none⟩ := had.resolve_right (fun hh => hn0 hh.1)
                    subst had
                    obtain ⟨hw, rfl⟩ := Res.hp_eq_ok hx
                    obtain ⟨w', w1, w2⟩ := hr.write C.P p1 p3 hw (copies_VRL j2 n) (zerosA_cell j3 n)
                    refine ⟨.tuple #[], e, w', ?_, w2, undef_VR e⟩
                    obtain ⟨n, rfl⟩ : ∃ m, n = m + 1 := ⟨n - 1, by omega⟩
                    simp only [Builtin.clear_, List.map_cons, List.getElem?_toArray, List.getElem?_cons_zero, Sem.run_bind, run_und hu, s1, Result.andThen_ok, run_zero i1 i2, zeroCells_copies, w1, Sem.run_pure]
              · rw [if_neg hc] at h1; cases h1

theorem b_copy (hg : GR C e) (hf : FR e f a) (hr : HR e h w) (hs : sxL C l = some s) (h1 : mkBuiltin C .copy ts s = some co) (hx : xO co c f h = .ok v h') : BOK C (Builtin.copy_ ts.toArray ty (l.map a.eval).toArray) e h w v h' := by
  cases ts with
  | nil => cases h1
  | cons t ts => cases ts with
    | nil => cases h1
    | cons u ts => cases s with
      | nil => cases h1
      | cons sd s => cases s with
        | nil => cases h1
        | cons sx s =>
          obtain ⟨x, l, rfl, sa1, hs⟩ := sxL_one hs
          obtain ⟨y, l, rfl, sa2, hs⟩ := sxL_one hs
          simp only [mkBuiltin] at h1
          cases hu : C.P.underlying t with
          | none => rw [hu] at h1; cases h1
          | some d => cases hu2 : C.P.underlying u with
            | none => rw [hu, hu2] at h1; cases d <;> cases h1
            | some d2 =>
              rw [hu, hu2] at h1
              cases d <;> try (cases h1; done)
              case slice el =>
                cases d2 <;> try (cases h1; done)
                case slice el2 =>
                  simp only at h1
                  cases hsz : szOf C el with
                  | none => rw [hsz] at h1; cases h1
                  | some n => cases n with
                    | zero => rw [hsz] at h1; cases h1
                    | succ n =>
                      rw [hsz] at h1
                      cases h1
                      obtain ⟨i, i1, i2⟩ := szOf_spec hsz
                      exact copy_sim hr hu i1 i2 (.inr ⟨rfl, el2, hu2⟩) (sx_VR hg hf sa1) (sx_VR hg hf sa2) hx
                case string =>
                  simp only at h1
                  cases hsz : szOf C el with
                  | none => rw [hsz] at h1; cases h1
                  | some n =>
                    rw [hsz] at h1
                    by_cases hn : n = 1
                    · subst hn
                      cases h1
                      obtain ⟨i, i1, i2⟩ := szOf_spec hsz
                      exact copy_sim hr hu i1 i2 (.inl ⟨rfl, hu2, rfl⟩) (sx_VR hg hf sa1) (sx_VR hg hf sa2) hx
                    · exfalso
                      revert h1
                      split
                      · rename_i heq; cases heq; exact absurd rfl hn
                      · intro h1; cases h1
end

/-! ### A block's next generation -/
theorem gset_some {g : Nat} {vs : List AV} {t : Tr Cl} {o j : Nat} {c : Cl} (h : getP (path j) (gset g vs t o).out = some c) :
    (o ≤ j ∧ j < o + vs.length ∧ vs[j - o]? = some c.v ∧ c.s = g) ∨ (¬ (o ≤ j ∧ j < o + vs.length) ∧ getP (path j) t = some c) := by
  rw [gset_get] at h
  by_cases hi : o ≤ j ∧ j < o + vs.length
  · rw [dif_pos hi] at h
    cases h
    exact .inl ⟨hi.1, hi.2, by rw [List.getElem?_eq_getElem], rfl⟩
  · rw [dif_neg hi] at h
    exact .inr ⟨hi, h⟩

theorem gcell_some {t : Tr Cl} {n g i : Nat} {v : AV} (h : gcell t n g i = some v) : i < n ∧ ∃ c, getP (path i) t = some c ∧ c.s ≤ g ∧ c.v = v := by
  unfold gcell at h
  cases h1 : Nat.ble (Nat.succ i) n with
  | false => rw [h1] at h; cases h
  | true =>
    rw [h1] at h
    cases h2 : getP (path i) t with
    | none => rw [h2] at h; cases h
    | some c =>
      rw [h2] at h
      have h : ifb (Nat.ble c.s g) (some c.v) none = some v := h
      cases h3 : Nat.ble c.s g with
      | false => rw [h3] at h; cases h
      | true => rw [h3] at h; cases h; exact ⟨ble_iff.1 h1, c, rfl, ble_iff.1 h3, rfl⟩
theorem gcell_of {t : Tr Cl} {n g i : Nat} {c : Cl} (h1 : i < n) (h2 : getP (path i) t = some c) (h3 : c.s ≤ g) : gcell t n g i = some c.v := by
  unfold gcell
  rw [show Nat.ble (Nat.succ i) n = true from ble_iff.2 h1, h2]
  show ifb (Nat.ble c.s g) (some c.v) none = _
  rw [show Nat.ble c.s g = true from ble_iff.2 h3]; rfl

/-- What a growth leaves of a block. -/
theorem Blk.grow_spec {b : Blk} {s : Nat} {vs : List AV} {k : Blk → Nat → R2} {v : AV} {h' : Hp} (hx : b.grow s vs k = .ok v h') :
    ∃ b' G, k b' G = .ok v h' ∧ b.isCells ∧ b'.isCells ∧ b'.gen = G ∧ b.gen < G ∧ b'.fz = b.fz ∧ b.fz < 2 ∧ b'.known G = s + vs.length ∧ (∀ g', g' ≠ G → b'.known g' = 0) ∧
      (∀ i v, b'.read1 G i = some v → i < s + vs.length ∧ (s ≤ i → vs[i - s]? = some v) ∧ (i < s → ∀ g u, b.read1 g i = some u → v = u)) ∧
      (∀ g', g' ≤ b.gen → ∀ i v, b'.read1 g' i = some v → b.read1 g' i = some v ∧ ¬ (s ≤ i ∧ i < s + vs.length)) := by
  have kn : ∀ (t : Tr Cl) (n G fz g' : Nat), g' ≠ G → Blk.known (.grown t n G fz) g' = 0 := by
    intro t n G fz g' hg
    show ifb (Nat.beq g' G) n 0 = 0
    cases hb : Nat.beq g' G with
    | false => rfl
    | true => exact absurd (beq_iff.1 hb) hg
  have kn2 : ∀ (t : Tr Cl) (n G fz : Nat), Blk.known (.grown t n G fz) G = n := by
    intro t n G fz
    show ifb (Nat.beq G G) n 0 = n
    rw [show Nat.beq G G = true from beq_iff.2 rfl]; rfl
  have rd : ∀ (t : Tr Cl) (n G fz g' i : Nat), Blk.read1 (.grown t n G fz) g' i = gcell t n g' i := fun _ _ _ _ _ _ => rfl
  cases b with
  | map es => exact (no_ok (w := "append") hx).elim
  | sit n a p => exact (no_ok (w := "append") hx).elim
  | lp q => exact (no_ok (w := "append") hx).elim
  | flat l fz =>
    have hx : ifb (Nat.ble 2 fz) (.no "append: frozen") ((trOf l).bd fun t => (gset 1 vs t s).bd fun t => natF (Nat.add s (lenA vs)) fun n => k (.grown t n 1 fz) 1) = .ok v h' := hx
    cases hf : Nat.ble 2 fz with
    | true => rw [hf] at hx; exact (no_ok hx).elim
    | false =>
      rw [hf] at hx
      have hf2 : fz < 2 := by
        rcases Nat.lt_or_ge fz 2 with h | h
        · exact h
        · rw [ble_iff.2 h] at hf; cases hf
      unfold trOf at hx
      rw [ifb_false, gset_eq 0, Bx.bd_mk, gset_eq, Bx.bd_mk, natF_eq] at hx
      have tr0 : ∀ i c, getP (path i) (gset 0 l .e 0).out = some c → l[i]? = some c.v ∧ c.s = 0 := by
        intro i c hc
        rcases gset_some hc with ⟨_, _, h3, h4⟩ | ⟨_, h2⟩
        · exact ⟨by simpa using h3, h4⟩
        · rw [getP_e] at h2; cases h2
      refine ⟨_, 1, hx, trivial, trivial, rfl, Nat.zero_lt_one, rfl, hf2, by rw [kn2, lenA_eq]; rfl, fun g' hg => kn _ _ _ _ _ hg, ?_, ?_⟩
      · intro i v hv
        rw [rd] at hv
        obtain ⟨h1, c, h2, h3, rfl⟩ := gcell_some hv
        rw [lenA_eq] at h1
        refine ⟨h1, fun hsi => ?_, fun his g u hu => ?_⟩
        · rcases gset_some h2 with ⟨_, _, h4, _⟩ | ⟨h4, _⟩
          · exact h4
          · exact absurd ⟨hsi, h1⟩ h4
        · rcases gset_some h2 with ⟨h4, _⟩ | ⟨_, h4⟩
          · omega
          · have h5 := (tr0 i c h4).1
            have hu : ifb (Nat.beq g 0) (nthA l i) none = some u := hu
            cases hg : Nat.beq g 0 with
            | false => rw [hg] at hu; cases hu
            | true =>
              rw [hg, ifb_true, nthA_eq, h5] at hu
              cases hu; rfl
      · intro g' hg' i v hv
        have hg0 : g' = 0 := Nat.le_zero.1 hg'
        subst hg0
        rw [rd] at hv
        obtain ⟨h1, c, h2, h3, rfl⟩ := gcell_some hv
        rcases gset_some h2 with ⟨_, _, _, h4⟩ | ⟨h4, h5⟩
        · omega
        · refine ⟨?_, h4⟩
          show ifb (Nat.beq 0 0) (nthA l i) none = _
          rw [show Nat.beq 0 0 = true from rfl, ifb_true, nthA_eq]
          exact (tr0 i c h5).1
  | grown t n g0 fz =>
    have hx : ifb (or (Nat.ble 2 fz) (not (Nat.ble s n))) (.no "append: frozen") ((gset (Nat.succ g0) vs t s).bd fun t => natF (Nat.add s (lenA vs)) fun n => k (.grown t n (Nat.succ g0) fz) (Nat.succ g0)) = .ok v h' := hx
    cases hf : Nat.ble 2 fz with
    | true => rw [hf] at hx; exact (no_ok hx).elim
    | false => cases hsn : Nat.ble s n with
      | false => rw [hf, hsn] at hx; exact (no_ok hx).elim
      | true =>
        rw [hf, hsn] at hx
        have hsn := ble_iff.1 hsn
        have hf2 : fz < 2 := by
          rcases Nat.lt_or_ge fz 2 with h | h
          · exact h
          · rw [ble_iff.2 h] at hf; cases hf
        have hx : (gset (Nat.succ g0) vs t s).bd (fun t => natF (Nat.add s (lenA vs)) fun n => k (.grown t n (Nat.succ g0) fz) (Nat.succ g0)) = .ok v h' := hx
        rw [gset_eq, Bx.bd_mk, natF_eq] at hx
        refine ⟨_, Nat.succ g0, hx, trivial, trivial, rfl, Nat.lt_succ_self _, rfl, hf2, by rw [kn2, lenA_eq]; rfl, fun g' hg => kn _ _ _ _ _ hg, ?_, ?_⟩
        · intro i v hv
          rw [rd] at hv
          obtain ⟨h1, c, h2, h3, rfl⟩ := gcell_some hv
          rw [lenA_eq] at h1
          refine ⟨h1, fun hsi => ?_, fun his g u hu => ?_⟩
          · rcases gset_some h2 with ⟨_, _, h4, _⟩ | ⟨h4, _⟩
            · exact h4
            · exact absurd ⟨hsi, h1⟩ h4
          · rcases gset_some h2 with ⟨h4, _⟩ | ⟨_, h4⟩
            · omega
            · rw [rd] at hu
              obtain ⟨_, c2, h5, _, rfl⟩ := gcell_some hu
              rw [h4] at h5; cases h5; rfl
        · intro g' hg' i v hv
          have hg' : g' ≤ g0 := hg'
          rw [rd] at hv
          obtain ⟨h1, c, h2, h3, rfl⟩ := gcell_some hv
          rw [lenA_eq] at h1
          rcases gset_some h2 with ⟨_, _, _, h4⟩ | ⟨h4, h5⟩
          · omega
          · refine ⟨?_, h4⟩
            rw [rd]
            refine gcell_of ?_ h5 h3
            have h1 : i < s + vs.length := h1
            omega

/-- A block's next generation, and where it lies. -/
theorem HR.regen {e : Emb} {h : Hp} {w w' : World} (hr : HR e h w) {b G : Nat} {blk blk' : Blk} {y : Loc} {c' : Array Value} {t' : TypeId} {fr' : Nat × Nat} (hget : h.get b = some blk) (hcells : blk.isCells) (hgen : blk.gen < G) (hfz2 : blk.fz < 2)
    (hnew : BRc e blk' G y c' fr') (hobj : w'.heap[y.r]? = some (.cells c' t' fr'))
    (hold : ∀ g' x' c t fr, e b g' = some x' → w.heap[x'.r]? = some (.cells c t fr) → BRc e blk g' x' c fr → ∃ c2 t2, w'.heap[x'.r]? = some (.cells c2 t2 fr) ∧ BRc e blk' g' x' c2 fr)
    (hsame : ∀ r, r < w.heap.size → (∀ g' x', e b g' = some x' → x'.r ≠ r) → w'.heap[r]? = w.heap[r]?)
    (hy : (∃ g0 x0, e b g0 = some x0 ∧ x0.r = y.r ∧ x0.base = y.base) ∨ w.heap.size ≤ y.r) (hsz : w.heap.size ≤ w'.heap.size) (hos : w'.os = w.os) (hout : w'.output = w.output) (hsome : ∃ g0 x0, e b g0 = some x0) (hok : h.okw b = true) :
    ∃ e', e' b G = some y ∧ Ext e h w e' ⟨setT blk' (path b) h.t, h.n, h.lk⟩ w' := by
  have hno : e b G = none := by
    cases hx : e b G with
    | none => rfl
    | some x =>
      obtain ⟨blk2, h1, h2⟩ := hr.at' b G x hx
      rw [hget] at h1; cases h1
      generalize w.heap[x.r]? = ob at h2
      cases h2 with
      | cells c t fr q => have := q.gen; omega
      | map _ _ _ _ hm _ _ _ _ _ => subst hm; exact hcells.elim
      | sit _ _ hm _ => subst hm; exact hcells.elim
      | iter _ _ _ _ hm _ => subst hm; exact hcells.elim
      | lp q0 fn0 tm0 df0 hm => subst hm; exact hcells.elim
      | busy o0 hm => subst hm; exact hcells.elim
      | dfr hm => subst hm; exact hcells.elim
  obtain ⟨gs, xs, hxs⟩ := hsome
  have hbn := (hr.lt b gs xs hxs).2
  have hylt : y.r < w'.heap.size := (Array.getElem?_eq_some_iff.1 hobj).1
  let e' : Emb := fun b2 g => if b2 = b ∧ g = G then some y else e b2 g
  have hle : e.le e' := fun b2 g z hz => by
    show (if b2 = b ∧ g = G then some y else e b2 g) = some z
    by_cases hc : b2 = b ∧ g = G
    · rw [hc.1, hc.2, hno] at hz; cases hz
    · rw [if_neg hc]; exact hz
  have hnew' : e' b G = some y := by simp [e']
  have hcase : ∀ b2 g z, e' b2 g = some z → (b2 = b ∧ g = G ∧ z = y) ∨ e b2 g = some z := fun b2 g z hz => by
    by_cases hc : b2 = b ∧ g = G
    · have : e' b2 g = some y := by show (if b2 = b ∧ g = G then some y else e b2 g) = some y; rw [if_pos hc]
      rw [this] at hz; cases hz; exact .inl ⟨hc.1, hc.2, rfl⟩
    · have : e' b2 g = e b2 g := by show (if b2 = b ∧ g = G then some y else e b2 g) = _; rw [if_neg hc]
      rw [this] at hz; exact .inr hz
  refine ⟨e', hnew', hle, ⟨?_, ?_, ?_⟩, ?_, ?_, ?_, ?_, ?_, Nat.le_refl _, hsz, hos, hout, rfl⟩
  · intro b1 g1 z1 b2 g2 z2 h1 h2 hrr
    have one : ∀ b2 g2 z2, e b2 g2 = some z2 → z2.r = y.r → b2 = b ∧ z2.base = y.base := by
      intro b2 g2 z2 h2 hrr
      rcases hy with ⟨g0, x0, h0, h3, h4⟩ | hy
      · have := hr.inj _ _ _ _ _ _ h2 h0 (hrr.trans h3.symm)
        exact ⟨this.1, this.2.trans h4⟩
      · have := (hr.lt _ _ _ h2).1; omega
    rcases hcase _ _ _ h1 with ⟨a1, a2, a3⟩ | a1 <;> rcases hcase _ _ _ h2 with ⟨b1', b2', b3'⟩ | b1'
    · subst a3; subst b3'; exact ⟨a1.trans b1'.symm, rfl⟩
    · subst a3
      have := one _ _ _ b1' hrr.symm
      exact ⟨a1.trans this.1.symm, this.2.symm⟩
    · subst b3'
      have := one _ _ _ a1 hrr
      exact ⟨this.1.trans b1'.symm, this.2⟩
    · exact hr.inj _ _ _ _ _ _ a1 b1' hrr
  · intro b2 g z hz
    rcases hcase _ _ _ hz with ⟨a1, a2, a3⟩ | a1
    · subst a3; subst a1; exact ⟨hylt, hbn⟩
    · have := hr.lt _ _ _ a1; exact ⟨by omega, this.2⟩
  · intro b2 g z hz
    rcases hcase _ _ _ hz with ⟨a1, a2, a3⟩ | a1
    · subst a1; subst a2; subst a3
      refine ⟨blk', by rw [Hp.get_set _ _ h.n, if_pos rfl], ?_⟩
      rw [hobj]
      exact .cells _ _ _ (hnew.mono hle)
    · obtain ⟨blk2, g1, g2⟩ := hr.at' _ _ _ a1
      by_cases hb : b2 = b
      · subst hb
        rw [hget] at g1; cases g1
        refine ⟨blk', by rw [Hp.get_set _ _ h.n, if_pos rfl], ?_⟩
        cases hob : w.heap[z.r]? with
        | none => rw [hob] at g2; cases g2
        | some ob =>
          rw [hob] at g2
          cases g2 with
          | map _ _ _ _ hm _ _ _ _ _ => subst hm; exact hcells.elim
          | sit _ _ hm _ => subst hm; exact hcells.elim
          | iter _ _ _ _ hm _ => subst hm; exact hcells.elim
          | lp q0 fn0 tm0 df0 hm => subst hm; exact hcells.elim
          | busy o0 hm => subst hm; exact hcells.elim
          | dfr hm => subst hm; exact hcells.elim
          | cells c t fr q =>
            obtain ⟨c2, t2, h3, h4⟩ := hold g z c t fr a1 hob q
            rw [h3]
            exact .cells _ _ _ (h4.mono hle)
      · refine ⟨blk2, by rw [Hp.get_set _ _ h.n, if_neg hb]; exact g1, ?_⟩
        rw [hsame z.r (hr.lt _ _ _ a1).1 fun g' x' hx' hrr => hb (hr.inj _ _ _ _ _ _ a1 hx' hrr.symm).1]
        exact g2.mono hle
  · intro b2 g z hz
    rcases hcase _ _ _ hz with ⟨a1, _, _⟩ | a1
    · subst a1; exact .inl ⟨gs, xs, hxs⟩
    · exact .inl ⟨g, z, a1⟩
  · intro b2 g z hz
    rcases hcase _ _ _ hz with ⟨a1, a2, a3⟩ | a1
    · subst a3; subst a1
      rcases hy with ⟨g0, x0, h0, h3, _⟩ | hy
      · exact .inl ⟨g0, x0, h0, h3⟩
      · exact .inr hy
    · exact .inl ⟨g, z, a1, rfl⟩
  · intro r hrl hro
    refine hsame r hrl fun g' x' hx' hrr => ?_
    rcases (hro b g' x' hx' hrr).2 with ⟨l, hl⟩ | hl
    · rw [hget] at hl; cases hl.1; exact (Blk.kept_no hl.2 hfz2).elim
    · rw [hok] at hl; cases hl
  · intro b2 _ hn
    rw [Hp.get_set _ _ h.n, if_neg]
    intro hb; subst hb; rw [hn gs] at hxs; cases hxs
  · intro b2 ⟨_, hl⟩
    rw [Hp.get_set _ _ h.n, if_neg]
    intro hb; subst hb
    rcases hl with ⟨l, hl⟩ | hl
    · rw [hget] at hl; cases hl.1; exact (Blk.kept_no hl.2 hfz2).elim
    · rw [hok] at hl; cases hl
end Go.Ab

/- Each operation, done on named blocks, is what the model does (fourteenth part: append). -/
namespace Go.Ab
open Go
variable {C : Cx}

theorem app_two (ts : List TypeId) (rest : List Value) (t u ty : TypeId) (s x : Value) : Builtin.append_ (t :: u :: ts).toArray ty (s :: x :: rest).toArray = Builtin.append_ #[t, u] ty #[s, x] := by
  unfold Builtin.append_
  simp

theorem run_append_room' {P : Program} {w w' : World} {t tx ty el : TypeId} {i : TypeInfo} (ht : P.underlying t = some (.slice el)) (hi : P.info? el = some i) {r off sLen sCap n : Nat} {x : Value} {news : List Value} (hs : Src P i.size tx x n news w)
    (hroom : sLen + n ≤ sCap) (hst : (storeCells ⟨r, off + sLen * i.size, none⟩ news).run P w = .ok () w') :
    (Builtin.append_ #[t, tx] ty #[.slice (some ⟨r, off, none⟩) sLen sCap, x]).run P w = .ok (.slice (some ⟨r, off, none⟩) (sLen + n) sCap) w' := by
  rcases hs.kind with ⟨e', hk⟩ | hk <;> simp [Builtin.append_, run_underlying ht, run_underlying hk, sizeOf, typeInfo, hi, hs.len, hroom, hs.cells, Addr.add_mk, hst]

theorem roomy_le {bytes n m : Nat} (h : roomy bytes n m = true) : (2 * (n + m) + 1024) * (bytes + 1) ≤ 1073741824 := by
  unfold roomy at h
  have h := Nat.le_of_ble_eq_true h
  simpa [maxMem] using h
theorem roomy_fits {bytes n m cap : Nat} (h : roomy bytes n m = true) (hc : cap < n + m) : ((n + m : Nat) : Int) ≤ 9223372036854775807 ∧ Builtin.nextslicecap (n + m) cap * bytes ≤ 281474976710656 := by
  have h1 := roomy_le h
  have h2 : (2 * (n + m) + 1024) * 1 ≤ (2 * (n + m) + 1024) * (bytes + 1) := Nat.mul_le_mul_left _ (by omega)
  have h3 : (n + m) * bytes ≤ (2 * (n + m) + 1024) * (bytes + 1) := Nat.mul_le_mul (by omega) (by omega)
  have h4 : (n + m) * bytes ≤ 140737488355328 := Nat.le_trans (Nat.le_trans h3 h1) (by decide)
  refine ⟨?_, growslice_fits hc h4⟩
  rw [Nat.mul_one] at h2
  have h5 := Nat.le_trans h2 h1
  omega

section
variable {c : CallT} {f : Fr} {h h' : Hp} {v : AV} {e : Emb} {a : Act} {w : World} {s : List Sx} {co : CO} {ty : TypeId}

/-- What stays the same over all of 'append'. -/
structure AppI (C : Cx) (e : Emb) (h : Hp) (w : World) (t u el : TypeId) (i : TypeInfo) (z : Value) (size m : Nat) (x : Value) (vs : List AV) (vs' : List Value) : Prop where
  hr : HR e h w
  hu : C.P.underlying t = some (.slice el)
  hi : C.P.info? el = some i
  hz : i.zero = some z
  his : i.size = size
  hzs : z.cells.size = size
  hpos : 0 < size
  src : Src C.P i.size u x m vs' w
  vr : VRL e vs vs'
  cell : ∀ u ∈ vs, u.isCell = true

theorem AppI.len {t u el i z size m x vs vs'} (p : AppI C e h w t u el i z size m x vs vs') : vs.length = m * size := by
  have := p.vr.length
  have h2 := p.src.newsLen
  rw [p.his] at h2; omega

/-- Room that is known. -/
theorem AppI.inn {t u el i z size m x vs vs'} (p : AppI C e h w t u el i z size m x vs vs') {b g o n cc cap : Nat} {y : Loc} (p1 : e b g = some y) (p2 : y.base ≤ y.lo) (p3 : y.lo ≤ o) (p5 : cc % 2 = 1 → cap = cc / 2) (p6 : cc % 2 = 0 → o - y.base + cap * (cc / 2) = y.sz)
    (hroom : n + m ≤ cap) (hx : appIn size b g o n m cc vs h = .ok v h') : BOK C (Builtin.append_ #[t, u] ty #[.slice (some ⟨y.r, o - y.base, none⟩) n cap, x]) e h w v h' := by
  unfold appIn at hx
  obtain ⟨h2, hw, hx⟩ := Res.bd2_eq_ok hx
  cases hx
  have hlo : y.lo ≤ Nat.add o (Nat.mul n size) := Nat.le_trans p3 (Nat.le_add_right _ _)
  obtain ⟨w', w1, w2⟩ := p.hr.write C.P p1 hlo hw p.vr p.cell
  refine ⟨_, e, w', run_append_room' p.hu p.hi p.src hroom (w' := w') ?_, w2, .sl b g o (n + m) cc cap y p1 p2 p3 hroom p5 p6⟩
  rw [p.his]
  have : Nat.add o (Nat.mul n size) - y.base = o - y.base + n * size := by
    show o + n * size - y.base = _; omega
  rw [← this]; exact w1

/-- A new row. -/
theorem AppI.new {t u el i z size m x vs vs'} (p : AppI C e h w t u el i z size m x vs vs') {base : Option Addr} {n cap : Nat} {old : List AV} {olds : List Value} (ho : VRL e old olds) (hol : old.length = n * size)
    (hold : (Builtin.firstCells i.size n (.slice base n cap)).run C.P w.drew = .ok olds.toArray w.drew) {bytes : Nat} (hby : i.bytes = bytes) (hroom : roomy bytes n m = true) (hg : cap < n + m) :
    (Builtin.append_ #[t, u] ty #[.slice base n cap, x]).run C.P w = .ok (.slice (some ⟨w.heap.size, 0, none⟩) (n + m) (grownCap w (n + m) cap el))
        (w.drew.alloc (.cells ((olds ++ vs').toArray ++ Builtin.zeroCells z.cells (grownCap w (n + m) cap el - (n + m))) el)) ∧
      ((olds ++ vs').toArray ++ Builtin.zeroCells z.cells (grownCap w (n + m) cap el - (n + m))).size = grownCap w (n + m) cap el * size ∧ (olds ++ vs').length = (n + m) * size := by
  obtain ⟨h1, h2⟩ := roomy_fits hroom hg
  rw [← hby] at h2
  have hrun := run_append_grow_src (P := C.P) w t u ty el i z p.hu p.hi p.hz base n cap olds hold x m vs' p.src hg h1 h2
  have hlen : (olds ++ vs').length = (n + m) * size := by
    rw [List.length_append, ho.length, hol, p.vr.length, p.len, Nat.add_mul]
  refine ⟨hrun, ?_, hlen⟩
  have hge := grownCap_ge w (n + m) cap el
  rw [Array.size_append, List.size_toArray, hlen, size_zeroCells, p.hzs, ← Nat.add_mul, Nat.add_sub_cancel' hge]

theorem AppI.newFlat {t u el i z size m x vs vs'} (p : AppI C e h w t u el i z size m x vs vs') {base : Option Addr} {n cap : Nat} {old : List AV} {olds : List Value} (ho : VRL e old olds) (hoc : ∀ u ∈ old, u.isCell = true) (hol : old.length = n * size)
    (hold : (Builtin.firstCells i.size n (.slice base n cap)).run C.P w.drew = .ok olds.toArray w.drew) {bytes : Nat} (hby : i.bytes = bytes) (hroom : roomy bytes n m = true) (hg : cap < n + m)
    (hx : R2.new h (.flat (old ++ vs) 0) (fun b => .sl b 0 0 (n + m) (2 * size)) = .ok v h') : BOK C (Builtin.append_ #[t, u] ty #[.slice base n cap, x]) e h w v h' := by
  obtain ⟨rfl, rfl⟩ := R2.new_ok hx
  obtain ⟨r1, r2, r3⟩ := p.new (ty := ty) ho hol hold hby hroom hg
  have hrd : HR e h w.drew := p.hr.of_heap rfl
  obtain ⟨e', n1, n2⟩ := new_flat hrd (ho.append p.vr) (fun u hu => (List.mem_append.1 hu).elim (hoc u) (p.cell u)) (rest := (Builtin.zeroCells z.cells (grownCap w (n + m) cap el - (n + m))).toList) el 0 (0, 0) (fun i _ => by simp) (fun _ i => by simp)
  have harr : ((olds ++ vs') ++ (Builtin.zeroCells z.cells (grownCap w (n + m) cap el - (n + m))).toList).toArray = (olds ++ vs').toArray ++ Builtin.zeroCells z.cells (grownCap w (n + m) cap el - (n + m)) := by
    apply Array.toList_inj.1; simp
  rw [harr] at n2
  refine ⟨_, e', _, r1, (Ext.drew (w' := w.drew) p.hr rfl rfl rfl).trans n2, ?_⟩
  have hge := grownCap_ge w (n + m) cap el
  have := VR.sl (e := e') h.n 0 0 (n + m) (2 * size) (grownCap w (n + m) cap el) _ n1 (Nat.le_refl _) (Nat.le_refl _) hge (fun hh => by omega) (fun _ => by
    rw [show 2 * size / 2 = size by omega]
    simp only [Array.size_append, List.size_toArray] at r2
    simp only [Array.length_toList]
    omega)
  exact this

/-- The next generation. -/
theorem AppI.grow {t u el i z size m x vs vs'} (p : AppI C e h w t u el i z size m x vs vs') {b g o n cap : Nat} {y : Loc} {blk : Blk} {ad : Addr} (had : ad = ⟨y.r, o - y.base, none⟩ ∨ (n = 0 ∧ cap = 0)) (hm0 : m ≠ 0) (p1 : e b g = some y) (p2 : y.base ≤ y.lo) (p3 : y.lo ≤ o) (p6 : o - y.base + cap * size = y.sz)
    {bytes : Nat} (hby : i.bytes = bytes) (hroom : roomy bytes n m = true) {old : List AV} (hold : h.readN b g o (Nat.mul n size) = .ok old) (hget : h.get b = some blk)
    (hx : blk.grow (Nat.add o (Nat.mul n size)) vs (fun y g' => R2.put h b y (.sl b g' o (Nat.add n m) (Nat.mul 2 size))) = .ok v h') : BOK C (Builtin.append_ #[t, u] ty #[.slice (some ad) n cap, x]) e h w v h' := by
  obtain ⟨blk', G, hx, s1, s2, s3, s4, s5, s6, s7, s8, s9, s10⟩ := Blk.grow_spec hx
  obtain ⟨rfl, rfl, hok⟩ := R2.put_ok hx
  obtain ⟨olds, o1, o2, o3, o4, o5⟩ := p.hr.readC p1 p3 hold
  have hol : old.length = n * size := o4
  have hs : Nat.add o (Nat.mul n size) = o + n * size := rfl
  rw [hs] at s7 s9 s10
  have hlen := p.len
  have hvlen := p.vr.length
  -- what was there
  obtain ⟨blk2, hget2, hbr⟩ := p.hr.at' b g y p1
  rw [hget] at hget2; cases hget2
  cases hob : w.heap[y.r]? with
  | none => rw [hob] at hbr; cases hbr
  | some ob =>
  rw [hob] at hbr
  cases hbr with
  | map _ _ _ _ hm _ _ _ _ _ => subst hm; exact s1.elim
  | sit _ _ hm _ => subst hm; exact s1.elim
  | iter _ _ _ _ hm _ => subst hm; exact s1.elim
  | lp q0 fn0 tm0 df0 hm => subst hm; exact s1.elim
  | busy o0 hm => subst hm; exact s1.elim
  | dfr hm => subst hm; exact s1.elim
  | cells c t0 fr q =>
  have hoat : ∀ i, o ≤ i → i < o + n * size → ∃ u u', old[i - o]? = some u ∧ blk.read1 g i = some u ∧ c[i - y.base]? = some u' ∧ olds[i - o]? = some u' ∧ VR e u u' ∧ u.isCell = true := by
    intro i hi1 hi2
    have hlt : i - o < old.length := by omega
    have h1 := List.getElem?_eq_getElem hlt
    obtain ⟨blk3, h2, h3⟩ := o5 (i - o) _ h1
    rw [hget] at h2; cases h2
    rw [show o + (i - o) = i by omega] at h3
    obtain ⟨h4, u', h5, h6⟩ := q.at' i _ (by omega) h3
    obtain ⟨u2, h7, h8⟩ := o2.get h1
    have h9 := o1 (i - o) u2 h7
    rw [Addr.add_mk] at h9
    have hci : c[o - y.base + (i - o)]? = some u2 := by simpa [World.cell?, hob] using h9
    rw [show o - y.base + (i - o) = i - y.base by omega] at hci
    exact ⟨_, u2, h1, h3, hci, h7, h8, h4⟩
  by_cases hroom2 : n + m ≤ cap
  · -- there was room
    have had : ad = ⟨y.r, o - y.base, none⟩ := had.resolve_right (fun hh => by omega)
    subst had
    have hle : (n + m) * size ≤ cap * size := Nat.mul_le_mul_right _ hroom2
    rw [Nat.add_mul] at hle
    have hsz := q.sz
    obtain ⟨w', st, st2, st3, sto, stp, c', c1, c2, c3⟩ := run_storeCellsG C.P y.r (o - y.base + n * size) t0 fr vs' 0 c w hob (by omega) (q.fz2 (by omega)) (cells_one p.vr p.cell)
    simp only [Nat.add_zero] at st c3
    have hnew : BRc e blk' G ⟨y.r, y.base, o, y.sz⟩ c' fr := by
      refine ⟨s2, by show y.base ≤ o; omega, by show c'.size = y.sz; rw [c2]; exact hsz, by rw [s3]; exact Nat.le_refl _, ?_, ?_, by rw [s5, c2]; exact q.fz2, by rw [s5]; exact q.fz0⟩
      · rw [s7]; show _ ≤ y.base + c'.size; rw [c2]; omega
      · intro i u hi hu
        have hi : o ≤ i := hi
        obtain ⟨t1, t2, t3⟩ := s9 i u hu
        show u.isCell = true ∧ ∃ v', c'[i - y.base]? = some v' ∧ VR e u v'
        rw [c3]
        by_cases his : o + n * size ≤ i
        · have h1 := t2 his
          obtain ⟨u', h2, h3⟩ := p.vr.get h1
          refine ⟨p.cell u (List.mem_of_getElem? h1), u', ?_, h3⟩
          rw [if_pos (by omega), ← h2, show i - y.base - (o - y.base + n * size) = i - (o + n * size) by omega]
        · obtain ⟨u0, u', g1, g2, g3, _, g5, g6⟩ := hoat i hi (by omega)
          have := t3 (by omega) g u0 g2
          subst this
          refine ⟨g6, u', ?_, g5⟩
          rw [if_neg (by omega)]; exact g3
    obtain ⟨e', n1, n2⟩ := p.hr.regen (G := G) (blk' := blk') (y := ⟨y.r, y.base, o, y.sz⟩) (w' := w') hget s1 s4 s6 hnew c1
      (fun g' x' cx tx fx hx' hcx qx => by
        by_cases hrr : x'.r = y.r
        · rw [hrr, hob] at hcx; cases hcx
          have hb0 := (p.hr.inj _ _ _ _ _ _ hx' p1 hrr).2
          refine ⟨c', t0, by rw [hrr]; exact c1, s2, qx.lo, by rw [c2]; exact qx.sz, by rw [s3]; have := qx.gen; omega, ?_, ?_, by rw [s5, c2]; exact qx.fz2, by rw [s5]; exact qx.fz0⟩
          · rw [s8 g' (by have := qx.gen; omega)]; exact Nat.zero_le _
          · intro i u hi hu
            obtain ⟨h1, h2⟩ := s10 g' qx.gen i u hu
            have hlo' := qx.lo
            rw [c3, if_neg (by omega)]
            exact qx.at' i u hi h1
        · refine ⟨cx, tx, by rw [st3 _ hrr]; exact hcx, s2, qx.lo, qx.sz, by rw [s3]; have := qx.gen; omega, ?_, ?_, by rw [s5]; exact qx.fz2, by rw [s5]; exact qx.fz0⟩
          · rw [s8 g' (by have := qx.gen; omega)]; exact Nat.zero_le _
          · intro i u hi hu
            exact qx.at' i u hi (s10 g' qx.gen i u hu).1)
      (fun r _ hne => st3 r fun hrr => hne g y p1 hrr.symm) (.inl ⟨g, y, p1, rfl, rfl⟩) (by omega) sto stp ⟨g, y, p1⟩ hok
    refine ⟨_, e', w', run_append_room' p.hu p.hi p.src hroom2 (w' := w') (by rw [p.his]; exact st), n2, ?_⟩
    exact VR.sl b G o (n + m) (2 * size) cap ⟨y.r, y.base, o, y.sz⟩ n1 (by show y.base ≤ o; omega) (Nat.le_refl _) hroom2 (fun hh => by omega) (fun _ => by
      rw [show 2 * size / 2 = size by omega]; exact p6)
  · -- there was none
    have hg : cap < n + m := by omega
    have hfc : (Builtin.firstCells i.size n (.slice (some ad) n cap)).run C.P w.drew = .ok olds.toArray w.drew := by
      rw [p.his]
      rcases had with rfl | ⟨rfl, _⟩
      case inr =>
        have : olds = [] := List.eq_nil_of_length_eq_zero (by have := o2.length; omega)
        rw [this]
        simp [Builtin.firstCells, loadCells, loadCellsFrom]
      exact run_firstCells_some w.drew size n _ n cap olds (by rw [o2.length]; exact hol) (fun j u hj => by rw [World.cell?_drew]; exact o1 j u hj)
    obtain ⟨r1, r2, r3⟩ := p.new (ty := ty) o2 hol hfc hby hroom hg
    generalize hcc : (olds ++ vs').toArray ++ Builtin.zeroCells z.cells (grownCap w (n + m) cap el - (n + m)) = c' at r1 r2
    generalize hnc : grownCap w (n + m) cap el = nc at r1 r2
    have hge : n + m ≤ nc := hnc ▸ grownCap_ge w (n + m) cap el
    have hle : (n + m) * size ≤ nc * size := Nat.mul_le_mul_right _ hge
    rw [Nat.add_mul] at hle r3
    have hcat : ∀ j, j < (olds ++ vs').length → c'[j]? = (olds ++ vs')[j]? := by
      intro j hj
      rw [← hcc, Array.getElem?_append_left (by simpa using hj)]
      simp
    have hnew : BRc e blk' G ⟨w.heap.size, o, o, c'.size⟩ c' (0, 0) := by
      refine ⟨s2, Nat.le_refl _, rfl, by rw [s3]; exact Nat.le_refl _, ?_, ?_, fun _ i _ => by simp, fun _ i => by simp⟩
      · rw [s7]; show _ ≤ o + c'.size; omega
      · intro i u hi hu
        have hi : o ≤ i := hi
        obtain ⟨t1, t2, t3⟩ := s9 i u hu
        show u.isCell = true ∧ ∃ v', c'[i - o]? = some v' ∧ VR e u v'
        have hol2 := o2.length
        rw [hcat (i - o) (by omega)]
        by_cases his : o + n * size ≤ i
        · have h1 := t2 his
          obtain ⟨u', h2, h3⟩ := p.vr.get h1
          refine ⟨p.cell u (List.mem_of_getElem? h1), u', ?_, h3⟩
          rw [List.getElem?_append_right (by omega), ← h2, show i - o - olds.length = i - (o + n * size) by omega]
        · obtain ⟨u0, u', g1, g2, _, g4, g5, g6⟩ := hoat i hi (by omega)
          have := t3 (by omega) g u0 g2
          subst this
          refine ⟨g6, u', ?_, g5⟩
          rw [List.getElem?_append_left (by omega)]; exact g4
    obtain ⟨e', n1, n2⟩ := p.hr.regen (G := G) (blk' := blk') (y := ⟨w.heap.size, o, o, c'.size⟩) (w' := w.drew.alloc (.cells c' el)) hget s1 s4 s6 hnew (heap_alloc_new w.drew _)
      (fun g' x' cx tx fx hx' hcx qx => by
        refine ⟨cx, tx, by rw [heap_alloc_old _ _ _ (show x'.r < w.drew.heap.size from (p.hr.lt _ _ _ hx').1)]; exact hcx, s2, qx.lo, qx.sz, by rw [s3]; have := qx.gen; omega, ?_, ?_, by rw [s5]; exact qx.fz2, by rw [s5]; exact qx.fz0⟩
        · rw [s8 g' (by have := qx.gen; omega)]; exact Nat.zero_le _
        · intro i u hi hu
          exact qx.at' i u hi (s10 g' qx.gen i u hu).1)
      (fun r hrl _ => heap_alloc_old w.drew _ r hrl) (.inr (Nat.le_refl _)) (by simp) rfl rfl ⟨g, y, p1⟩ hok
    refine ⟨_, e', _, r1, n2, ?_⟩
    have := VR.sl (e := e') b G o (n + m) (2 * size) nc ⟨w.heap.size, o, o, c'.size⟩ n1 (Nat.le_refl _) (Nat.le_refl _) hge (fun hh => by omega) (fun _ => by
      rw [show 2 * size / 2 = size by omega]; show o - o + nc * size = c'.size; omega)
    rw [show o - (⟨w.heap.size, o, o, c'.size⟩ : Loc).base = 0 from Nat.sub_self o] at this
    exact this

/-- 'append', all of it. -/
theorem app_sim {str : Bool} {size bytes : Nat} {ss sx : Sx} {sv x : Value} {t u el : TypeId} {i : TypeInfo} {z : Value} {ts : List TypeId} {rest : List Value} (hr : HR e h w) (hu : C.P.underlying t = some (.slice el)) (hi : C.P.info? el = some i) (hz : i.zero = some z)
    (his : i.size = size) (hzs : z.cells.size = size) (hby : i.bytes = bytes) (hpos : 0 < size) (hk : SrcKind C str size u) (hvs : VR e (ev f ss) sv) (hvx : VR e (ev f sx) x) (hx : xO (.app str size bytes ss sx) c f h = .ok v h') :
    BOK C (Builtin.append_ (t :: u :: ts).toArray ty (sv :: x :: rest).toArray) e h w v h' := by
  rw [app_two]
  have hx : srcOf str size (ev f sx) h (fun m cells =>
    (ev f ss).onSl R2.no (ifb (Nat.beq m 0) (.ok (.nil 1) h) ((cells m).bd2 fun vs => ifb (roomy bytes 0 m) (R2.new h (.flat vs 0) fun b => .sl b 0 0 m (Nat.mul 2 size)) (.no "append: much")))
      fun b g o n cap => ifb (Nat.beq m 0) (.ok (.sl b g o n cap) h) ((cells m).bd2 fun vs => ifb (roomy bytes n m) (appTo size b g o n m cap vs h) (.no "append: much"))) = .ok v h' := hx
  obtain ⟨m, cells, hx, hlen, h0, hcells⟩ := src_sim hk hvx hr hx
  have hkind : (∃ e', C.P.underlying u = some (.slice e')) ∨ C.P.underlying u = some .string := by
    rcases hk with ⟨_, h1, _⟩ | ⟨_, h1⟩
    · exact .inr h1
    · exact .inl h1
  have mkI : ∀ vs, cells m = .ok vs → ∃ vs', AppI C e h w t u el i z size m x vs vs' := by
    intro vs hvs
    obtain ⟨vs', k1, k2, k3, k4⟩ := hcells m vs (Nat.le_refl _) hvs
    refine ⟨vs', hr, hu, hi, hz, his, hzs, hpos, ⟨hkind, hlen, ?_, ?_, ?_, cells_one k1 k2⟩, k1, k2⟩
    · rw [his]; exact k4 w rfl
    · rw [his]; exact k4 w.drew rfl
    · rw [his, k1.length]; exact k3
  have none : m = 0 → ∀ (base : Option Addr) (n cap : Nat), n ≤ cap → sv = .slice base n cap → VR e v sv → h' = h → BOK C (Builtin.append_ #[t, u] ty #[sv, x]) e h w v h' := by
    intro hm base n cap hn hsv hvv hh
    subst hm; subst hsv; subst hh
    refine .here hr (v' := .slice base n cap) ?_ hvv
    rcases hkind with ⟨e', hk⟩ | hk <;> cases base <;> simp [Builtin.append_, run_und hu, run_und hk, run_siz hi, his, hlen, h0, hn, storeCells]
  rcases hvs.slR hx with ⟨rfl, hx⟩ | ⟨b, g, o, n, cc, cap, y, ad, p1, p2, p3, p4, p5, p6, rfl, had, hx⟩
  · cases hm : Nat.beq m 0 with
    | true =>
      rw [hm] at hx
      cases hx
      exact none (beq_iff.1 hm) _ _ _ (Nat.le_refl _) rfl .nils rfl
    | false =>
      rw [hm] at hx
      have hx : (cells m).bd2 (fun vs => ifb (roomy bytes 0 m) (R2.new h (.flat vs 0) fun b => .sl b 0 0 m (Nat.mul 2 size)) (.no "append: much")) = .ok v h' := hx
      obtain ⟨vs, hvs', hx⟩ := Res.bd2_eq_ok hx
      obtain ⟨hroom, hx⟩ := ifbR hx
      obtain ⟨vs', p⟩ := mkI vs hvs'
      have hm0 : m ≠ 0 := fun hh => by rw [beq_iff.2 hh] at hm; cases hm
      refine p.newFlat (old := []) (olds := []) (n := 0) .nil (fun u hu => by cases hu) (by simp) (by simp [Builtin.firstCells]) hby hroom (by omega) ?_
      rw [Nat.zero_add]; exact hx
  · cases hm : Nat.beq m 0 with
    | true =>
      rw [hm] at hx
      cases hx
      exact none (beq_iff.1 hm) _ _ _ p4 rfl (.slc b g o n cc cap y ad p1 p2 p3 p4 p5 p6 had) rfl
    | false =>
      rw [hm] at hx
      have hx : (cells m).bd2 (fun vs => ifb (roomy bytes n m) (appTo size b g o n m cc vs h) (.no "append: much")) = .ok v h' := hx
      obtain ⟨vs, hvs', hx⟩ := Res.bd2_eq_ok hx
      obtain ⟨hroom, hx⟩ := ifbR hx
      obtain ⟨vs', p⟩ := mkI vs hvs'
      unfold appTo capKn at hx
      cases hodd : Nat.beq (Nat.mod cc 2) 1 with
      | true =>
        have hodd2 := beq_iff.1 hodd
        have hcap : cap = cc / 2 := p5 hodd2
        rw [hodd] at hx
        have hx : ifb (Nat.ble (Nat.add n m) (Nat.div cc 2)) (appIn size b g o n m cc vs h) (appNew size b g o n m vs h) = .ok v h' := hx
        cases hle : Nat.ble (Nat.add n m) (Nat.div cc 2) with
        | true =>
          rw [hle] at hx
          have hx : appIn size b g o n m cc vs h = .ok v h' := hx
          have hroom2 : n + m ≤ cap := by rw [hcap]; exact ble_iff.1 hle
          have had : ad = ⟨y.r, o - y.base, Option.none⟩ := had.resolve_right (fun hh => by have : m ≠ 0 := (fun h0 => by rw [beq_iff.2 h0] at hm; cases hm); omega)
          subst had
          exact p.inn p1 p2 p3 p5 p6 hroom2 hx
        | false =>
          rw [hle] at hx
          have hx : appNew size b g o n m vs h = .ok v h' := hx
          unfold appNew at hx
          obtain ⟨old, hold, hx⟩ := Res.bd2_eq_ok hx
          rw [appS_eq, Bx.bd_mk] at hx
          obtain ⟨olds, o1, o2, o3, o4, _⟩ := hr.readC p1 p3 hold
          have hg : cap < n + m := by
            rw [hcap]
            rcases Nat.lt_or_ge (cc / 2) (n + m) with hh | hh
            · exact hh
            · rw [show Nat.ble (Nat.add n m) (Nat.div cc 2) = true from ble_iff.2 hh] at hle; cases hle
          refine p.newFlat (old := old) (olds := olds) (n := n) o2 o3 o4 ?_ hby hroom hg hx
          rw [his]
          rcases had with rfl | ⟨rfl, _⟩
          case inr =>
            have : olds = [] := List.eq_nil_of_length_eq_zero (by have := o2.length; have h4' : old.length = 0 * size := o4; omega)
            rw [this]
            simp [Builtin.firstCells, loadCells, loadCellsFrom]
          exact run_firstCells_some w.drew size n _ n cap olds (by rw [o2.length]; exact o4) (fun j u hj => by rw [World.cell?_drew]; exact o1 j u hj)
      | false =>
        rw [hodd] at hx
        cases hsame : Nat.beq cc (Nat.mul 2 size) with
        | false => rw [hsame] at hx; exact (no_ok hx).elim
        | true =>
          rw [hsame] at hx
          have hcc : cc = 2 * size := beq_iff.1 hsame
          have hx : appGrow size b g o n m vs h = .ok v h' := hx
          have h6 := p6 (by omega)
          rw [show cc / 2 = size by omega] at h6
          unfold appGrow at hx
          obtain ⟨old, hold, hx⟩ := Res.bd2_eq_ok hx
          obtain ⟨blk, hget, hx⟩ := optR hx
          cases hin : and (Nat.ble (Nat.add o (Nat.mul (Nat.add n m) size)) (blk.known g)) (not (Nat.ble 2 blk.fz)) with
          | true =>
            rw [hin] at hx
            have hx : appIn size b g o n m (Nat.mul 2 size) vs h = .ok v h' := hx
            have hk1 : o + (n + m) * size ≤ blk.known g := by
              cases hb : Nat.ble (Nat.add o (Nat.mul (Nat.add n m) size)) (blk.known g) with
              | true => exact ble_iff.1 hb
              | false => rw [hb] at hin; cases hin
            have hkn : blk.known g ≤ y.base + y.sz := by
              obtain ⟨blk2, hget2, hbr⟩ := hr.at' b g y p1
              rw [hget] at hget2; cases hget2
              cases hb3 : w.heap[y.r]? with
              | none => rw [hb3] at hbr; cases hbr
              | some ob =>
              rw [hb3] at hbr
              cases hbr with
              | map es es' clock l a _ _ _ _ _ => subst a; exact Nat.zero_le _
              | sit s pos a _ => subst a; exact Nat.zero_le _
              | iter m0 since0 seen0 step0 a _ => subst a; exact Nat.zero_le _
              | lp q0 fn0 tm0 df0 a => subst a; exact Nat.zero_le _
              | busy o0 a => subst a; exact Nat.zero_le _
              | dfr a => subst a; exact Nat.zero_le _
              | cells cx tx fx qx => have := qx.known; rw [qx.sz] at this; exact this
            have hroom2 : n + m ≤ cap := by
              have : (n + m) * size ≤ cap * size := by omega
              exact Nat.le_of_mul_le_mul_right this hpos
            have hev : Nat.mul 2 size = 2 * size := rfl
            rw [hev] at hx
            have had : ad = ⟨y.r, o - y.base, Option.none⟩ := had.resolve_right (fun hh => by have : m ≠ 0 := (fun h0 => by rw [beq_iff.2 h0] at hm; cases hm); omega)
            subst had
            exact p.inn p1 p2 p3 (fun hh => by omega) (fun _ => by rw [show 2 * size / 2 = size by omega]; exact h6) hroom2 hx
          | false =>
            rw [hin] at hx
            exact p.grow had (fun h0 => by rw [beq_iff.2 h0] at hm; cases hm) p1 p2 p3 h6 hby hroom hold hget hx

/-- 'append' of new zeros to nil. -/
theorem apz_sim {z : AV} {ss sx : Sx} {sv x : Value} {t u el : TypeId} {i : TypeInfo} {zv : Value} {kn : IntKind} {ts : List TypeId} {rest : List Value} (hr : HR e h w) (hu : C.P.underlying t = some (.slice el)) (hu2 : C.P.underlying u = some (.int kn)) (hi : C.P.info? el = some i)
    (hz : i.zero = some zv) (hzz : VRL e z.cells zv.cells.toList) (hzc : ∀ u ∈ z.cells, u.isCell = true) (hzs : z.cells.length = i.size) (hpos : 0 < i.size) (hvs : VR e (ev f ss) sv) (hvx : VR e (ev f sx) x)
    (hx : xApz z.cells i.size i.bytes ss sx c f h = .ok v h') : BOK C (Builtin.append_ (t :: u :: ts).toArray ty (sv :: x :: rest).toArray) e h w v h' := by
  rw [app_two]
  unfold xApz at hx
  rcases hvs.slR hx with ⟨rfl, hx⟩ | ⟨b, g, o, n, cc, cap, y, ad, p1, p2, p3, p4, p5, p6, rfl, had, hx⟩
  · rcases hvx.onInt (no := R2.no) (k := fun _ a => nat? a (.no "append: zeros") fun m => ifb (and (not (Nat.beq m 0)) (roomy i.bytes 0 m)) ((zerosR m z.cells).bd fun vs => R2.new h (.flat vs 0) fun b => .sl b 0 0 m (Nat.mul 2 i.size)) (.no "append: zeros")) with ⟨k1, a, _, rfl, l2⟩ | ⟨q, l2⟩
    · rw [l2] at hx
      rcases nat?_cases a (R2.no "append: zeros") (fun m => ifb (and (not (Nat.beq m 0)) (roomy i.bytes 0 m)) ((zerosR m z.cells).bd fun vs => R2.new h (.flat vs 0) fun b => .sl b 0 0 m (Nat.mul 2 i.size)) (.no "append: zeros")) with ⟨m, rfl, l3⟩ | l3
      · rw [l3] at hx
        obtain ⟨hc, hx⟩ := ifbR hx
        rw [zerosR_eq, Bx.bd_mk] at hx
        obtain ⟨rfl, rfl⟩ := R2.new_ok hx
        rw [Bool.and_eq_true, Bool.not_eq_true'] at hc
        obtain ⟨hm, hroom⟩ := hc
        have hm0 : 0 < m := by
          rcases Nat.eq_zero_or_pos m with hh | hh
          · rw [beq_iff.2 hh] at hm; cases hm
          · exact hh
        have hzs' : zv.cells.size = i.size := by have := hzz.length; simp at this; omega
        have h1 := roomy_le hroom
        have h2 : (2 * (0 + m) + 1024) * 1 ≤ (2 * (0 + m) + 1024) * (i.bytes + 1) := Nat.mul_le_mul_left _ (by omega)
        have h3 : m * i.bytes ≤ (2 * (0 + m) + 1024) * (i.bytes + 1) := Nat.mul_le_mul (by omega) (by omega)
        have h4 : m * i.bytes ≤ 281474976710656 := Nat.le_trans (Nat.le_trans h3 h1) (by decide)
        rw [Nat.mul_one] at h2
        have h5 : 2 * (0 + m) + 1024 ≤ 1073741824 := Nat.le_trans h2 h1
        have h6 : (m : Int) ≤ 9223372036854775807 := by clear h1 h2 h3 h4; omega
        have hrun := Lib.run_append_nil_zeros (P := C.P) w t u ty el i zv k1 kn hu hu2 hi hz m hm0 hpos h6 h4
        clear h1 h2 h3 h4
        have hge := grownCap_ge w m 0 el
        have hcz : ∀ n, Builtin.zeroCells zv.cells n = (copies n zv.cells.toList).toArray := fun n => by
          unfold Builtin.zeroCells
          exact zeros_array zv.cells n _ rfl
        rw [hcz m, hcz, List.append_toArray] at hrun
        have hrd : HR e h w.drew := hr.of_heap rfl
        obtain ⟨e', n1, n2⟩ := new_flat hrd (copies_VRL hzz m) (zerosA_cell hzc m) (rest := copies (grownCap w m 0 el - m) zv.cells.toList) el 0 (0, 0) (fun i _ => by simp) (fun _ i => by simp)
        refine ⟨_, e', _, hrun, (Ext.drew (w' := w.drew) hr rfl rfl rfl).trans n2, ?_⟩
        have hl : ∀ n, (copies n zv.cells.toList).length = n * i.size := fun n => by rw [copies_length, Array.length_toList, hzs']
        exact VR.sl (e := e') h.n 0 0 m (2 * i.size) (grownCap w m 0 el) _ n1 (Nat.le_refl _) (Nat.le_refl _) hge (fun hh => by omega) (fun _ => by
          rw [show 2 * i.size / 2 = i.size by omega]
          simp only [hl]
          rw [← Nat.add_mul, Nat.add_sub_cancel' hge]
          omega)
      · rw [l3] at hx; exact (no_ok hx).elim
    · rw [l2] at hx; exact (no_ok hx).elim
  · exact (no_ok hx).elim

theorem b_append {l : List Operand} {ts : List TypeId} (hg : GR C e) (hf : FR e f a) (hr : HR e h w) (hs : sxL C l = some s) (h1 : mkBuiltin C .append ts s = some co) (hx : xO co c f h = .ok v h') : BOK C (Builtin.append_ ts.toArray ty (l.map a.eval).toArray) e h w v h' := by
  cases ts with
  | nil => cases h1
  | cons t ts => cases ts with
    | nil => cases h1
    | cons u ts => cases s with
      | nil => cases h1
      | cons ss s => cases s with
        | nil => cases h1
        | cons sx s =>
          obtain ⟨x, l, rfl, sa1, hs⟩ := sxL_one hs
          obtain ⟨y, l, rfl, sa2, hs⟩ := sxL_one hs
          simp only [mkBuiltin] at h1
          cases hu : C.P.underlying t with
          | none => rw [hu] at h1; cases h1
          | some d => cases hu2 : C.P.underlying u with
            | none => rw [hu, hu2] at h1; cases d <;> cases h1
            | some d2 =>
              rw [hu, hu2] at h1
              cases d <;> try (cases h1; done)
              case slice el =>
                have hzc : ∀ z zv, zeroOf C el = some z → conv zv = some z → z.plain → z.cells.length = zv.cells.size := by
                  intro z zv _ h2 h3
                  obtain ⟨j2, _⟩ := zero_cells (conv_VR e zv z h2) h3
                  have := j2.length
                  simp at this; omega
                cases d2 <;> try (cases h1; done)
                case slice el2 =>
                  simp only at h1
                  cases hi : C.P.info? el with
                  | none => rw [hi] at h1; cases h1
                  | some i => cases hz : zeroOf C el with
                    | none => rw [hi, hz] at h1; cases h1
                    | some z =>
                      rw [hi, hz] at h1
                      simp only at h1
                      by_cases hc : i.size ≠ 0 ∧ z.cells.length = i.size
                      · rw [if_pos hc] at h1
                        cases h1
                        obtain ⟨zi, zv, i1, i2, i3, i4⟩ := zeroOf_spec hz
                        rw [hi] at i1; cases i1
                        exact app_sim hr hu hi i2 rfl (by rw [← hzc z zv hz i3 i4]; exact hc.2) rfl (Nat.pos_of_ne_zero hc.1) (.inr ⟨rfl, el2, hu2⟩) (sx_VR hg hf sa1) (sx_VR hg hf sa2) hx
                      · rw [if_neg hc] at h1; cases h1
                case int kn =>
                  simp only at h1
                  cases hi : C.P.info? el with
                  | none => rw [hi] at h1; cases h1
                  | some i => cases hz : zeroOf C el with
                    | none => rw [hi, hz] at h1; cases h1
                    | some z =>
                      rw [hi, hz] at h1
                      simp only at h1
                      by_cases hc : i.size ≠ 0 ∧ z.cells.length = i.size
                      · rw [if_pos hc] at h1
                        cases h1
                        obtain ⟨zi, zv, i1, i2, i3, i4⟩ := zeroOf_spec hz
                        rw [hi] at i1; cases i1
                        obtain ⟨j2, j3⟩ := zero_cells (conv_VR e zv z i3) i4
                        exact apz_sim (c := c) hr hu hu2 hi i2 j2 j3 hc.2 (Nat.pos_of_ne_zero hc.1) (sx_VR hg hf sa1) (sx_VR hg hf sa2) hx
                      · rw [if_neg hc] at h1; cases h1
                case string =>
                  simp only at h1
                  cases hi : C.P.info? el with
                  | none => rw [hi] at h1; cases h1
                  | some i => cases hz : zeroOf C el with
                    | none => rw [hi, hz] at h1; cases h1
                    | some z =>
                      rw [hi, hz] at h1
                      simp only at h1
                      by_cases hc : i.size = 1 ∧ z.cells.length = 1
                      · rw [if_pos hc] at h1
                        cases h1
                        obtain ⟨zi, zv, i1, i2, i3, i4⟩ := zeroOf_spec hz
                        rw [hi] at i1; cases i1
                        exact app_sim hr hu hi i2 hc.1 (by rw [← hzc z zv hz i3 i4]; exact hc.2) rfl Nat.zero_lt_one (.inl ⟨rfl, hu2, rfl⟩) (sx_VR hg hf sa1) (sx_VR hg hf sa2) hx
                      · rw [if_neg hc] at h1; cases h1
end
end Go.Ab

/- Each operation, done on named blocks, is what the model does (fifteenth part: calls; all operations). -/
namespace Go.Ab
open Go
variable {C : Cx}

theorem run_callFunc {P : Program} {w : World} {g : FuncId} {fn : Func} {b : Code} {args : Array Value} (h1 : P.funcs[g]? = some fn) (h2 : (fn.name == "runtime.NumGoroutine") = false) (h3 : fn.body = some b) : (callFunc g args).run P w = .ok (.enter g args) w := by
  have h4 : ¬ fn.name = "runtime.NumGoroutine" := by simpa using h2
  simp [callFunc, h1, h4, h3]

theorem evL_forced (f : Fr) (l : List Sx) : forceL (evL f l) = .mk (evL f l) := forceL_eq _

/-- A call that is what the model does. -/
theorem call_wp {o : Oper} {c : CallT} (hc : CallOK C c) {g : Nat} {args : List AV} {args' : List Value} {h h' : Hp} {v : AV} {e : Emb} {a : Act} {w : World} (hgy : Nat.ble yF g = false) (hx : c g args h = .ok v h') (hg : GR C e) (hv : VRL e args args') (hr : HR e h w)
    (hex : (execOp a.eval o).run C.P w = (callFunc g args'.toArray).run C.P w) {K : Act → World → Prop} {Q : Exit → Act → World → Prop}
    (hk : ∀ e' v' w', Ext e h w e' h' w' → VR e' v v' → K (a.put o.dst v') w') : o.ow C.P a w K Q := by
  rcases hc g args h v h' hx with ⟨_, ⟨fn, b, h1, h2, h3⟩, hcall⟩ | ⟨_, hval⟩ | ⟨rfl, _⟩
  · intro ro
    refine ⟨fun _ _ => trivial, ?_⟩
    rw [show (fw ro).round = ro from rfl, semAt_run (hex.trans (run_callFunc h1 h2 h3)) (fun _ hh => by cases hh)]
    rw [Oper.uponIn_enter]
    refine ⟨(fun hh => by cases hh), callsIn_fw (Calls.mono (hcall e w args' hg hv hr) fun en w' he => ?_)⟩
    obtain ⟨v', e', rfl, h4, h5⟩ := he
    exact hk e' v' w' h5 h4
  · obtain ⟨v', w', e', h1, h2, h3⟩ := hval e w args' hg hv hr
    exact wp_val (hex.trans h1) (hk e' v' w' h3 h2)
  · cases hgy
/-- A round of a loop over a function. -/
theorem yld_wp {o : Oper} {c : CallT} (hc : CallOK C c) {xs : List AV} {xs' : List Value} {m : Nat} {x : Loc} {h h' : Hp} {v : AV} {e : Emb} {a : Act} {w : World} (hx : c yF (xs ++ [.ptr m 0 0]) h = .ok v h') (hm : e m 0 = some x) (hb : x.base ≤ x.lo) (hg : GR C e) (hv : VRL e xs xs') (hr : HR e h w)
    (hex : (execOp a.eval o).run C.P w = (Instr.yield x.r xs'.toArray).run C.P w) {K : Act → World → Prop} {Q : Exit → Act → World → Prop}
    (hk : ∀ e' v' w', Ext e h w e' h' w' → VR e' v v' → K (a.put o.dst v') w') : o.ow C.P a w K Q := by
  rcases hc _ _ h v h' hx with ⟨hh, _⟩ | ⟨hh, _⟩ | ⟨_, hy⟩
  · cases hh
  · cases hh
  · obtain ⟨fn, tmps, assign, body, h1, h2⟩ := hy e w xs xs' m x rfl hm hb hg hv hr
    intro ro
    refine ⟨fun _ _ => trivial, ?_⟩
    rw [show (fw ro).round = ro from rfl, semAt_run (hex.trans h1) (fun _ hh => by cases hh)]
    rw [Oper.uponIn_round]
    have h3 : RoundIn (fw ro) (0 - 1) C.P x.r fn tmps assign body w fun en w' => ∃ v' e', en = .returned v' ∧ VR e' v v' ∧ Ext e h w e' h' w' := h2
    refine ⟨(fun hh => by cases hh), RoundIn.mono h3 fun en w' he => ?_⟩
    obtain ⟨v', e', rfl, h4, h5⟩ := he
    exact hk e' v' w' h5 h4

theorem sim_call {o : Oper} {cl : Call} (ho : o.op = .call cl) : Sim C o (xO (mk C o)) := by
  intro c hc f h v h' e a wd hx hg hf hr K Q hk
  simp only [mk, ho] at hx
  obtain ⟨co, h1, hx⟩ := orBad_ok hx
  cases hs : sxL C cl.args.toList with
  | none => rw [hs] at h1; cases hcc : cl.callee <;> rw [hcc] at h1 <;> first | (cases h1; done) | (rename_i q; cases q <;> cases h1)
  | some s =>
    rw [hs] at h1
    have hargs : cl.args.map a.eval = (cl.args.toList.map a.eval).toArray := (mapA_toList _ _).symm
    have hvl := sxL_VR hg hf hs
    cases hcc : cl.callee with
    | invoke r n => rw [hcc] at h1; cases h1
    | builtin b =>
      rw [hcc] at h1
      have h1 : mkBuiltin C b cl.argTypes.toList s = some co := h1
      obtain ⟨cs, hex⟩ := exec_builtin (C := C) ho hcc a.eval wd
      have fin : ∀ sv : Sem Value, builtin b cl.argTypes o.type cs (cl.args.map a.eval) = (do pure (.value (← sv))) → BOK C sv e h wd v h' → o.ow C.P a wd K Q := by
        intro sv hb ⟨v', e', w', k1, k2, k3⟩
        refine wp_val (v := v') (w' := w') ?_ (hk e' v' w' k2 k3)
        rw [hex, hb]
        simp only [Sem.run_bind, k1, Result.andThen_ok, Sem.run_pure]
      have hty : cl.argTypes.toList.toArray = cl.argTypes := by simp
      cases b <;> try (have h1 : (none : Option CO) = some co := h1; cases h1; done)
      case append => exact fin _ rfl (by have := b_append (ty := o.type) hg hf hr hs h1 hx; rw [hty] at this; rw [hargs]; exact this)
      case cap => exact fin _ rfl (by have := b_cap (ty := o.type) hg hf hr hs h1 hx; rw [hty] at this; rw [hargs]; exact this)
      case copy => exact fin _ rfl (by have := b_copy (ty := o.type) hg hf hr hs h1 hx; rw [hty] at this; rw [hargs]; exact this)
      case clear => exact fin _ rfl (by have := b_clear (ty := o.type) hg hf hr hs h1 hx; rw [hty] at this; rw [hargs]; exact this)
      case delete => exact fin _ rfl (by have := b_delete (ty := o.type) hg hf hr hs h1 hx; rw [hty] at this; rw [hargs]; exact this)
      case len => exact fin _ rfl (by have := b_len (ty := o.type) hg hf hr hs h1 hx; rw [hty] at this; rw [hargs]; exact this)
      case max => exact fin _ rfl (by have := b_max (ty := o.type) hg hf hr hs h1 hx; rw [hty] at this; rw [hargs]; exact this)
      case min => exact fin _ rfl (by have := b_min (ty := o.type) hg hf hr hs h1 hx; rw [hty] at this; rw [hargs]; exact this)
    | value fo =>
      rw [hcc] at h1
      have hdyn : ∀ sf, sx C fo = some sf → xO (.calld sf s) c f h = .ok v h' → o.ow C.P a wd K Q := by
        intro sf hsf hx
        have hx : (ev f sf).onFn R2.no (fun g first caps => (forceL (evL f s)).bd fun a => (appS a caps).bd fun a => (appS first a).bd fun a => c g a h) = .ok v h' := hx
        obtain ⟨g, fa, fb, qq, hx⟩ := (sx_VR hg hf hsf).fnR hx
        rw [forceL_eq, Bx.bd_mk, appS_eq, Bx.bd_mk, appS_eq, Bx.bd_mk] at hx
        generalize q1 : a.eval fo = fv at qq
        cases qq with
        | fn fa' fb' hgy q2 q3 =>
          refine call_wp hc hgy hx hg (q2.append (hvl.append q3)) hr ?_ hk
          simp only [execOp, ho, resolve, hcc, Deferred.ofValue, q1, Sem.run_bind, Sem.run_pure, Result.andThen_ok, invoke]
          congr 2
          apply Array.toList_inj.1
          simp
        | yld m y hgy hfa hfb hm hb =>
          subst hgy hfa hfb
          refine yld_wp hc hx hm hb hg hvl hr ?_ hk
          simp only [execOp, ho, resolve, hcc, Deferred.ofValue, q1, Sem.run_bind, Sem.run_pure, Result.andThen_ok, invoke]
          congr 2
          apply Array.toList_inj.1
          simp
      cases fo with
      | func g =>
        have h1 : ifb (Nat.ble yF g) none (some (CO.call g s)) = some co := h1
        cases hgy : Nat.ble yF g with
        | true => rw [hgy] at h1; cases h1
        | false =>
        rw [hgy] at h1
        cases h1
        have hx : (forceL (evL f s)).bd (fun a => c g a h) = .ok v h' := hx
        rw [forceL_eq, Bx.bd_mk] at hx
        refine call_wp hc hgy hx hg hvl hr ?_ hk
        simp only [execOp, ho, resolve, hcc, Deferred.ofValue, Act.eval, Sem.run_bind, Sem.run_pure, Result.andThen_ok, invoke]
        congr 2
        apply Array.toList_inj.1
        simp
      | tmp t => obtain ⟨sf, h2, rfl⟩ := map_ok (show (sx C (.tmp t)).map _ = some co from h1); exact hdyn sf h2 hx
      | const k => obtain ⟨sf, h2, rfl⟩ := map_ok (show (sx C (.const k)).map _ = some co from h1); exact hdyn sf h2 hx
      | global k => obtain ⟨sf, h2, rfl⟩ := map_ok (show (sx C (.global k)).map _ = some co from h1); exact hdyn sf h2 hx

theorem sim_typeAssert {o : Oper} {x : Operand} {xt t : TypeId} {ok : Bool} (ho : o.op = .typeAssert x xt t ok) : Sim C o (xO (mk C o)) := by
  intro c _ f h v h' e a wd hx hg hf hr K Q hk
  simp only [mk, ho] at hx
  obtain ⟨co, h1, hx⟩ := orBad_ok hx
  cases hu : C.P.underlying t with
  | none => rw [hu] at h1; cases hs : sx C x <;> rw [hs] at h1 <;> cases h1
  | some d =>
    cases hs : sx C x with
    | none => rw [hu, hs] at h1; cases d <;> cases h1
    | some s =>
      rw [hu, hs] at h1
      have hni : ∀ m, d ≠ .interface m := fun m hh => by subst hh; cases h1
      have h1 : co = .ta t ok s := by cases d <;> first | (cases h1; rfl) | cases h1
      subst h1
      have hx : (ev f s).onIfc R2.no (fun u v => ifb (Nat.beq u t) (.ok (okTup ok v true) h) (.no "typeAssert: another type")) = .ok v h' := hx
      rcases (sx_VR hg hf hs).onIfc (no := R2.no) (k := fun u v => ifb (Nat.beq u t) (.ok (okTup ok v true) h) (.no "typeAssert: another type")) with ⟨u, w, w', _, h2, h3, h4⟩ | ⟨q, h4⟩
      · rw [h4] at hx
        cases hb : Nat.beq u t with
        | false => rw [hb] at hx; exact (no_ok hx).elim
        | true =>
          rw [hb] at hx
          cases hx
          have hut := beq_iff.1 hb
          subst hut
          refine wp_val (v := if ok then .tuple #[w', .bool true] else w') (w' := wd) ?_ (hk e _ wd (.refl hr) ?_)
          · simp only [execOp, ho, h2, Instr.typeAssert, Sem.run_bind, run_und hu, Result.andThen_ok]
            cases d <;> first | exact absurd rfl (hni _) | (cases ok <;> simp)
          · cases ok
            · exact h3
            · exact .tup _ [w', .bool true] (.cons _ _ _ _ h3 (.cons _ _ _ _ (.bool true) .nil))
      · rw [h4] at hx; exact (no_ok hx).elim

theorem sim_bad {o : Oper} {w : String} (h : mk C o = .bad w) : Sim C o (xO (mk C o)) := by
  intro c _ f h2 v h' e a wd hx
  rw [h] at hx
  exact (no_ok (w := w) hx).elim

/-- Every operation. -/
theorem mk_sim (o : Oper) : Sim C o (xO (mk C o)) := by
  cases ho : o.op with
  | move x => have := sim_mv (C := C) (o := o) (x := x) (fun ρ => by simp only [execOp, ho]) (w := "move"); simpa only [mk, ho] using this
  | assign x => have := sim_mv (C := C) (o := o) (x := x) (fun ρ => by simp only [execOp, ho]) (w := "assign"); simpa only [mk, ho] using this
  | pick c a b => exact sim_pick ho
  | alloc t => exact sim_alloc ho
  | box t x => exact sim_box ho
  | build t ps => exact sim_build ho
  | buildSlice t n ps => exact sim_buildSlice ho
  | load t x => exact sim_load ho
  | store t x y => exact sim_store ho
  | nilCheck x => exact sim_nilCheck ho
  | binOp op t x y yt => exact sim_binOp ho
  | unOp u t x => cases u with
    | neg => exact sim_neg ho
    | not => exact sim_not ho
    | xor => exact sim_xor ho
    | plus => exact sim_bad (w := "operation") (by simp only [mk, ho])
  | convert s d x => exact sim_convert ho
  | makeInterface t x => exact sim_makeInterface ho
  | makeFunc g first caps => cases g with
    | func g => exact sim_makeFunc ho
    | _ => exact sim_bad (w := "operation") (by simp only [mk, ho])
  | makeMap t r => exact sim_makeMap ho
  | makeSlice t l c => exact sim_makeSlice ho
  | slice t x lo hi mx => exact sim_slS ho
  | fieldAddr t x i => exact sim_fieldAddr ho
  | field t x i => exact sim_field ho
  | indexAddr t x y => exact sim_indexAddr ho
  | index t x y => exact sim_index_str ho
  | lookup t x y ok => exact sim_lookup ho
  | mapUpdate t x y z => exact sim_mapUpdate ho
  | insert t x y z => exact sim_insert ho
  | range t x => exact sim_range ho
  | next x b => cases b with
    | true => exact sim_next ho
    | false => exact sim_bad (w := "operation") (by simp only [mk, ho])
  | extract x i => exact sim_extract ho
  | typeAssert x a b c => exact sim_typeAssert ho
  | call c => exact sim_call ho
  | _ => exact sim_bad (w := "operation") (by simp only [mk, ho])
end Go.Ab

/- Code, done on named blocks, is what the model does: regions in text order, control. -/
namespace Go.Ab
open Go
variable {C : Cx} {ds : List Deferred} {R : Option Nat → Prop}

/-- Slots, and the model's, of which there are n at least. -/
def FN (ds : List Deferred) (n : Nat) (e : Emb) (f : Fr) (a : Act) : Prop := FR e f a ∧ (n ≤ a.tmps.size ∧ a.defers = ds)
theorem FN.mono {n : Nat} {e e' : Emb} (h : e.le e') {f : Fr} {a : Act} (p : FN ds n e f a) : FN ds n e' f a := ⟨p.1.mono h, p.2⟩

theorem slot_eq (f : Fr) (t : Nat) : slot f t = (getP (path t) f).getD undefA := by
  show Option.rec (motive := fun _ => AV) undefA (fun v => v) (getP (path t) f) = _
  cases getP (path t) f <;> rfl
theorem slot_set (f : Fr) (d t : Nat) (v : AV) : slot (setT v (path d) f) t = if t = d then v else slot f t := by
  rw [slot_eq, slot_eq, getP_path]
  by_cases h : t = d
  · rw [if_pos h, if_pos h]; rfl
  · rw [if_neg h, if_neg h]

theorem FN.put {n : Nat} {e : Emb} {f : Fr} {a : Act} (h : FN ds n e f a) {d : Nat} (hd : d < n) {v : AV} {v' : Value} (hv : VR e v v') : FN ds n e (setT v (path d) f) (a.put (some d) v') := by
  refine ⟨⟨fun t => ?_, h.1.2⟩, by simpa [Act.put] using h.2.1, h.2.2⟩
  rw [slot_set]
  by_cases ht : t = d
  · subst ht
    rw [if_pos rfl]
    have : t < a.tmps.size := Nat.lt_of_lt_of_le hd h.2.1
    simpa [Act.put, this] using hv
  · rw [if_neg ht]
    have : (a.put (some d) v').tmps.getD t undef = a.tmps.getD t undef := by
      simp [Act.put, Array.getElem?_setIfInBounds_ne (Ne.symm ht)]
    rw [this]; exact h.1.1 t
theorem FN.putO {n : Nat} {e : Emb} {f : Fr} {a : Act} (h : FN ds n e f a) {d : Option Nat} (hd : ∀ t, d = some t → t < n) {v : AV} {v' : Value} (hv : VR e v v') : FN ds n e (putD (d.map path) v f).out (a.put d v') := by
  cases d with
  | none => exact h
  | some d =>
    show FN ds n e (setP v (path d) f).out _
    rw [setP_eq]; exact h.put (hd d rfl) hv
theorem putD_mk (d : Option (List Bool)) (v : AV) (f : Fr) : putD d v f = .mk (putD d v f).out := Bx.eta _

/-- A guard holds for us where it does for the model. -/
theorem guard_sim {e : Emb} {f : Fr} {a : Act} (hf : FR e f a) {ops : Array Oper} {o : Oper} {g : Option (List Bool × Bool)} (hg : mkGuard ops.toList o = some g) (hok : okG g f = true) : wantG g f = Region.wanted o (yielded ops a.tmps) := by
  unfold mkGuard at hg
  cases ho : o.guard with
  | none =>
    rw [ho] at hg
    cases hg
    simp only [Region.wanted, ho]; rfl
  | some jw =>
    obtain ⟨j, want⟩ := jw
    rw [ho] at hg
    simp only [nthA_eq, Array.getElem?_toList] at hg
    cases hj : ops[j]? with
    | none => rw [hj] at hg; cases hg
    | some p =>
      rw [hj] at hg
      simp only at hg
      cases hd : p.dst with
      | none => rw [hd] at hg; cases hg
      | some t =>
        rw [hd] at hg
        cases hg
        have ht := hf.1 t
        rw [slot_eq] at ht
        have h1 : wantG (some (path t, want)) f = ((getP (path t) f).getD undefA).onBool (fun _ => false) (fun b => ifb want b (not b)) := by
          show Option.rec (motive := fun _ => Bool) false (fun v => v.onBool (fun _ => false) fun b => ifb want b (not b)) (getP (path t) f) = _
          cases getP (path t) f <;> rfl
        have h4 : ∀ u, (getP (path t) f).getD undefA ≠ .nil u := by
          intro u hh
          cases hgp : getP (path t) f with
          | none => rw [hgp] at hh; cases hh
          | some v =>
            rw [hgp] at hh
            have hh : v = .nil u := hh
            have hok : Option.rec (motive := fun _ => Bool) true (fun v => not v.isNilv) (getP (path t) f) = true := hok
            rw [hgp, hh] at hok
            cases hok
        rw [h1]
        generalize (getP (path t) f).getD undefA = v at ht h4
        have h2 : Region.wanted o (yielded ops a.tmps) = (yielded ops a.tmps j == some want) := by simp only [Region.wanted, ho]
        rw [h2]
        have h3 : yielded ops a.tmps j = match a.tmps.getD t undef with | .bool b => some b | _ => none := by
          unfold yielded
          rw [hj]
          simp only [Option.bind_some, hd, Array.getD_eq_getD_getElem?]
          cases a.tmps[t]? with
          | none => rfl
          | some u => cases u <;> rfl
        rw [h3]
        generalize a.tmps.getD t undef = v' at ht
        cases ht with
        | bool b => cases b <;> cases want <;> rfl
        | any => exact absurd rfl (h4 _)
        | opq => exact absurd rfl (h4 _)
        | _ => rfl

/-- What a piece of code comes to, and what is to be shown of it (of a region, whose deferred calls stay). -/
def Post0 (_C : Cx) (ds : List Deferred) (n : Nat) (e : Emb) (h : Hp) (w : World) (Q : Exit → Act → World → Prop) : Out → Prop
  | .norm f' h' => ∀ e' a' w', Ext e h w e' h' w' → FN ds n e' f' a' → Q .normal a' w'
  | .exit i f' h' => ∀ e' a' w', Ext e h w e' h' w' → FN ds n e' f' a' → Q (.exit i) a' w'
  | .ret f' h' => ∀ e' a' w', Ext e h w e' h' w' → FN ds n e' f' a' → Q .ret a' w'
  | .no _ => False
theorem Post0.after {n : Nat} {e e' : Emb} {h h' : Hp} {w w' : World} {Q : Exit → Act → World → Prop} {o : Out} (p : Post0 C ds n e h w Q o) (x : Ext e h w e' h' w') : Post0 C ds n e' h' w' Q o := by
  cases o with
  | norm f h2 => exact fun e2 a2 w2 y hf => p e2 a2 w2 (x.trans y) hf
  | exit i f h2 => exact fun e2 a2 w2 y hf => p e2 a2 w2 (x.trans y) hf
  | ret f h2 => exact fun e2 a2 w2 y hf => p e2 a2 w2 (x.trans y) hf
  | no s => exact p

/-! ### Deferred calls: none but the marks of loops over functions, of which nothing was deferred; their blocks came to be from a place on -/
def DF (b0 : Nat) (e : Emb) (w : World) (l : List Deferred) : Prop := (∀ d ∈ l, ∃ D, d = { target := .collected D, args := #[] } ∧ w.heap[D]? = some (.deferred (some [])) ∧ (∀ b g x, e b g = some x → x.r ≠ D) ∧ b0 ≤ D) ∧ l.Nodup ∧ b0 ≤ w.heap.size
theorem DF.nil {b0 : Nat} (e : Emb) {w : World} (h : b0 ≤ w.heap.size) : DF b0 e w [] := ⟨(fun d hd => by cases hd), .nil, h⟩
theorem DF.ext {b0 : Nat} {e e' : Emb} {h h' : Hp} {w w' : World} (x : Ext e h w e' h' w') {l : List Deferred} (p : DF b0 e w l) : DF b0 e' w' l := by
  refine ⟨fun d hd => ?_, p.2.1, Nat.le_trans p.2.2 x.size⟩
  obtain ⟨D, h1, h2, h3, h0⟩ := p.1 d hd
  have hlt : D < w.heap.size := (Array.getElem?_eq_some_iff.1 h2).1
  refine ⟨D, h1, (x.frame D hlt fun b g y hy hr => absurd hr (h3 b g y hy)).trans h2, fun b g y hy hr => ?_, h0⟩
  rcases x.blocks b g y hy with ⟨g0, y0, h4, h5⟩ | h4
  · exact h3 b g0 y0 h4 (h5.trans hr)
  · omega
theorem DF.sub {b0 : Nat} {e e' : Emb} {w : World} (h : e.le e') {l : List Deferred} (p : DF b0 e' w l) : DF b0 e w l := ⟨fun d hd =>
  let ⟨D, h1, h2, h3, h0⟩ := p.1 d hd; ⟨D, h1, h2, fun b g x hx => h3 b g x (h b g x hx), h0⟩, p.2⟩
/-- Another object, that is no such block. -/
theorem DF.other {b0 : Nat} {e : Emb} {w w' : World} {r : Nat} (hr : ∀ o, w.heap[r]? ≠ some (.deferred o)) (hw : ∀ k, k ≠ r → w'.heap[k]? = w.heap[k]?) (hs : w.heap.size ≤ w'.heap.size) {l : List Deferred} (p : DF b0 e w l) : DF b0 e w' l := ⟨fun d hd =>
  let ⟨D, h1, h2, h3, h0⟩ := p.1 d hd; ⟨D, h1, (hw D fun hh => hr _ (hh ▸ h2)).trans h2, h3, h0⟩, p.2.1, Nat.le_trans p.2.2 hs⟩
theorem DF.cons {b0 : Nat} {e : Emb} {w w0 : World} {l : List Deferred} (h1 : w.heap[w0.heap.size]? = some (.deferred (some []))) (h2 : ∀ b g x, e b g = some x → x.r ≠ w0.heap.size) {e0 : Emb} (p0 : DF b0 e0 w0 l) (p : DF b0 e w l) : DF b0 e w ({ target := .collected w0.heap.size, args := #[] } :: l) := by
  refine ⟨fun d hd => ?_, List.nodup_cons.2 ⟨fun hm => ?_, p.2.1⟩, p.2.2⟩
  · rcases List.mem_cons.1 hd with rfl | hd
    · exact ⟨_, rfl, h1, h2, p0.2.2⟩
    · exact p.1 d hd
  · obtain ⟨D, k1, k2, _⟩ := p0.1 _ hm
    cases k1
    exact Nat.lt_irrefl _ (Array.getElem?_eq_some_iff.1 k2).1
theorem put_defers (a : Act) (d : Option Tmp) (v : Value) : (a.put d v).defers = a.defers := by cases d <;> rfl

/-- What a piece of code comes to, and what is to be shown of it. -/
def Post (_C : Cx) (b0 : Nat) (n : Nat) (e : Emb) (h : Hp) (w : World) (Q : Exit → Act → World → Prop) : Out → Prop
  | .norm f' h' => ∀ e' a' w', Ext e h w e' h' w' → FN a'.defers n e' f' a' → DF b0 e' w' a'.defers → Q .normal a' w'
  | .exit i f' h' => ∀ e' a' w', Ext e h w e' h' w' → FN a'.defers n e' f' a' → DF b0 e' w' a'.defers → Q (.exit i) a' w'
  | .ret f' h' => ∀ e' a' w', Ext e h w e' h' w' → FN a'.defers n e' f' a' → DF b0 e' w' a'.defers → Q .ret a' w'
  | .no _ => False
theorem Post.after {b0 n : Nat} {e e' : Emb} {h h' : Hp} {w w' : World} {Q : Exit → Act → World → Prop} {o : Out} (p : Post C b0 n e h w Q o) (x : Ext e h w e' h' w') : Post C b0 n e' h' w' Q o := by
  cases o with
  | norm f h2 => exact fun e2 a2 w2 y hf => p e2 a2 w2 (x.trans y) hf
  | exit i f h2 => exact fun e2 a2 w2 y hf => p e2 a2 w2 (x.trans y) hf
  | ret f h2 => exact fun e2 a2 w2 y hf => p e2 a2 w2 (x.trans y) hf
  | no s => exact p

theorem mkS_spec {n : Nat} {ops : List Oper} {o : Oper} : (∃ g, mkGuard ops o = some g ∧ mkS C n ops o = ⟨mk C o, g, o.dst.map path, false⟩ ∧ ∀ t, o.dst = some t → t < n) ∨ ∃ w, mkS C n ops o = ⟨.bad w, none, none, false⟩ := by
  unfold mkS
  cases hg : mkGuard ops o with
  | none => cases o.dst <;> exact .inr ⟨_, rfl⟩
  | some g => cases hd : o.dst with
    | none => exact .inl ⟨g, rfl, rfl, fun t ht => by cases ht⟩
    | some d =>
      by_cases hdn : d < n
      · simp only [if_pos hdn]
        exact .inl ⟨g, rfl, rfl, fun t ht => by cases ht; exact hdn⟩
      · simp only [if_neg hdn]
        exact .inr ⟨_, rfl⟩

theorem seq_sim {n : Nat} {ops : Array Oper} {c : CallT} (hc : CallOK C c) {Q : Exit → Act → World → Prop} : ∀ (l : List Oper) (s : Nat), (∀ i o, l[i]? = some o → ops[s + i]? = some o) → ∀ (f : Fr) (h : Hp) (e : Emb) (a : Act) (w : World),
    GR C e → FN ds n e f a → HR e h w → Post0 C ds n e h w Q (runR (mkSeq C n ops.toList l) c f h) → owOps C.P ops Q (List.range' s l.length) a w := by
  intro l
  induction l with
  | nil =>
    intro s _ f h e a w _ hf hr hp
    exact hp e a w (.refl hr) hf
  | cons o l ih =>
    intro s hl f h e a w hg hf hr hp
    have ho : ops[s]? = some o := by simpa using hl 0 o rfl
    have hl' : ∀ i o, l[i]? = some o → ops[s + 1 + i]? = some o := by
      intro i o hi
      have := hl (i + 1) o (by simpa using hi)
      rw [show s + 1 + i = s + (i + 1) by omega]; exact this
    have hp : Post0 C ds n e h w Q (oneS (mkS C n ops.toList o) (runR (mkSeq C n ops.toList l)) c f h) := hp
    show owOps C.P ops Q (s :: List.range' (s + 1) l.length) a w
    simp only [owOps, ho]
    rcases mkS_spec (C := C) (n := n) (ops := ops.toList) (o := o) with ⟨g, g1, g2, g3⟩ | ⟨q, g2⟩
    · rw [g2] at hp
      cases hok : okG g f with
      | false =>
        have hp : Post0 C ds n e h w Q (ifb (okG g f) (ifb (wantG g f) ((xO (mk C o) c f h).bd Out.no (doneS ⟨mk C o, g, o.dst.map path, false⟩ (runR (mkSeq C n ops.toList l)) c f)) (doneS ⟨mk C o, g, o.dst.map path, false⟩ (runR (mkSeq C n ops.toList l)) c f undefA h)) (.no "guard")) := hp
        rw [hok] at hp; exact hp.elim
      | true =>
      have hgs := guard_sim hf.1 g1 hok
      have hp : Post0 C ds n e h w Q (ifb (okG g f) (ifb (wantG g f) ((xO (mk C o) c f h).bd Out.no (doneS ⟨mk C o, g, o.dst.map path, false⟩ (runR (mkSeq C n ops.toList l)) c f)) (doneS ⟨mk C o, g, o.dst.map path, false⟩ (runR (mkSeq C n ops.toList l)) c f undefA h)) (.no "guard")) := hp
      rw [hok, ifb_true] at hp
      have hp : Post0 C ds n e h w Q (ifb (wantG g f) ((xO (mk C o) c f h).bd Out.no (doneS ⟨mk C o, g, o.dst.map path, false⟩ (runR (mkSeq C n ops.toList l)) c f)) (doneS ⟨mk C o, g, o.dst.map path, false⟩ (runR (mkSeq C n ops.toList l)) c f undefA h)) := hp
      rw [hgs] at hp
      have hdone : ∀ (v : AV) (h2 : Hp), doneS ⟨mk C o, g, o.dst.map path, false⟩ (runR (mkSeq C n ops.toList l)) c f v h2 = runR (mkSeq C n ops.toList l) c (putD (o.dst.map path) v f).out h2 := by
        intro v h2
        show v.force (fun v => (putD (o.dst.map path) v f).bd fun f => runR (mkSeq C n ops.toList l) c f h2) = _
        rw [force_eq, putD_mk]; rfl
      cases hw : Region.wanted o (yielded ops a.tmps) with
      | true =>
        rw [hw, ifb_true] at hp
        simp only [if_true]
        left
        cases hx : xO (mk C o) c f h with
        | no q => rw [hx] at hp; exact hp.elim
        | ok v h2 =>
          rw [hx] at hp
          have hp : Post0 C ds n e h w Q (doneS ⟨mk C o, g, o.dst.map path, false⟩ (runR (mkSeq C n ops.toList l)) c f v h2) := hp
          rw [hdone] at hp
          refine mk_sim o c hc f h v h2 e a w hx hg hf.1 hr _ Q fun e' v' w' hext hv => ?_
          exact ih (s + 1) hl' _ h2 e' _ w' (hg.mono hext.le) ((hf.mono hext.le).putO g3 hv) hext.hr (hp.after hext)
      | false =>
        rw [hw, ifb_false, hdone] at hp
        simp only [Bool.false_eq_true, if_false]
        exact ih (s + 1) hl' _ h e _ w hg (hf.putO g3 (undef_VR e)) hr hp
    · rw [g2] at hp
      exact False.elim hp

/-- Regions whose order is drawn. -/
def DrawOK (C : Cx) : Prop := ∀ (R : Option Nat → Prop) (ds : List Deferred) (n id : Nat) (ops : Array Oper) (c : CallT), CallOK C c → ∀ (f : Fr) (h : Hp) (e : Emb) (a : Act) (w : World) (Q : Exit → Act → World → Prop),
  GR C e → FN ds n e f a → HR e h w → Post0 C ds n e h w Q (runR (mkDraw C n ops) c f h) → (Code.region id ops true).ow R C.P Q a w

/-- Of a region: the deferred calls are those that there were. -/
theorem Post.region {b0 n : Nat} {e : Emb} {h : Hp} {w : World} {Q : Exit → Act → World → Prop} {o : Out} (p : Post C b0 n e h w Q o) (hd : DF b0 e w ds) : Post0 C ds n e h w Q o := by
  cases o with
  | norm f h2 => exact fun e2 a2 w2 y hf => p e2 a2 w2 y (by rw [hf.2.2]; exact hf) (by rw [hf.2.2]; exact hd.ext y)
  | exit i f h2 => exact fun e2 a2 w2 y hf => p e2 a2 w2 y (by rw [hf.2.2]; exact hf) (by rw [hf.2.2]; exact hd.ext y)
  | ret f h2 => exact fun e2 a2 w2 y hf => p e2 a2 w2 y (by rw [hf.2.2]; exact hf) (by rw [hf.2.2]; exact hd.ext y)
  | no s => exact p

/-- Code that is done as it should be. -/
def CodeOK (C : Cx) (R : Option Nat → Prop) (n : Nat) (cd : Code) : Prop := ∀ (b0 k : Nat) (c : CallT), CallOK C c → ∀ (f : Fr) (h : Hp) (e : Emb) (a : Act) (w : World) (Q : Exit → Act → World → Prop),
  GR C e → FN a.defers n e f a → DF b0 e w a.defers → HR e h w → Post C b0 n e h w Q (runC (mkC C n cd) k c f h) → cd.ow R C.P Q a w
end Go.Ab

/- Operations: which slots they look at, what they do with memory. -/
namespace Go.Ab
open Go

/-! ### The slots that are looked at -/
theorem unpath_cons (b : Bool) (r : List Bool) : unpath (b :: r) = if b = true then 2 * unpath r + 1 else 2 * (unpath r + 1) := by cases b <;> rfl
theorem path_unpath : ∀ p : List Bool, path (unpath p) = p
  | [] => rfl
  | b :: r => by
    rw [unpath_cons]
    cases b with
    | true =>
      rw [if_pos rfl, path_succ, show 2 * unpath r % 2 = 0 by omega, show 2 * unpath r / 2 = unpath r by omega, path_unpath r]; rfl
    | false =>
      rw [if_neg (by decide), show 2 * (unpath r + 1) = (2 * unpath r + 1) + 1 by omega, path_succ, show (2 * unpath r + 1) % 2 = 1 by omega, show (2 * unpath r + 1) / 2 = unpath r by omega, path_unpath r]; rfl
theorem unpath_path (t : Nat) : unpath (path t) = t := path_inj _ _ (path_unpath _)

/-- Frames that agree at the slots of a mask. -/
def Agree (m : Nat) (f f' : Fr) : Prop := ∀ t, m.testBit t = true → slot f t = slot f' t
theorem Agree.or {a b : Nat} {f f' : Fr} (h : Agree (Nat.lor a b) f f') : Agree a f f' ∧ Agree b f f' := by
  constructor
  · intro t ht
    exact h t (by show (a ||| b).testBit t = true; rw [Nat.testBit_or, ht]; rfl)
  · intro t ht
    exact h t (by show (a ||| b).testBit t = true; rw [Nat.testBit_or, ht, Bool.or_true])

theorem ev_t (f : Fr) (p : List Bool) : ev f (.t p) = slot f (unpath p) := by
  show ev f (.t p) = ev f (.t (path (unpath p)))
  rw [path_unpath]
theorem ev_agree {f f' : Fr} {x : Sx} (h : Agree x.us f f') : ev f x = ev f' x := by
  cases x with
  | c v => rfl
  | t p =>
    rw [ev_t, ev_t]
    exact h _ (Nat.testBit_two_pow_self)
theorem evL_agree {f f' : Fr} : ∀ {l : List Sx}, Agree (usL l) f f' → evL f l = evL f' l
  | [], _ => rfl
  | x :: l, h => by
    have h := Agree.or (show Agree (Nat.lor x.us (usL l)) f f' from h)
    show ev f x :: evL f l = ev f' x :: evL f' l
    rw [ev_agree h.1, evL_agree h.2]
theorem evO_agree {f f' : Fr} {o : Option Sx} (h : Agree (usO o) f f') : evO f o = evO f' o := by
  cases o with
  | none => rfl
  | some x =>
    show some (ev f x) = some (ev f' x)
    rw [ev_agree h]
theorem fillA_agree {f f' : Fr} : ∀ {l : List (Nat × Nat × Sx)}, Agree (usP l) f f' → fillA f l = fillA f' l
  | [], _ => rfl
  | x :: l, h => by
    have h := Agree.or (show Agree (Nat.lor x.2.2.us (usP l)) f f' from h)
    have h1 : ∀ f, fillA f (x :: l) = fun l2 => (ev f x.2.2).onCells (fun _ => none) fun vs => ifb (Nat.beq (lenA vs) x.2.1) (Option.rec (motive := fun _ => Option (List AV)) none (fillA f l) (overAt vs x.1 l2)) none := fun _ => rfl
    rw [h1, h1, ev_agree h.1, fillA_agree h.2]
theorem mmL_agree {f f' : Fr} {mx : Bool} : ∀ {l : List Sx}, Agree (usL l) f f' → mmL f mx l = mmL f' mx l
  | [], _ => rfl
  | x :: l, h => by
    have h := Agree.or (show Agree (Nat.lor x.us (usL l)) f f' from h)
    have h1 : ∀ f, mmL f mx (x :: l) = fun v => v.onInt Res.no fun k a => (ev f x).onInt Res.no fun _ b => mmL f mx l (.int k (mmA mx a b)) := fun _ => rfl
    rw [h1, h1, ev_agree h.1, mmL_agree h.2]

/-- An operation comes to the same where the slots that it looks at are the same. -/
theorem xO_agree {o : CO} {f f' : Fr} (h : Agree o.us f f') (c : CallT) (hp : Hp) : xO o c f hp = xO o c f' hp := by
  cases o with
  | mv x => show xMv x c f hp = xMv x c f' hp; simp only [xMv]; rw [ev_agree h]
  | pick a b d =>
    obtain ⟨h1, h2⟩ := Agree.or h
    obtain ⟨h2, h3⟩ := h2.or
    show xPick a b d c f hp = xPick a b d c f' hp; simp only [xPick]; rw [ev_agree h1, ev_agree h2, ev_agree h3]
  | ld1 x => show xLd1 x c f hp = xLd1 x c f' hp; simp only [xLd1]; rw [ev_agree h]
  | ldn x n => show xLdn x n c f hp = xLdn x n c f' hp; simp only [xLdn]; rw [ev_agree h]
  | st x y n =>
    obtain ⟨h1, h2⟩ := Agree.or h
    show xSt x y n c f hp = xSt x y n c f' hp; simp only [xSt]; rw [ev_agree h1, ev_agree h2]
  | box x => show xBox x c f hp = xBox x c f' hp; simp only [xBox]; rw [ev_agree h]
  | alloc z => rfl
  | nilc x => show xNilc x c f hp = xNilc x c f' hp; simp only [xNilc]; rw [ev_agree h]
  | bin op x y =>
    obtain ⟨h1, h2⟩ := Agree.or h
    show xBin op x y c f hp = xBin op x y c f' hp; simp only [xBin]; rw [ev_agree h1, ev_agree h2]
  | shl x y =>
    obtain ⟨h1, h2⟩ := Agree.or h
    show xShl x y c f hp = xShl x y c f' hp; simp only [xShl]; rw [ev_agree h1, ev_agree h2]
  | shr x y =>
    obtain ⟨h1, h2⟩ := Agree.or h
    show xShr x y c f hp = xShr x y c f' hp; simp only [xShr]; rw [ev_agree h1, ev_agree h2]
  | eq n e x y =>
    obtain ⟨h1, h2⟩ := Agree.or h
    show xEq n e x y c f hp = xEq n e x y c f' hp; simp only [xEq]; rw [ev_agree h1, ev_agree h2]
  | neg x => show xNeg x c f hp = xNeg x c f' hp; simp only [xNeg]; rw [ev_agree h]
  | notb x => show xNot x c f hp = xNot x c f' hp; simp only [xNot]; rw [ev_agree h]
  | xorb x => show xXor x c f hp = xXor x c f' hp; simp only [xXor]; rw [ev_agree h]
  | cvInt k x => show xCvInt k x c f hp = xCvInt k x c f' hp; simp only [xCvInt]; rw [ev_agree h]
  | cvTo x => show xCvTo x c f hp = xCvTo x c f' hp; simp only [xCvTo]; rw [ev_agree h]
  | cvOf x => show xCvOf x c f hp = xCvOf x c f' hp; simp only [xCvOf]; rw [ev_agree h]
  | cvStr x => show xCvStr x c f hp = xCvStr x c f' hp; simp only [xCvStr]; rw [ev_agree h]
  | fa x o => show xFa x o c f hp = xFa x o c f' hp; simp only [xFa]; rw [ev_agree h]
  | fld x o s => show xFld x o s c f hp = xFld x o s c f' hp; simp only [xFld]; rw [ev_agree h]
  | ixaS x y n =>
    obtain ⟨h1, h2⟩ := Agree.or h
    show xIxaS x y n c f hp = xIxaS x y n c f' hp; simp only [xIxaS]; rw [ev_agree h1, ev_agree h2]
  | ixaA x y l n =>
    obtain ⟨h1, h2⟩ := Agree.or h
    show xIxaA x y l n c f hp = xIxaA x y l n c f' hp; simp only [xIxaA]; rw [ev_agree h1, ev_agree h2]
  | ixs x y =>
    obtain ⟨h1, h2⟩ := Agree.or h
    show xIxs x y c f hp = xIxs x y c f' hp; simp only [xIxs]; rw [ev_agree h1, ev_agree h2]
  | ixv x y l n s =>
    obtain ⟨h1, h2⟩ := Agree.or h
    show xIxv x y l n s c f hp = xIxv x y l n s c f' hp; simp only [xIxv]; rw [ev_agree h1, ev_agree h2]
  | slS x lo hi =>
    obtain ⟨h1, h2⟩ := Agree.or h
    obtain ⟨h2, h3⟩ := h2.or
    show xSlS x lo hi c f hp = xSlS x lo hi c f' hp; simp only [xSlS]; rw [ev_agree h1, evO_agree h2, evO_agree h3]
  | slL x lo hi mx n =>
    obtain ⟨h1, h2⟩ := Agree.or h
    obtain ⟨h2, h3⟩ := h2.or
    obtain ⟨h3, h4⟩ := h3.or
    show xSlL x lo hi mx n c f hp = xSlL x lo hi mx n c f' hp; simp only [xSlL]; rw [ev_agree h1, evO_agree h2, evO_agree h3, evO_agree h4]
  | slA x lo hi mx l n =>
    obtain ⟨h1, h2⟩ := Agree.or h
    obtain ⟨h2, h3⟩ := h2.or
    obtain ⟨h3, h4⟩ := h3.or
    show xSlA x lo hi mx l n c f hp = xSlA x lo hi mx l n c f' hp; simp only [xSlA]; rw [ev_agree h1, evO_agree h2, evO_agree h3, evO_agree h4]
  | build z ps => show xBuild z ps c f hp = xBuild z ps c f' hp; simp only [xBuild]; rw [fillA_agree h]
  | bsl n z ps => show xBsl n z ps c f hp = xBsl n z ps c f' hp; simp only [xBsl]; rw [fillA_agree h]
  | mks z b x y =>
    obtain ⟨h1, h2⟩ := Agree.or h
    show xMks z b x y c f hp = xMks z b x y c f' hp; simp only [xMks]; rw [ev_agree h1, ev_agree h2]
  | mkf g x y =>
    obtain ⟨h1, h2⟩ := Agree.or h
    show xMkf g x y c f hp = xMkf g x y c f' hp; simp only [xMkf]; rw [evL_agree h1, evL_agree h2]
  | mkm r => show xMkm r c f hp = xMkm r c f' hp; simp only [xMkm]; rw [evO_agree h]
  | lk kd z ok m k =>
    obtain ⟨h1, h2⟩ := Agree.or h
    show xLk kd z ok m k c f hp = xLk kd z ok m k c f' hp; simp only [xLk]; rw [ev_agree h1, ev_agree h2]
  | mu kd m k x =>
    obtain ⟨h1, h2⟩ := Agree.or h
    obtain ⟨h2, h3⟩ := h2.or
    show xMu kd m k x c f hp = xMu kd m k x c f' hp; simp only [xMu]; rw [ev_agree h1, ev_agree h2, ev_agree h3]
  | del kd m k =>
    obtain ⟨h1, h2⟩ := Agree.or h
    show xDel kd m k c f hp = xDel kd m k c f' hp; simp only [xDel]; rw [ev_agree h1, ev_agree h2]
  | rng x => show xRng x c f hp = xRng x c f' hp; simp only [xRng]; rw [ev_agree h]
  | nxt x => show xNxt x c f hp = xNxt x c f' hp; simp only [xNxt]; rw [ev_agree h]
  | ext x i => show xExt x i c f hp = xExt x i c f' hp; simp only [xExt]; rw [ev_agree h]
  | lenS x => show xLenS x c f hp = xLenS x c f' hp; simp only [xLenS]; rw [ev_agree h]
  | lenL x => show xLenL x c f hp = xLenL x c f' hp; simp only [xLenL]; rw [ev_agree h]
  | lenM x => show xLenM x c f hp = xLenM x c f' hp; simp only [xLenM]; rw [ev_agree h]
  | lenc n => rfl
  | capv x => show xCapv x c f hp = xCapv x c f' hp; simp only [xCapv]; rw [ev_agree h]
  | app s n b x y =>
    obtain ⟨h1, h2⟩ := Agree.or h
    show xApp s n b x y c f hp = xApp s n b x y c f' hp; simp only [xApp]; rw [ev_agree h1, ev_agree h2]
  | cpy s n x y =>
    obtain ⟨h1, h2⟩ := Agree.or h
    show xCpy s n x y c f hp = xCpy s n x y c f' hp; simp only [xCpy]; rw [ev_agree h1, ev_agree h2]
  | mm mx x l =>
    obtain ⟨h1, h2⟩ := Agree.or h
    show xMm mx x l c f hp = xMm mx x l c f' hp; simp only [xMm]; rw [ev_agree h1, mmL_agree h2]
  | ifc t x => show xIfc t x c f hp = xIfc t x c f' hp; simp only [xIfc]; rw [ev_agree h]
  | ta t ok x => show xTa t ok x c f hp = xTa t ok x c f' hp; simp only [xTa]; rw [ev_agree h]
  | call g l => show xCall g l c f hp = xCall g l c f' hp; simp only [xCall]; rw [evL_agree h]
  | calld x l =>
    obtain ⟨h1, h2⟩ := Agree.or h
    show xCalld x l c f hp = xCalld x l c f' hp; simp only [xCalld]; rw [ev_agree h1, evL_agree h2]
  | bad w => rfl
  | apz z n b x y =>
    obtain ⟨h1, h2⟩ := Agree.or h
    show xApz z n b x y c f hp = xApz z n b x y c f' hp; simp only [xApz]; rw [ev_agree h1, ev_agree h2]
  | clr z x => show xClr z x c f hp = xClr z x c f' hp; simp only [xClr]; rw [ev_agree h]
end Go.Ab

/- Operations that leave memory alone. -/
namespace Go.Ab
open Go

/-- The same, in another heap. -/
noncomputable def R2.at (r : R2) (h : Hp) : R2 := R2.rec (motive := fun _ => R2) (fun v _ => .ok v h) R2.no r
section
variable {h2 : Hp}
theorem at_ok (v : AV) (h : Hp) : (R2.ok v h).at h2 = .ok v h2 := rfl
theorem at_no (w : String) : (R2.no w).at h2 = .no w := rfl
theorem at_onInt (v : AV) (no : String → R2) (k : IntKind → Int → R2) : (v.onInt no k).at h2 = v.onInt (fun w => (no w).at h2) (fun a b => (k a b).at h2) := by cases v <;> rfl
theorem at_onBool (v : AV) (no : String → R2) (k : Bool → R2) : (v.onBool no k).at h2 = v.onBool (fun w => (no w).at h2) (fun a => (k a).at h2) := by cases v <;> rfl
theorem at_onStr (v : AV) (no : String → R2) (k : Nat → Nat → R2) : (v.onStr no k).at h2 = v.onStr (fun w => (no w).at h2) (fun a b => (k a b).at h2) := by cases v <;> rfl
theorem at_onPtr (v : AV) (no : String → R2) (k : Nat → Nat → Nat → R2) : (v.onPtr no k).at h2 = v.onPtr (fun w => (no w).at h2) (fun a b c => (k a b c).at h2) := by cases v <;> rfl
theorem at_onAgg (v : AV) (no : String → R2) (k : List AV → R2) : (v.onAgg no k).at h2 = v.onAgg (fun w => (no w).at h2) (fun a => (k a).at h2) := by cases v <;> rfl
theorem at_onTup (v : AV) (no : String → R2) (k : List AV → R2) : (v.onTup no k).at h2 = v.onTup (fun w => (no w).at h2) (fun a => (k a).at h2) := by cases v <;> rfl
theorem at_onFn (v : AV) (no : String → R2) (k : Nat → List AV → List AV → R2) : (v.onFn no k).at h2 = v.onFn (fun w => (no w).at h2) (fun a b c => (k a b c).at h2) := by cases v <;> rfl
theorem at_onIfc (v : AV) (no : String → R2) (k : Nat → AV → R2) : (v.onIfc no k).at h2 = v.onIfc (fun w => (no w).at h2) (fun a b => (k a b).at h2) := by cases v <;> rfl
theorem at_onSl (v : AV) (no : String → R2) (nil : R2) (k : Nat → Nat → Nat → Nat → Nat → R2) : (v.onSl no nil k).at h2 = v.onSl (fun w => (no w).at h2) (nil.at h2) (fun a b c d e => (k a b c d e).at h2) := by
  cases v
  case nil t => show (Bool.rec (motive := fun _ => R2) (no "sl") nil (Nat.beq t 1)).at h2 = Bool.rec (motive := fun _ => R2) ((no "sl").at h2) (nil.at h2) (Nat.beq t 1); cases Nat.beq t 1 <;> rfl
  all_goals rfl
theorem at_onMap (v : AV) (no : String → R2) (nil : R2) (k : Nat → R2) : (v.onMap no nil k).at h2 = v.onMap (fun w => (no w).at h2) (nil.at h2) (fun a => (k a).at h2) := by
  cases v
  case nil t => show (Bool.rec (motive := fun _ => R2) (no "map") nil (Nat.beq t 2)).at h2 = Bool.rec (motive := fun _ => R2) ((no "map").at h2) (nil.at h2) (Nat.beq t 2); cases Nat.beq t 2 <;> rfl
  all_goals rfl
theorem at_ifb (c : Bool) (x y : R2) : (ifb c x y).at h2 = ifb c (x.at h2) (y.at h2) := by cases c <;> rfl
theorem at_nat? (i : Int) (no : R2) (k : Nat → R2) : (nat? i no k).at h2 = nat? i (no.at h2) (fun n => (k n).at h2) := by cases i <;> rfl
theorem at_opt {α : Type} (o : Option α) (no : R2) (k : α → R2) : (Option.rec (motive := fun _ => R2) no k o).at h2 = Option.rec (motive := fun _ => R2) (no.at h2) (fun a => (k a).at h2) o := by cases o <;> rfl
theorem at_bd2 {α : Type} (r : Res α) (k : α → R2) : (r.bd2 k).at h2 = r.bd2 (fun a => (k a).at h2) := by cases r <;> rfl
theorem at_val (r : Res AV) (h : Hp) : (r.val h).at h2 = r.val h2 := by cases r <;> rfl
theorem at_bound2 (x : Option AV) (m d : Nat) (k : Nat → R2) : (bound2 x m d k).at h2 = bound2 x m d (fun n => (k n).at h2) := by unfold bound2; exact at_opt _ _ _
theorem at_cut (h : Hp) (b g o m l c cap size : Nat) (mx : Option AV) : (cut h b g o m l c cap size mx).at h2 = cut h2 b g o m l c cap size mx := by
  cases mx with
  | some v => rfl
  | none =>
    unfold cut capKn
    simp only [at_ifb, at_ok, at_no]
theorem at_force (v : AV) (k : AV → R2) : (v.force k).at h2 = v.force (fun v => (k v).at h2) := by rw [force_eq, force_eq]
theorem at_bd {α : Type} (b : Bx α) (k : α → R2) : (b.bd k).at h2 = b.bd (fun v => (k v).at h2) := by cases b; rfl
theorem at_onMapH (h : Hp) (r : Nat) (no : R2) (k : Es → R2) : (h.onMap r no k).at h2 = h.onMap r (no.at h2) (fun es => (k es).at h2) := by
  unfold Hp.onMap
  cases h.get r with
  | none => rfl
  | some b => cases b <;> rfl
theorem at_lkIn (kd : Nat) (z : AV) (ok : Bool) (k : AV) (es : Es) (h : Hp) : (lkIn kd z ok k es h).at h2 = lkIn kd z ok k es h2 := by
  unfold lkIn
  simp only [at_ifb, at_opt, at_ok, at_no]
end

/-- What looks at its operands alone. -/
theorem xO_pure {o : CO} (hk : o.kd = 0) (c : CallT) (f : Fr) (h h2 : Hp) : xO o c f h2 = (xO o c f h).at h2 := by
  by_cases hta : ∃ t ok x, o = .ta t ok x
  · obtain ⟨t, ok, x, rfl⟩ := hta
    simp only [xO, xTa, at_onIfc, at_ifb, at_ok, at_no]
  cases o <;> first | exact absurd ⟨_, _, _, rfl⟩ hta | (have hk : (1 : Nat) = 0 := hk; cases hk; done) | (have hk : (2 : Nat) = 0 := hk; cases hk; done) | (have hk : (3 : Nat) = 0 := hk; cases hk; done) | skip
  all_goals first
    | rfl
    | (simp only [xO, xPick, xNilc, xBin, xShl, xShr, xNeg, xNot, xXor, xCvInt, xCvStr, xFa, xFld, xIxaS, xIxaA, xIxs, xIxv, xSlS, xSlA, xBuild, xExt, xLenS, xLenL, xCapv, xMm, xIfc,
        at_onInt, at_onBool, at_onStr, at_onPtr, at_onAgg, at_onTup, at_onFn, at_onSl, at_ifb, at_nat?, at_opt, at_val, at_bound2, at_ok, at_no, at_force]; done)
    | (simp only [xO, xMv, xPick, xNilc, xBin, xShl, xShr, xNeg, xNot, xXor, xCvInt, xCvStr, xFa, xFld, xIxaS, xIxaA, xIxs, xIxv, xSlS, xSlA, xBuild, xMkf, xExt, xLenS, xLenL, xLenc, xCapv, xMm, xIfc,
        at_onInt, at_onBool, at_onStr, at_onPtr, at_onAgg, at_onTup, at_onFn, at_onSl, at_onMap, at_ifb, at_nat?, at_opt, at_bd2, at_val, at_bound2, at_ok, at_no, at_force, at_bd]; rfl)

/-- What reads memory leaves it. -/
theorem xO_read {o : CO} (hk : o.kd = 1) (c : CallT) (f : Fr) (h : Hp) : (xO o c f h).at h = xO o c f h := by
  cases o <;> first | (have hk : (0 : Nat) = 1 := hk; cases hk; done) | (have hk : (2 : Nat) = 1 := hk; cases hk; done) | (have hk : (3 : Nat) = 1 := hk; cases hk; done) | skip
  all_goals first
    | rfl
    | (simp only [xO, xLd1, xLdn, xEq, xCvOf, xSlL, xLk, xLenM,
        at_onPtr, at_onSl, at_onMap, at_opt, at_bd2, at_val, at_bound2, at_ok, at_no, at_cut, at_onMapH, at_lkIn]; done)
    | (simp only [xO, xLd1, xLdn, xEq, xCvOf, xSlL, xLk, xLenM,
        at_onInt, at_onBool, at_onStr, at_onPtr, at_onAgg, at_onTup, at_onFn, at_onSl, at_onMap, at_ifb, at_nat?, at_opt, at_bd2, at_val, at_bound2, at_ok, at_no, at_force, at_bd, at_cut, at_onMapH, at_lkIn]; rfl)
theorem at_eq {r : R2} {h' h2 : Hp} {v : AV} (h1 : r = r.at h2) (h3 : r = .ok v h') : h' = h2 := by
  rw [h3] at h1; cases h1; rfl
end Go.Ab

/- Operations that make a block: it may be made later than ours. -/
namespace Go.Ab
open Go
variable {C : Cx} {ds : List Deferred}

/-- A block that is made: ours, the model's; where it lies; its value. -/
structure Made (e : Emb) (h : Hp) (w : World) (v : AV) (h' : Hp) (B : Blk) (ob : Obj) (sz : Nat) (v' : Value) (w' : World) : Prop where
  heap : w'.heap = w.heap.push ob
  os : w'.os = w.os
  output : w'.output = w.output
  ours : h' = ⟨setT B (path h.n) h.t, h.n + 1, h.lk⟩
  br : ∀ e' : Emb, e.le e' → BR e' B 0 ⟨w.heap.size, 0, 0, sz⟩ (some ob)
  vr : ∀ e' : Emb, e.le e' → e' h.n 0 = some ⟨w.heap.size, 0, 0, sz⟩ → VR e' v v'

/-- What an operation makes. -/
def MakeOK (C : Cx) (o : Oper) : Prop := ∀ (c : CallT) f h v h' e a w, xO (mk C o) c f h = .ok v h' → GR C e → FR e f a →
  ∃ v' w', (execOp a.eval o).run C.P w = .ok (.value v') w' ∧ ∃ B ob sz, Made e h w v h' B ob sz v' w'

theorem flat_BR {e : Emb} {r : Nat} {l : List AV} {l' rest : List Value} (hv : VRL e l l') (hc : ∀ u ∈ l, u.isCell = true) (t : TypeId) (fz : Nat) (fr : Nat × Nat)
    (h2 : ∀ i, i < l'.length + rest.length → ¬ (fr.1 ≤ i ∧ i < fr.2)) (h0 : okEq fz = true → ∀ i, ¬ (fr.1 ≤ i ∧ i < fr.2)) :
    ∀ e' : Emb, e.le e' → BR e' (.flat l fz) 0 ⟨r, 0, 0, l'.length + rest.length⟩ (some (.cells (l' ++ rest).toArray t fr)) := by
  intro e' hle
  refine .cells _ t fr ⟨trivial, Nat.le_refl _, by simp, Nat.le_refl _, ?_, ?_, ?_, h0⟩
  · show lenA l ≤ 0 + _
    have := hv.length
    simp; omega
  · intro i v _ hi
    have hi : l[i]? = some v := by
      have : nthA l i = some v := hi
      simpa using this
    obtain ⟨v', h1, h2⟩ := hv.get hi
    refine ⟨hc v (List.mem_of_getElem? hi), v', ?_, h2.mono hle⟩
    have : i < l'.length := (List.getElem?_eq_some_iff.1 h1).1
    simp [List.getElem?_append_left this, h1]
  · intro _ i hi; exact h2 i (by simpa using hi)
theorem flat_BR0 {e : Emb} {r : Nat} {l : List AV} {l' : List Value} (hv : VRL e l l') (hc : ∀ u ∈ l, u.isCell = true) (t : TypeId) :
    ∀ e' : Emb, e.le e' → BR e' (.flat l 0) 0 ⟨r, 0, 0, l'.length⟩ (some (.cells l'.toArray t (0, 0))) := by
  have := flat_BR (r := r) hv hc (rest := []) t 0 (0, 0) (fun i _ => by simp) (fun _ i => by simp)
  simpa using this

theorem made_flat {e : Emb} {h : Hp} {w : World} {l : List AV} {l' : List Value} (hv : VRL e l l') (hc : ∀ u ∈ l, u.isCell = true) (t : TypeId) {v : AV} {v' : Value} (hvr : ∀ e' : Emb, e' h.n 0 = some ⟨w.heap.size, 0, 0, l'.length⟩ → VR e' v v') :
    Made e h w v ⟨setT (.flat l 0) (path h.n) h.t, h.n + 1, h.lk⟩ (.flat l 0) (.cells l'.toArray t) l'.length v' (w.alloc (.cells l'.toArray t)) :=
  ⟨rfl, rfl, rfl, rfl, flat_BR0 hv hc t, fun e' _ hn => hvr e' hn⟩
theorem make_box {o : Oper} {t : TypeId} {x : Operand} (ho : o.op = .box t x) : MakeOK C o := by
  intro c f h v h' e a wd hx hg hf
  simp only [mk, ho] at hx
  cases hs : sx C x with
  | none => rw [hs] at hx; exact (no_ok (w := "box") hx).elim
  | some s =>
    rw [hs] at hx
    have hx : (ev f s).onCells R2.no (fun vs => R2.new h (.flat vs 0) fun n => .ptr n 0 0) = .ok v h' := hx
    rcases (sx_VR hg hf hs).cells (no := R2.no) (k := fun vs => R2.new h (.flat vs 0) fun n => .ptr n 0 0) with ⟨vs, j1, j2, j3⟩ | ⟨q, j1⟩
    · rw [j1] at hx
      obtain ⟨rfl, rfl⟩ := R2.new_ok hx
      refine ⟨.pointer (some ⟨wd.heap.size, 0, none⟩), _, ?_, _, _, _, made_flat j2 j3 t fun e' n1 => .ptr h.n 0 0 _ n1 (Nat.le_refl _) (Nat.le_refl _)⟩
      simp [execOp, ho, Instr.box, newVar, newRow]
    · rw [j1] at hx; exact (no_ok hx).elim

theorem make_alloc {o : Oper} {t : TypeId} (ho : o.op = .alloc t) : MakeOK C o := by
  intro c f h v h' e a wd hx hg hf
  simp only [mk, ho] at hx
  cases hs : zeroOf C t with
  | none => rw [hs] at hx; exact (no_ok (w := "alloc") hx).elim
  | some z =>
    rw [hs] at hx
    have hx : (forceL z.cells).bd (fun z => R2.new h (.flat z 0) fun n => .ptr n 0 0) = .ok v h' := hx
    rw [forceL_eq, Bx.bd_mk] at hx
    obtain ⟨rfl, rfl⟩ := R2.new_ok hx
    obtain ⟨i, u, i1, i2, i3, i4⟩ := zeroOf_spec hs
    obtain ⟨j2, j3⟩ := zero_cells (conv_VR e u z i3) i4
    refine ⟨.pointer (some ⟨wd.heap.size, 0, none⟩), _, ?_, _, _, _, made_flat j2 j3 t fun e' n1 => .ptr h.n 0 0 _ n1 (Nat.le_refl _) (Nat.le_refl _)⟩
    simp [execOp, ho, Instr.alloc, newVar, newRow, run_zero i1 i2]

theorem make_buildSlice {o : Oper} {t : TypeId} {n : Nat} {ps : Array (Nat × Operand)} (ho : o.op = .buildSlice t n ps) : MakeOK C o := by
  intro c f h v h' e a wd hx hg hf
  simp only [mk, ho] at hx
  cases hu : C.P.underlying t with
  | none => rw [hu] at hx; exact (no_ok (w := "buildSlice") hx).elim
  | some d =>
    rw [hu] at hx
    cases d <;> try exact (no_ok (w := "buildSlice") hx).elim
    case slice el =>
      simp only at hx
      cases hsz : szOf C el with
      | none => rw [hsz] at hx; exact (no_ok (w := "buildSlice") hx).elim
      | some k0 => cases hz : zeroOf C el with
        | none => rw [hsz, hz] at hx; cases k0 <;> exact (no_ok (w := "buildSlice") hx).elim
        | some z => cases k0 with
          | zero => rw [hsz, hz] at hx; exact (no_ok (w := "buildSlice") hx).elim
          | succ k =>
            rw [hsz, hz] at hx
            simp only at hx
            by_cases hc : n * (k + 1) ≤ 65536 ∧ z.cells.length = k + 1
            · rw [if_pos hc] at hx
              obtain ⟨zi, zv, i1, i2, i3, i4⟩ := zeroOf_spec hz
              obtain ⟨ie, e1, e2⟩ := szOf_spec hsz
              rw [i1] at e1; cases e1
              cases hp : partsOf C (fun i => some (i * (k + 1), k + 1)) ps.toList with
              | none => rw [hp] at hx; exact (no_ok (w := "buildSlice") hx).elim
              | some cps =>
                rw [hp] at hx
                have hx : Option.rec (motive := fun _ => R2) (.no "buildSlice") (fun l => R2.new h (.flat l 0) fun m => .sl m 0 0 n (Nat.succ (Nat.mul 2 n))) ((forceL (zerosA n z.cells)).bd fun z => fillA f cps z) = .ok v h' := hx
                rw [forceL_eq, Bx.bd_mk] at hx
                cases hfl : fillA f cps (zerosA n z.cells) with
                | none => rw [hfl] at hx; exact (no_ok hx).elim
                | some r =>
                  rw [hfl] at hx
                  obtain ⟨rfl, rfl⟩ := R2.new_ok hx
                  obtain ⟨j2, j3⟩ := zero_cells (conv_VR e zv z i3) i4
                  have hzs : zv.cells.size = k + 1 := by have := j2.length; simp at this; omega
                  obtain ⟨cs', g1, g2, g3, g4⟩ := fill_sim hg hf (fun i => some (i * (k + 1), k + 1)) ps.toList cps _ r (copies n zv.cells.toList).toArray hp hfl (by simpa using copies_VRL j2 n) (zerosA_cell j3 n)
                  have hmade := made_flat (h := h) (w := wd) (v := .sl h.n 0 0 n (Nat.succ (Nat.mul 2 n))) (v' := .slice (some ⟨wd.heap.size, 0, none⟩) n n) g2 g3 el fun e' n1 => new_sl n1 (Nat.le_refl _)
                  refine ⟨.slice (some ⟨wd.heap.size, 0, none⟩) n n, wd.alloc (.cells cs' el), ?_, .flat r 0, .cells cs' el, cs'.toList.length, by simpa using hmade⟩
                  simp only [execOp, ho, Sem.run_bind]
                  rw [run_buildSl (cs := cs') hu i1 i2 (by rw [hzs, e2]) (by rw [e2]; exact hc.1) (by rw [e2, mapParts]; exact g1)]
                  rfl
            · rw [if_neg hc] at hx; exact (no_ok (w := "buildSlice") hx).elim

theorem make_makeSlice {o : Oper} {t : TypeId} {x y : Operand} (ho : o.op = .makeSlice t x y) : MakeOK C o := by
  intro c f h v h' e a wd hx hg hf
  simp only [mk, ho] at hx
  cases hu : C.P.underlying t with
  | none => rw [hu] at hx; exact (no_ok (w := "makeSlice") hx).elim
  | some d => cases ha : sx C x with
    | none => rw [hu, ha] at hx; cases d <;> exact (no_ok (w := "makeSlice") hx).elim
    | some sa => cases hb : sx C y with
      | none => rw [hu, ha, hb] at hx; cases d <;> exact (no_ok (w := "makeSlice") hx).elim
      | some sb =>
        rw [hu, ha, hb] at hx
        cases d <;> try exact (no_ok (w := "makeSlice") hx).elim
        case slice el =>
          simp only at hx
          cases hi : C.P.info? el with
          | none => rw [hi] at hx; exact (no_ok (w := "makeSlice") hx).elim
          | some i => cases hz : zeroOf C el with
            | none => rw [hi, hz] at hx; exact (no_ok (w := "makeSlice") hx).elim
            | some z =>
              rw [hi, hz] at hx
              simp only at hx
              by_cases hc : i.size ≠ 0 ∧ z.cells.length = i.size
              · rw [if_pos hc] at hx
                obtain ⟨zi, zv, i1, i2, i3, i4⟩ := zeroOf_spec hz
                rw [hi] at i1; cases i1
                have hx : xMks z.cells i.bytes sa sb c f h = .ok v h' := hx
                unfold xMks at hx
                rcases (sx_VR hg hf ha).onInt (no := R2.no) (k := fun _ l => (ev f sb).onInt R2.no fun _ c => nat? l (.no "makeSlice") fun l => nat? c (.no "makeSlice") fun c =>
                  ifb (and (Nat.ble l c) (Nat.ble (Nat.mul (Nat.succ i.bytes) (Nat.succ c)) maxMem)) ((zerosR c z.cells).bd fun vs => R2.new h (.flat vs 0) fun n => .sl n 0 0 l (Nat.succ (Nat.mul 2 c))) (.no "makeSlice: size")) with ⟨k1, l, _, l1, l2⟩ | ⟨q, l2⟩
                · rw [l2] at hx
                  rcases (sx_VR hg hf hb).onInt (no := R2.no) (k := fun _ c => nat? l (.no "makeSlice") fun l => nat? c (.no "makeSlice") fun c =>
                    ifb (and (Nat.ble l c) (Nat.ble (Nat.mul (Nat.succ i.bytes) (Nat.succ c)) maxMem)) ((zerosR c z.cells).bd fun vs => R2.new h (.flat vs 0) fun n => .sl n 0 0 l (Nat.succ (Nat.mul 2 c))) (.no "makeSlice: size")) with ⟨k2, m, _, m1, m2⟩ | ⟨q, m2⟩
                  · rw [m2] at hx
                    rcases nat?_cases l (R2.no "makeSlice") (fun l => nat? m (.no "makeSlice") fun c =>
                      ifb (and (Nat.ble l c) (Nat.ble (Nat.mul (Nat.succ i.bytes) (Nat.succ c)) maxMem)) ((zerosR c z.cells).bd fun vs => R2.new h (.flat vs 0) fun n => .sl n 0 0 l (Nat.succ (Nat.mul 2 c))) (.no "makeSlice: size")) with ⟨l', rfl, l3⟩ | l3
                    · rw [l3] at hx
                      rcases nat?_cases m (R2.no "makeSlice") (fun c =>
                        ifb (and (Nat.ble l' c) (Nat.ble (Nat.mul (Nat.succ i.bytes) (Nat.succ c)) maxMem)) ((zerosR c z.cells).bd fun vs => R2.new h (.flat vs 0) fun n => .sl n 0 0 l' (Nat.succ (Nat.mul 2 c))) (.no "makeSlice: size")) with ⟨m', rfl, m3⟩ | m3
                      · rw [m3, zerosR_eq, Bx.bd_mk] at hx
                        cases hb1 : Nat.ble l' m' with
                        | false => rw [hb1] at hx; exact (no_ok hx).elim
                        | true => cases hb2 : Nat.ble (Nat.mul (Nat.succ i.bytes) (Nat.succ m')) maxMem with
                          | false => rw [hb1, hb2] at hx; exact (no_ok hx).elim
                          | true =>
                            rw [hb1, hb2] at hx
                            have hx : R2.new h (.flat (zerosA m' z.cells) 0) (fun n => .sl n 0 0 l' (Nat.succ (Nat.mul 2 m'))) = .ok v h' := hx
                            obtain ⟨rfl, rfl⟩ := R2.new_ok hx
                            obtain ⟨j2, j3⟩ := zero_cells (conv_VR e zv z i3) i4
                            have hzs : zv.cells.size = i.size := by have := j2.length; simp at this; omega
                            refine ⟨.slice (some ⟨wd.heap.size, 0, none⟩) l' m', _, ?_, _, _, _, made_flat (copies_VRL j2 m') (zerosA_cell j3 m') el fun e' n1 => new_sl n1 (ble_iff.1 hb1)⟩
                            simp only [execOp, ho, Sem.run_bind, l1, m1]
                            rw [run_makeSl hu hi i2 hzs (ble_iff.1 hb1) (ble_iff.1 hb2)]
                            rfl
                      · rw [m3] at hx; exact (no_ok hx).elim
                    · rw [l3] at hx; exact (no_ok hx).elim
                  · rw [m2] at hx; exact (no_ok hx).elim
                · rw [l2] at hx; exact (no_ok hx).elim
              · rw [if_neg hc] at hx; exact (no_ok (w := "makeSlice") hx).elim
theorem make_makeMap {o : Oper} {t : TypeId} {r : Option Operand} (ho : o.op = .makeMap t r) : MakeOK C o := by
  intro c f h v h' e a wd hx hg hf
  simp only [mk, ho] at hx
  obtain ⟨co, h1, hx⟩ := orBad_ok hx
  cases hu : C.P.underlying t with
  | none => rw [hu] at h1; cases h1
  | some d =>
    rw [hu] at h1
    cases d <;> try (cases h1; done)
    case map kt el =>
      obtain ⟨s, hs, rfl⟩ := map_ok h1
      have hro := sxO_VR hg hf hs
      have hx : Option.rec (motive := fun _ => R2) (R2.new h (.map []) .map) (fun v => v.onInt R2.no fun _ _ => R2.new h (.map []) .map) (evO f s) = .ok v h' := hx
      have fin : R2.new h (.map []) .map = .ok v h' → (Instr.makeMap t (r.map a.eval)).run C.P wd = .ok (.map (some wd.heap.size)) (wd.alloc (.map #[] 0)) → ∃ v' w', (execOp a.eval o).run C.P wd = .ok (.value v') w' ∧ ∃ B ob sz, Made e h wd v h' B ob sz v' w' := by
        intro hx hrun
        obtain ⟨rfl, rfl⟩ := R2.new_ok hx
        refine ⟨.map (some wd.heap.size), wd.alloc (.map #[] 0), ?_, .map [], .map #[] 0, 0, rfl, rfl, rfl, rfl, (fun e' _ => .map [] #[] 0 [] rfl rfl .nil (by simp) .nil .nil (Nat.le_refl _)), fun e' _ n1 => .map h.n _ n1 (Nat.le_refl _)⟩
        simp [execOp, ho, hrun]
      generalize hev : evO f s = ov at hro hx
      generalize hrr : r.map a.eval = rv at hro fin
      cases hro with
      | none => exact fin hx (by simp [Instr.makeMap])
      | some u u' hvr =>
        have hx : u.onInt R2.no (fun _ _ => R2.new h (.map []) .map) = .ok v h' := hx
        obtain ⟨k, j, j1, hx⟩ := hvr.intR hx
        exact fin hx (by simp [Instr.makeMap, run_und hu, j1, asInt, asIntOf])

theorem make_range {o : Oper} {t : TypeId} {x : Operand} (ho : o.op = .range t x) : MakeOK C o := by
  intro c f h v h' e a wd hx hg hf
  simp only [mk, ho] at hx
  obtain ⟨co, h1, hx⟩ := orBad_ok hx
  cases ht : isStrT C t with
  | false => rw [ht] at h1; cases h1
  | true => cases hs : sx C x with
    | none => rw [ht, hs] at h1; cases h1
    | some s =>
      rw [ht, hs] at h1
      cases h1
      have hu := isStrT_spec ht
      have hx : (ev f s).onStr R2.no (fun n a => R2.new h (.sit n a 0) fun m => .ptr m 0 0) = .ok v h' := hx
      obtain ⟨s0, s1, hx⟩ := (sx_VR hg hf hs).strR hx
      obtain ⟨rfl, rfl⟩ := R2.new_ok hx
      refine ⟨.pointer (some ⟨wd.heap.size, 0, none⟩), wd.alloc (.stringIter s0 0), ?_, .sit s0.size (packB s0.data.toList) 0, .stringIter s0 0, 0, rfl, rfl, rfl, rfl, (fun e' _ => .sit s0 0 rfl rfl (Nat.le_refl _)), fun e' _ n1 => .ptr h.n 0 0 _ n1 (Nat.le_refl _) (Nat.le_refl _)⟩
      simp [execOp, ho, Instr.range, run_und hu, s1]

theorem make_convert {o : Oper} {s d : TypeId} {x : Operand} (ho : o.op = .convert s d x) (hkd : (mk C o).kd = 2) : MakeOK C o := by
  intro c f h v h' e a wd hx hg hf
  simp only [mk, ho] at hx hkd
  obtain ⟨co, h1, hx⟩ := orBad_ok hx
  rw [h1] at hkd
  have hkd : co.kd = 2 := hkd
  cases hs : sx C x with
  | none => rw [hs] at h1; cases h1
  | some sa =>
    rw [hs] at h1
    have h1 : mkConvert C s d sa = some co := h1
    unfold mkConvert at h1
    cases hus : C.P.underlying s with
    | none => rw [hus] at h1; cases h1
    | some ds => cases hud : C.P.underlying d with
      | none => rw [hus, hud] at h1; cases ds <;> cases h1
      | some dd =>
        rw [hus, hud] at h1
        have hv := sx_VR hg hf hs
        cases ds <;> try (cases h1; done)
        case int k0 =>
          cases dd <;> try (cases h1; done)
          case int k => cases h1; have hkd : (0 : Nat) = 2 := hkd; cases hkd
          case string => cases h1; have hkd : (0 : Nat) = 2 := hkd; cases hkd
        case slice el =>
          cases dd <;> try (cases h1; done)
          case string =>
            simp only at h1
            cases hue : C.P.underlying el with
            | none => rw [hue] at h1; cases h1
            | some de =>
              rw [hue] at h1
              cases de <;> try (cases h1; done)
              case int ik =>
                cases ik <;> try (cases h1; done)
                cases h1; have hkd : (1 : Nat) = 2 := hkd; cases hkd
        case string =>
          cases dd <;> try (cases h1; done)
          case string => cases h1; have hkd : (0 : Nat) = 2 := hkd; cases hkd
          case slice el =>
            simp only at h1
            cases hue : C.P.underlying el with
            | none => rw [hue] at h1; cases h1
            | some de =>
              rw [hue] at h1
              cases de <;> try (cases h1; done)
              case int ik =>
                cases ik <;> try (cases h1; done)
                cases h1
                have hx : (ev f sa).onStr R2.no (fun n a => (bytesA n a).bd fun l => R2.new h (.flat l 1) fun m => .sl m 0 0 n 2) = .ok v h' := hx
                obtain ⟨s0, s1, hx⟩ := hv.strR hx
                rw [bytesA_eq _ _ (by rw [size_list]; exact Nat.le_refl _), Bx.bd_mk, List.take_of_length_le (by rw [← size_list]; exact Nat.le_refl _)] at hx
                obtain ⟨rfl, rfl⟩ := R2.new_ok hx
                let cap := grownCap wd s0.size 0 el
                have hcap : s0.size ≤ cap := grownCap_ge wd s0.size 0 el
                have hsz : (s0.data.toList.map fun b => Value.int .u8 b.toNat).length = s0.size := by rw [List.length_map, ← size_list]
                have hbr := flat_BR (r := wd.heap.size) (u8_VRL e s0.data.toList) (by intro u hu; obtain ⟨_, _, rfl⟩ := List.mem_map.1 hu; rfl) (rest := List.replicate (cap - s0.size) (.int .u8 0)) el 1 (cap, cap + 1)
                  (fun i hi => by rw [hsz, List.length_replicate] at hi; show ¬ (cap ≤ i ∧ _); omega) (fun hh => by cases hh)
                refine ⟨.slice (some ⟨wd.heap.size, 0, none⟩) s0.size cap,
                  wd.drew.alloc (.cells ((s0.data.toList.map fun b => Value.int .u8 b.toNat) ++ List.replicate (cap - s0.size) (Value.int .u8 0)).toArray el (cap, cap + 1)), ?_, _, _, _, rfl, rfl, rfl, rfl, hbr, fun e' _ n1 => ?_⟩
                · have hc : (s0.data.map fun b => Value.int .u8 b.toNat) ++ Array.replicate (cap - s0.size) (Value.int .u8 0) = ((s0.data.toList.map fun b => Value.int .u8 b.toNat) ++ List.replicate (cap - s0.size) (Value.int .u8 0)).toArray := by
                    apply Array.toList_inj.1; simp
                  have hcs : ((s0.data.toList.map fun b => Value.int .u8 b.toNat) ++ List.replicate (cap - s0.size) (Value.int .u8 0)).toArray.size = cap := by
                    rw [List.size_toArray, List.length_append, hsz, List.length_replicate]; omega
                  have hfz := freeze_new wd.drew ((s0.data.toList.map fun b => Value.int .u8 b.toNat) ++ List.replicate (cap - s0.size) (Value.int .u8 0)).toArray el
                  rw [hcs] at hfz
                  have hsh : (wd.drew.alloc (.cells ((s0.data.toList.map fun b => Value.int .u8 b.toNat) ++ List.replicate (cap - s0.size) (Value.int .u8 0)).toArray el)).shape? wd.heap.size = some (el, cap) := by
                    simp only [World.shape?]
                    rw [show wd.heap.size = wd.drew.heap.size from rfl, heap_alloc_new]
                    simp only [hcs]
                  have h1 : (convert s d (.string s0)).run C.P wd = (Conv.stringToBytes el s0).run C.P wd := by
                    simp [convert, run_und hus, run_und hud, run_und hue]
                  have h2 : (Conv.stringToBytes el s0).run C.P wd = .ok (.slice (some ⟨wd.heap.size, 0, none⟩) s0.size cap) (wd.drew.alloc (.cells ((s0.data.toList.map fun b => Value.int .u8 b.toNat) ++ List.replicate (cap - s0.size) (Value.int .u8 0)).toArray el (cap, cap + 1))) := by
                    simp only [Conv.stringToBytes, Sem.run_bind, run_choose, Question.forced, Bool.false_eq_true, if_false, Result.andThen_ok]
                    have hq : (Question.appendCap s0.size 0 el).cut (wd.tape wd.drawn (.appendCap s0.size 0 el)) = cap := rfl
                    rw [hq, hc]
                    simp only [newRow, Sem.run_bind, run_newObj, Result.andThen_ok, Sem.run_pure, World.drew_eq, World.alloc_eq, markStringish, run_shape]
                    rw [show wd.drew.heap.size = wd.heap.size from rfl, hsh]
                    simp only [run_freeze, Result.andThen_ok]
                    rw [show (⟨wd.heap.size, cap, none⟩ : Addr) = ⟨wd.drew.heap.size, cap, none⟩ from rfl, hfz]
                  simp only [execOp, ho, s1, Sem.run_bind, h1, h2]
                  rfl
                · exact .sl h.n 0 0 s0.size 2 cap _ n1 (Nat.le_refl _) (Nat.le_refl _) hcap (fun hh => by omega) (fun _ => by
                    show 0 - 0 + cap * (2 / 2) = (s0.data.toList.map fun b => Value.int .u8 b.toNat).length + (List.replicate (cap - s0.size) (Value.int .u8 0)).length
                    rw [hsz, List.length_replicate]; omega)

/-- Every operation that makes a block. -/
theorem make_all {o : Oper} (hm : isMkOp o = true) (hkd : (mk C o).kd = 2) : MakeOK C o := by
  unfold isMkOp at hm
  cases ho : o.op <;> rw [ho] at hm <;> try (cases hm; done)
  case alloc t => exact make_alloc ho
  case box t x => exact make_box ho
  case buildSlice t n ps => exact make_buildSlice ho
  case makeMap t r => exact make_makeMap ho
  case makeSlice t l c => exact make_makeSlice ho
  case range t x => exact make_range ho
  case convert s d x => exact make_convert ho hkd
end Go.Ab

/- Regions whose order is drawn: what the checker of our plan makes sure of. -/
namespace Go.Ab
open Go

/-! ### One operation of a region -/
noncomputable def stepS (s : CS) (c : CallT) (f : Fr) (h : Hp) : R2 := ifb (okG s.g f) (ifb (wantG s.g f) (xO s.o c f h) (.ok undefA h)) (.no "guard")
theorem oneS_once {s : CS} (hs : s.again = false) (rest : Rg) (c : CallT) (f : Fr) (h : Hp) : oneS s rest c f h = (stepS s c f h).bd Out.no fun v h => rest c (putD s.d v f).out h := by
  have hdone : ∀ (v : AV) (h : Hp), doneS s rest c f v h = rest c (putD s.d v f).out h := by
    intro v h
    show v.force (fun v => ifb s.again (ifb (slotIs s.d v f) (rest c f h) (.no "not the same once more")) ((putD s.d v f).bd fun f => rest c f h)) = _
    rw [force_eq, hs, ifb_false, putD_mk]; rfl
  show ifb (okG s.g f) (ifb (wantG s.g f) ((xO s.o c f h).bd Out.no (doneS s rest c f)) (doneS s rest c f undefA h)) (.no "guard") = _
  unfold stepS
  cases okG s.g f with
  | false => rfl
  | true =>
  rw [ifb_true, ifb_true]
  cases wantG s.g f with
  | false => rw [ifb_false, ifb_false, hdone]; rfl
  | true =>
    rw [ifb_true, ifb_true]
    cases xO s.o c f h with
    | no w => rfl
    | ok v h2 => exact hdone v h2
theorem oneS_again {s : CS} (hs : s.again = true) (rest : Rg) (c : CallT) (f : Fr) (h : Hp) : oneS s rest c f h = (stepS s c f h).bd Out.no fun v h => ifb (slotIs s.d v f) (rest c f h) (.no "not the same once more") := by
  have hdone : ∀ (v : AV) (h : Hp), doneS s rest c f v h = ifb (slotIs s.d v f) (rest c f h) (.no "not the same once more") := by
    intro v h
    show v.force (fun v => ifb s.again (ifb (slotIs s.d v f) (rest c f h) (.no "not the same once more")) ((putD s.d v f).bd fun f => rest c f h)) = _
    rw [force_eq, hs, ifb_true]
  show ifb (okG s.g f) (ifb (wantG s.g f) ((xO s.o c f h).bd Out.no (doneS s rest c f)) (doneS s rest c f undefA h)) (.no "guard") = _
  unfold stepS
  cases okG s.g f with
  | false => rfl
  | true =>
  rw [ifb_true, ifb_true]
  cases wantG s.g f with
  | false => rw [ifb_false, ifb_false, hdone]; rfl
  | true =>
    rw [ifb_true, ifb_true]
    cases xO s.o c f h with
    | no w => rfl
    | ok v h2 => exact hdone v h2

theorem wantG_slot (p : List Bool) (want : Bool) (f : Fr) : wantG (some (p, want)) f = (slot f (unpath p)).onBool (fun _ => false) (fun b => ifb want b (not b)) := by
  rw [slot_eq, path_unpath]
  show Option.rec (motive := fun _ => Bool) false (fun v => v.onBool (fun _ => false) fun b => ifb want b (not b)) (getP p f) = _
  cases getP p f <;> rfl
theorem okG_slot (p : List Bool) (want : Bool) (f : Fr) : okG (some (p, want)) f = not (slot f (unpath p)).isNilv := by
  rw [slot_eq, path_unpath]
  show Option.rec (motive := fun _ => Bool) true (fun v => not v.isNilv) (getP p f) = _
  cases getP p f <;> rfl
theorem stepS_agree {s : CS} {f f' : Fr} (h : Agree s.us f f') (c : CallT) (hp : Hp) : stepS s c f hp = stepS s c f' hp := by
  obtain ⟨h1, h2⟩ := Agree.or h
  have hw : wantG s.g f = wantG s.g f' := by
    cases hg : s.g with
    | none => rfl
    | some q =>
      obtain ⟨p, want⟩ := q
      rw [wantG_slot, wantG_slot]
      rw [hg] at h2
      rw [h2 (unpath p) (by show (2 ^ unpath p).testBit (unpath p) = true; exact Nat.testBit_two_pow_self)]
  have hw2 : okG s.g f = okG s.g f' := by
    cases hg : s.g with
    | none => rfl
    | some q =>
      obtain ⟨p, want⟩ := q
      rw [okG_slot, okG_slot]
      rw [hg] at h2
      rw [h2 (unpath p) (by show (2 ^ unpath p).testBit (unpath p) = true; exact Nat.testBit_two_pow_self)]
  unfold stepS
  rw [hw, hw2, xO_agree h1]
theorem stepS_pure {s : CS} (hk : s.o.kd = 0) (c : CallT) (f : Fr) (h h2 : Hp) : stepS s c f h2 = (stepS s c f h).at h2 := by
  unfold stepS
  rw [at_ifb, at_ifb, at_ok, at_no, xO_pure hk c f h h2]
theorem stepS_read {s : CS} (hk : s.o.kd = 1) (c : CallT) (f : Fr) (h : Hp) : (stepS s c f h).at h = stepS s c f h := by
  unfold stepS
  rw [at_ifb, at_ifb, at_ok, at_no, xO_read hk]

/-! ### The same value -/
theorem avEqL_nil {l : List AV} (h : avEqL [] l = true) : l = [] := by cases l <;> first | rfl | cases h
mutual
theorem avEq_eq : ∀ {u v : AV}, avEq u v = true → u = v
  | .int j a, v, h => by
    cases v <;> try (cases h; done)
    case int k b =>
      have h : and (sameK j k) (eqA a b) = true := h
      cases h1 : sameK j k with
      | false => rw [h1] at h; cases h
      | true => rw [h1] at h; have h : eqA a b = true := h; rw [eqA_eq] at h; rw [sameK_eq h1, eq_of_beq h]
  | .bool a, v, h => by
    cases v <;> try (cases h; done)
    case bool b => have h : ifb a b (not b) = true := h; cases a <;> cases b <;> first | rfl | cases h
  | .str n a, v, h => by
    cases v <;> try (cases h; done)
    case str m b =>
      have h : and (Nat.beq n m) (Nat.beq a b) = true := h
      cases h1 : Nat.beq n m with
      | false => rw [h1] at h; cases h
      | true => rw [h1] at h; rw [beq_iff.1 h1, beq_iff.1 (show Nat.beq a b = true from h)]
  | .ptr a b c, v, h => by
    cases v <;> try (cases h; done)
    case ptr d e f =>
      have h : and (Nat.beq a d) (and (Nat.beq b e) (Nat.beq c f)) = true := h
      simp only [Bool.and_eq_true, beq_iff] at h
      obtain ⟨rfl, rfl, rfl⟩ := h; rfl
  | .sl a b c n k, v, h => by
    cases v <;> try (cases h; done)
    case sl d e f m l =>
      have h : and (and (Nat.beq a d) (and (Nat.beq b e) (Nat.beq c f))) (and (Nat.beq n m) (Nat.beq k l)) = true := h
      simp only [Bool.and_eq_true, beq_iff] at h
      obtain ⟨⟨rfl, rfl, rfl⟩, rfl, rfl⟩ := h; rfl
  | .nil t, v, h => by
    cases v <;> try (cases h; done)
    case nil u => rw [beq_iff.1 (show Nat.beq t u = true from h)]
  | .map r, v, h => by
    cases v <;> try (cases h; done)
    case map s => rw [beq_iff.1 (show Nat.beq r s = true from h)]
  | .fn g a b, v, h => by
    cases v <;> try (cases h; done)
    case fn k c d =>
      have h : and (Nat.beq g k) (and (avEqL a c) (avEqL b d)) = true := h
      simp only [Bool.and_eq_true, beq_iff] at h
      rw [h.1, avEqL_eq h.2.1, avEqL_eq h.2.2]
  | .ifc t x, v, h => by
    cases v <;> try (cases h; done)
    case ifc u y =>
      have h : and (Nat.beq t u) (avEq x y) = true := h
      simp only [Bool.and_eq_true, beq_iff] at h
      rw [h.1, avEq_eq h.2]
  | .agg a, v, h => by
    cases v <;> try (cases h; done)
    case agg b => rw [avEqL_eq (show avEqL a b = true from h)]
  | .tup a, v, h => by
    cases v <;> try (cases h; done)
    case tup b => rw [avEqL_eq (show avEqL a b = true from h)]
theorem avEqL_eq : ∀ {a b : List AV}, avEqL a b = true → a = b
  | [], b, h => (avEqL_nil h).symm
  | x :: a, b, h => by
    cases b with
    | nil => cases h
    | cons y b =>
      have h : and (avEq x y) (avEqL a b) = true := h
      simp only [Bool.and_eq_true] at h
      rw [avEq_eq h.1, avEqL_eq h.2]
end

/-! ### What stands ahead -/
/-- p stands ahead of i. -/
inductive Dep (ops : Array Oper) : Nat → Nat → Prop
  | one (i : Nat) (o : Oper) (e : Edge) : ops[i]? = some o → e ∈ o.after → Region.binds .any e = true → Dep ops i e.on
  | more (i p : Nat) (o : Oper) (e : Edge) : ops[i]? = some o → e ∈ o.after → Region.binds .any e = true → Dep ops e.on p → Dep ops i p

theorem ancE_spec {ops : Array Oper} {acc : List Nat} {i : Nat} {o : Oper} (ho : ops[i]? = some o) (hacc : ∀ j p, ((nthA acc j).getD 0).testBit p = true → Dep ops j p) : ∀ (es : List Edge), (∀ e ∈ es, e ∈ o.after) → ∀ p, (ancE acc es).testBit p = true → Dep ops i p
  | [], _, p, h => by
    have h : (0 : Nat).testBit p = true := h
    simp at h
  | e :: es, he, p, h => by
    have h : (ifb (Region.binds .any e) (Nat.lor (Nat.lor (2 ^ e.on) ((nthA acc e.on).getD 0)) (ancE acc es)) (ancE acc es)).testBit p = true := h
    have hrest := ancE_spec ho hacc es (fun e' h' => he e' (.tail _ h')) p
    cases hb : Region.binds .any e with
    | false => rw [hb] at h; exact hrest h
    | true =>
      rw [hb, ifb_true] at h
      have h : ((2 ^ e.on ||| (nthA acc e.on).getD 0) ||| ancE acc es).testBit p = true := h
      rw [Nat.testBit_or, Nat.testBit_or, Bool.or_eq_true, Bool.or_eq_true] at h
      rcases h with (h | h) | h
      · have : p = e.on := by
          rw [Nat.testBit_two_pow] at h
          exact (of_decide_eq_true h).symm
        subst this
        exact .one i o e ho (he e (.head _)) hb
      · exact .more i p o e ho (he e (.head _)) hb (hacc e.on p h)
      · exact hrest h

theorem ancL_spec {ops : Array Oper} : ∀ (l : List Oper) (acc : List Nat), (∀ k o, l[k]? = some o → ops[acc.length + k]? = some o) → (∀ j p, ((nthA acc j).getD 0).testBit p = true → Dep ops j p) →
    ∀ j p, ((nthA (ancL l acc) j).getD 0).testBit p = true → Dep ops j p
  | [], acc, _, h => h
  | o :: l, acc, hl, h => by
    have ho : ops[acc.length]? = some o := by simpa using hl 0 o rfl
    refine ancL_spec l (acc ++ [ancE acc o.after.toList]) (fun k o' hk => ?_) (fun j p hj => ?_)
    · have := hl (k + 1) o' (by simpa using hk)
      rw [List.length_append, List.length_singleton, show acc.length + 1 + k = acc.length + (k + 1) by omega]; exact this
    · rw [nthA_eq] at hj
      by_cases hlt : j < acc.length
      · rw [List.getElem?_append_left hlt] at hj
        exact h j p (by rw [nthA_eq]; exact hj)
      · by_cases heq : j = acc.length
        · subst heq
          rw [List.getElem?_append_right (Nat.le_refl _), Nat.sub_self] at hj
          exact ancE_spec ho h o.after.toList (fun e he => by simpa using he) p hj
        · rw [List.getElem?_eq_none (by simp; omega)] at hj
          simp at hj

/-- A set that holds what stands ahead of what it holds. -/
def Closed (ops : Array Oper) (D : Nat → Prop) : Prop := ∀ i o e, D i → ops[i]? = some o → e ∈ o.after → Region.binds .any e = true → D e.on
theorem Closed.dep {ops : Array Oper} {D : Nat → Prop} (hc : Closed ops D) {i p : Nat} (h : Dep ops i p) : D i → D p := by
  induction h with
  | one i o e h1 h2 h3 => exact fun hi => hc i o e hi h1 h2 h3
  | more i p o e h1 h2 h3 _ ih => exact fun hi => ih (hc i o e hi h1 h2 h3)
theorem Closed.ahead {ops : Array Oper} {D : Nat → Prop} (hc : Closed ops D) {i p : Nat} (h : Dep ops i p) (hi : ∀ o e, ops[i]? = some o → e ∈ o.after → Region.binds .any e = true → D e.on) : D p := by
  cases h with
  | one _ o e h1 h2 h3 => exact hi o e h1 h2 h3
  | more _ _ o e h1 h2 h3 h4 => exact hc.dep h4 (hi o e h1 h2 h3)
end Go.Ab

/- Regions whose order is drawn: what the checker of our plan makes sure of (second part). -/
namespace Go.Ab
open Go

theorem within_spec {a b : Nat} (h : within a b = true) {p : Nat} (hp : a.testBit p = true) : b.testBit p = true := by
  have h : a &&& b = a := beq_iff.1 h
  rw [← h, Nat.testBit_and, Bool.and_eq_true] at hp
  exact hp.2
theorem bits_spec : ∀ (l : List Nat) (p : Nat), (bits l).testBit p = true ↔ p ∈ l
  | [], p => by
    have : (bits []).testBit p = (0 : Nat).testBit p := rfl
    simp [this]
  | i :: l, p => by
    show (2 ^ i ||| bits l).testBit p = true ↔ _
    rw [Nat.testBit_or, Bool.or_eq_true, bits_spec l p, Nat.testBit_two_pow, decide_eq_true_iff, List.mem_cons]
    constructor
    · rintro (h | h)
      · exact .inl h.symm
      · exact .inr h
    · rintro (h | h)
      · exact .inl h.symm
      · exact .inr h
theorem all_mem {r : Rgn} {i : Nat} : i ∈ r.all ↔ i < r.ss.length := List.mem_range

theorem dm_spec {s : CS} {t : Nat} : s.dm.testBit t = true ↔ s.d = some (path t) := by
  unfold CS.dm
  cases s.d with
  | none => simp
  | some p =>
    show (2 ^ unpath p).testBit t = true ↔ _
    rw [Nat.testBit_two_pow, decide_eq_true_iff]
    constructor
    · intro h; rw [← h, path_unpath]
    · intro h; cases h; exact unpath_path t

theorem dstsL_spec (r : Rgn) (m t : Nat) : ∀ l : List Nat, (List.rec (motive := fun _ => Nat) 0 (fun i _ ih => ifb (m.testBit i) (Nat.lor (r.s i).dm ih) ih) l : Nat).testBit t = true ↔ ∃ i ∈ l, m.testBit i = true ∧ (r.s i).d = some (path t)
  | [] => by
    show (0 : Nat).testBit t = true ↔ _
    simp
  | i :: l => by
    have ih := dstsL_spec r m t l
    show (ifb (m.testBit i) (Nat.lor (r.s i).dm (List.rec (motive := fun _ => Nat) 0 (fun i _ ih => ifb (m.testBit i) (Nat.lor (r.s i).dm ih) ih) l : Nat)) (List.rec (motive := fun _ => Nat) 0 (fun i _ ih => ifb (m.testBit i) (Nat.lor (r.s i).dm ih) ih) l : Nat)).testBit t = true ↔ _
    cases hb : m.testBit i with
    | false =>
      rw [ifb_false, ih]
      constructor
      · rintro ⟨j, h1, h2⟩; exact ⟨j, .tail _ h1, h2⟩
      · rintro ⟨j, h1, h2⟩
        cases h1 with
        | head => rw [hb] at h2; cases h2.1
        | tail _ h1 => exact ⟨j, h1, h2⟩
    | true =>
      rw [ifb_true]
      show ((r.s i).dm ||| _).testBit t = true ↔ _
      rw [Nat.testBit_or, Bool.or_eq_true, ih, dm_spec]
      constructor
      · rintro (h | ⟨j, h1, h2⟩)
        · exact ⟨i, .head _, hb, h⟩
        · exact ⟨j, .tail _ h1, h2⟩
      · rintro ⟨j, h1, h2⟩
        cases h1 with
        | head => exact .inl h2.2
        | tail _ h1 => exact .inr ⟨j, h1, h2⟩
theorem dsts_spec (r : Rgn) (m t : Nat) : (r.dsts m).testBit t = true ↔ ∃ i, i < r.ss.length ∧ m.testBit i = true ∧ (r.s i).d = some (path t) := by
  unfold Rgn.dsts
  rw [dstsL_spec]
  constructor
  · rintro ⟨i, h1, h2⟩; exact ⟨i, all_mem.1 h1, h2⟩
  · rintro ⟨i, h1, h2⟩; exact ⟨i, all_mem.2 h1, h2⟩

/-- Each once, behind what stands ahead of it. -/
def OrderOK (r : Rgn) : List Nat → (Nat → Prop) → Prop
  | [], seen => ∀ i, i < r.ss.length → seen i
  | i :: l, seen => ¬ seen i ∧ (∀ p, (r.a i).testBit p = true → seen p) ∧ OrderOK r l fun j => seen j ∨ j = i
theorem okOrder_spec {r : Rgn} : ∀ {l : List Nat} {m : Nat} {seen : Nat → Prop}, (∀ j, seen j ↔ m.testBit j = true) → r.okOrder l m = true → OrderOK r l seen
  | [], m, seen, hs, h => fun i hi => (hs i).2 (within_spec (show within (bits r.all) m = true from h) ((bits_spec _ _).2 (all_mem.2 hi)))
  | i :: l, m, seen, hs, h => by
    have h : and (not (m.testBit i)) (and (within (r.a i) m) (r.okOrder l (Nat.lor m (2 ^ i)))) = true := h
    simp only [Bool.and_eq_true, Bool.not_eq_true'] at h
    obtain ⟨h1, h2, h3⟩ := h
    refine ⟨(fun hh => by rw [(hs i).1 hh] at h1; cases h1), fun p hp => (hs p).2 (within_spec h2 hp), okOrder_spec (fun j => ?_) h3⟩
    show _ ↔ (m ||| 2 ^ i).testBit j = true
    rw [Nat.testBit_or, Bool.or_eq_true, hs j, Nat.testBit_two_pow, decide_eq_true_iff]
    constructor
    · rintro (h | h)
      · exact .inl h
      · exact .inr h.symm
    · rintro (h | h)
      · exact .inl h
      · exact .inr h.symm

theorem okDst_spec {r : Rgn} : ∀ {l : List Nat} {m : Nat}, r.okDst l m = true → (∀ i ∈ l, ∀ t, (r.s i).d = some (path t) → m.testBit t = false) ∧ l.Pairwise fun i j => ∀ t, (r.s i).d = some (path t) → (r.s j).d ≠ some (path t)
  | [], _, _ => ⟨fun i hi => (by cases hi), .nil⟩
  | i :: l, m, h => by
    have h : and (Nat.beq (Nat.land m (r.s i).dm) 0) (r.okDst l (Nat.lor m (r.s i).dm)) = true := h
    rw [Bool.and_eq_true] at h
    obtain ⟨h1, h2⟩ := h
    obtain ⟨h3, h4⟩ := okDst_spec h2
    have h1 : m &&& (r.s i).dm = 0 := beq_iff.1 h1
    refine ⟨fun j hj t ht => ?_, List.pairwise_cons.2 ⟨fun j hj t ht htj => ?_, h4⟩⟩
    · cases hj with
      | head =>
        have h5 : (m &&& (r.s i).dm).testBit t = false := by rw [h1]; simp
        rw [Nat.testBit_and, dm_spec.2 ht, Bool.and_true] at h5
        exact h5
      | tail _ hj =>
        have h5 : (m ||| (r.s i).dm).testBit t = false := h3 j hj t ht
        rw [Nat.testBit_or, Bool.or_eq_false_iff] at h5
        exact h5.1
    · have h5 : (m ||| (r.s i).dm).testBit t = false := h3 j hj t htj
      rw [Nat.testBit_or, Bool.or_eq_false_iff, dm_spec.2 ht] at h5
      cases h5.2

theorem okUse_spec {r : Rgn} {i : Nat} (h : r.okUse i = true) {t : Nat} (hu : (r.s i).us.testBit t = true) {q : Nat} (hq : q < r.ss.length) (hd : (r.s q).d = some (path t)) :
    (∃ p, p < r.ss.length ∧ (r.a i).testBit p = true ∧ (r.s p).d = some (path t)) ∨ (r.k i ≠ 1 ∧ ∃ p, p < r.ss.length ∧ (p = i ∨ (r.a p).testBit i = true) ∧ (r.s p).d = some (path t)) := by
  unfold Rgn.okUse at h
  have h1 : ((r.s i).us &&& r.dsts (bits r.all)).testBit t = true := by
    rw [Nat.testBit_and, hu, Bool.true_and]
    exact (dsts_spec _ _ _).2 ⟨q, hq, (bits_spec _ _).2 (all_mem.2 hq), hd⟩
  have h2 : (r.dsts (r.a i) ||| ifb (Nat.beq (r.k i) 1) 0 (r.dsts (bits (r.all.filter fun p => or (Nat.beq p i) ((r.a p).testBit i))))).testBit t = true := within_spec h h1
  rw [Nat.testBit_or, Bool.or_eq_true] at h2
  rcases h2 with h2 | h2
  · obtain ⟨p, h3, h4, h5⟩ := (dsts_spec _ _ _).1 h2
    exact .inl ⟨p, h3, h4, h5⟩
  · cases hk : Nat.beq (r.k i) 1 with
    | true => rw [hk, ifb_true] at h2; simp at h2
    | false =>
      rw [hk, ifb_false] at h2
      obtain ⟨p, h3, h4, h5⟩ := (dsts_spec _ _ _).1 h2
      refine .inr ⟨(fun hh => by rw [beq_iff.2 hh] at hk; cases hk), p, h3, ?_, h5⟩
      have := (bits_spec _ _).1 h4
      have := (List.mem_filter.1 this).2
      rw [Bool.or_eq_true, beq_iff] at this
      exact this
end Go.Ab

/- Regions whose order is drawn: one step of ours, one step of the model's. -/
namespace Go.Ab
open Go
variable {C : Cx} {ds : List Deferred}

theorem mkSeq_get (n : Nat) (ops : List Oper) : ∀ (l : List Oper) (i : Nat), (mkSeq C n ops l)[i]? = (l[i]?).map (mkS C n ops)
  | [], i => by simp [mkSeq]
  | o :: l, 0 => by simp [mkSeq]
  | o :: l, i + 1 => by simp [mkSeq, mkSeq_get n ops l i]
theorem mkSeq_length (n : Nat) (ops : List Oper) : ∀ (l : List Oper), (mkSeq C n ops l).length = l.length
  | [] => rfl
  | o :: l => by simp [mkSeq, mkSeq_length n ops l]

section
variable {n : Nat} {ops : Array Oper}
theorem of_length : (Rgn.of C n ops).ss.length = ops.size := by
  show (mkSeq C n ops.toList ops.toList).length = _
  rw [mkSeq_length]; simp
theorem of_s {i : Nat} {o : Oper} (ho : ops[i]? = some o) : (Rgn.of C n ops).s i = mkS C n ops.toList o := by
  show (nthA (mkSeq C n ops.toList ops.toList) i).getD _ = _
  rw [nthA_eq, mkSeq_get, Array.getElem?_toList, ho]; rfl
theorem of_a {i p : Nat} (h : ((Rgn.of C n ops).a i).testBit p = true) : Dep ops i p :=
  ancL_spec ops.toList [] (fun k o hk => by simpa using hk) (fun j p hj => by
    have hj : (0 : Nat).testBit p = true := by cases j <;> exact hj
    simp at hj) i p h
theorem of_m {i : Nat} {o : Oper} (ho : ops[i]? = some o) : (Rgn.of C n ops).m i = isMkOp o := by
  show (nthA (ops.toList.map isMkOp) i).getD false = _
  rw [nthA_eq, List.getElem?_map, Array.getElem?_toList, ho]; rfl

/-- A step of ours is the model's. -/
theorem stepS_sim {c : CallT} (hc : CallOK C c) {i : Nat} {o : Oper} (ho : ops[i]? = some o) {f : Fr} {h h' : Hp} {v : AV} (hx : stepS ((Rgn.of C n ops).s i) c f h = .ok v h') {e : Emb} {a : Act} {w : World} (hg : GR C e) (hf : FN ds n e f a) (hr : HR e h w)
    {K : Act → World → Prop} {Q : Exit → Act → World → Prop} (hk : ∀ e' (v' : Value) w', Ext e h w e' h' w' → VR e' v v' → K (a.put o.dst v') w') : owOp C.P ops Q i K a w := by
  rw [of_s ho] at hx
  unfold owOp
  simp only [ho]
  rcases mkS_spec (C := C) (n := n) (ops := ops.toList) (o := o) with ⟨g, g1, g2, _⟩ | ⟨q, g2⟩
  · rw [g2] at hx
    have hx : ifb (okG g f) (ifb (wantG g f) (xO (mk C o) c f h) (.ok undefA h)) (.no "guard") = .ok v h' := hx
    cases hok : okG g f with
    | false => rw [hok] at hx; cases hx
    | true =>
    have hgs := guard_sim hf.1 g1 hok
    rw [hok, ifb_true, hgs] at hx
    cases hw : Region.wanted o (yielded ops a.tmps) with
    | true =>
      rw [hw, ifb_true] at hx
      rw [if_pos rfl]
      exact .inl (mk_sim o c hc f h v h' e a w hx hg hf.1 hr K Q hk)
    | false =>
      rw [hw, ifb_false] at hx
      cases hx
      rw [if_neg (by decide)]
      exact hk e undef w (.refl hr) (undef_VR e)
  · rw [g2] at hx
    exact (no_ok (w := q) hx).elim

/-- A step that makes a block. -/
theorem makeS_sim {c : CallT} {i : Nat} {o : Oper} (ho : ops[i]? = some o) (hm : isMkOp o = true) (hkd : ((Rgn.of C n ops).s i).o.kd = 2) {f : Fr} {h h' : Hp} {v : AV} (hx : stepS ((Rgn.of C n ops).s i) c f h = .ok v h') {e : Emb} {a : Act} {w : World} (hg : GR C e) (hf : FN ds n e f a)
    {K : Act → World → Prop} {Q : Exit → Act → World → Prop} (hk1 : v = undefA → h' = h → K (a.put o.dst undef) w) (hk2 : ∀ (v' : Value) w' B ob sz, Made e h w v h' B ob sz v' w' → K (a.put o.dst v') w') : owOp C.P ops Q i K a w := by
  rw [of_s ho] at hx hkd
  unfold owOp
  simp only [ho]
  rcases mkS_spec (C := C) (n := n) (ops := ops.toList) (o := o) with ⟨g, g1, g2, _⟩ | ⟨q, g2⟩
  · rw [g2] at hx hkd
    have hx : ifb (okG g f) (ifb (wantG g f) (xO (mk C o) c f h) (.ok undefA h)) (.no "guard") = .ok v h' := hx
    cases hok : okG g f with
    | false => rw [hok] at hx; cases hx
    | true =>
    have hgs := guard_sim hf.1 g1 hok
    rw [hok, ifb_true, hgs] at hx
    cases hw : Region.wanted o (yielded ops a.tmps) with
    | true =>
      rw [hw, ifb_true] at hx
      rw [if_pos rfl]
      obtain ⟨v', w', hrun, B, ob, sz, hmd⟩ := make_all hm hkd c f h v h' e a w hx hg hf.1
      exact .inl (wp_val hrun (hk2 v' w' B ob sz hmd))
    | false =>
      rw [hw, ifb_false] at hx
      cases hx
      rw [if_neg (by decide)]
      exact hk1 rfl rfl
  · rw [g2] at hx
    exact (no_ok (w := q) hx).elim

/-- The slot of a step. -/
theorem of_d {i : Nat} {o : Oper} (ho : ops[i]? = some o) {c : CallT} {f : Fr} {h h' : Hp} {v : AV} (hx : stepS ((Rgn.of C n ops).s i) c f h = .ok v h') : ((Rgn.of C n ops).s i).d = o.dst.map path ∧ ∀ t, o.dst = some t → t < n := by
  rw [of_s ho] at hx ⊢
  rcases mkS_spec (C := C) (n := n) (ops := ops.toList) (o := o) with ⟨g, g1, g2, g3⟩ | ⟨q, g2⟩
  · rw [g2]; exact ⟨rfl, g3⟩
  · rw [g2] at hx
    exact (no_ok (w := q) hx).elim
end

/-- Two parts of a region. -/
theorem runR_append (m : List CS) (c : CallT) : ∀ (l : List CS) (f : Fr) (h : Hp), runR (l ++ m) c f h = (runR l c f h).bd Out.no (runR m c) Out.exit
  | [], f, h => rfl
  | s :: l, f, h => by
    show oneS s (runR (l ++ m)) c f h = (oneS s (runR l) c f h).bd Out.no (runR m c) Out.exit
    cases hs : s.again with
    | false =>
      rw [oneS_once hs, oneS_once hs]
      cases stepS s c f h with
      | no w => rfl
      | ok v h2 => exact runR_append m c l _ h2
    | true =>
      rw [oneS_again hs, oneS_again hs]
      cases stepS s c f h with
      | no w => rfl
      | ok v h2 =>
        show ifb (slotIs s.d v f) (runR (l ++ m) c f h2) (.no "not the same once more") = (ifb (slotIs s.d v f) (runR l c f h2) (.no "not the same once more")).bd Out.no (runR m c) Out.exit
        cases slotIs s.d v f with
        | false => rfl
        | true => exact runR_append m c l f h2

/-- What is done once: a step, and the rest. -/
theorem runR_once {s : CS} (hs : s.again = false) {l : List CS} {c : CallT} {f f' : Fr} {h h' : Hp} (hx : runR (s :: l) c f h = .norm f' h') : ∃ v h2, stepS s c f h = .ok v h2 ∧ runR l c (putD s.d v f).out h2 = .norm f' h' := by
  have hx : oneS s (runR l) c f h = .norm f' h' := hx
  rw [oneS_once hs] at hx
  cases hst : stepS s c f h with
  | no w => rw [hst] at hx; cases hx
  | ok v h2 => rw [hst] at hx; exact ⟨v, h2, rfl, hx⟩
/-- What is done once more comes to the same. -/
theorem runR_again {s : CS} (hs : s.again = true) {l : List CS} {c : CallT} {f f' : Fr} {h h' : Hp} (hx : runR (s :: l) c f h = .norm f' h') : ∃ v h2, stepS s c f h = .ok v h2 ∧ (∀ t, s.d = some (path t) → slot f t = v) ∧ runR l c f h2 = .norm f' h' := by
  have hx : oneS s (runR l) c f h = .norm f' h' := hx
  rw [oneS_again hs] at hx
  cases hst : stepS s c f h with
  | no w => rw [hst] at hx; cases hx
  | ok v h2 =>
    rw [hst] at hx
    have hx : ifb (slotIs s.d v f) (runR l c f h2) (.no "not the same once more") = .norm f' h' := hx
    cases hi : slotIs s.d v f with
    | false => rw [hi] at hx; cases hx
    | true =>
      rw [hi] at hx
      refine ⟨v, h2, rfl, fun t ht => ?_, hx⟩
      rw [ht] at hi
      rw [slot_eq]
      have hi : Option.rec (motive := fun _ => Bool) false (fun u => avEq u v) (getP (path t) f) = true := hi
      cases hg : getP (path t) f with
      | none => rw [hg] at hi; cases hi
      | some u => rw [hg] at hi; exact avEq_eq hi
end Go.Ab

