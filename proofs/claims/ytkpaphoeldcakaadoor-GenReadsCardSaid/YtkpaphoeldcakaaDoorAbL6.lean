/-
  An executable reading of the model's code on named blocks, and the proof that what it comes to is what the model does, in any order that is free: part 6.
-/
import Derived.Test.YtkpaphoeldcakaaDoorAbL5
import Derived.Lib.LaidU8
import Derived.Lib.Bytealg
import Derived.ChangeSame
import Derived.WideKeyArgs
import Derived.Lib.BytesEntry
import GoSem.ClaimGoes
/- Calls, done on named blocks, are what the model does. -/
namespace Go.Ab
open Go
variable {C : Cx}

/-! ### Entering -/
theorem frameOf_slot : ∀ (l : List AV) (i : Nat) (f : Fr) (t : Nat), slot (frameOf l i f).out t = if i ≤ t ∧ t < i + l.length then (l[t - i]?).getD undefA else slot f t
  | [], i, f, t => by
    rw [if_neg (by simp only [List.length_nil]; omega)]; rfl
  | v :: l, i, f, t => by
    have h1 : frameOf (v :: l) i f = v.force fun v => (setP v (path i) f).bd fun t => frameOf l (Nat.succ i) t := rfl
    rw [h1, force_eq, setP_eq, Bx.bd_mk, frameOf_slot l (Nat.succ i), slot_set]
    simp only [List.length_cons]
    by_cases h2 : Nat.succ i ≤ t ∧ t < Nat.succ i + l.length
    · rw [if_pos h2, if_pos (by omega), show t - i = (t - Nat.succ i) + 1 by omega]
      simp
    · rw [if_neg h2]
      by_cases h3 : t = i
      · subst h3
        rw [if_pos rfl, if_pos (by omega)]
        simp
      · rw [if_neg h3, if_neg (by omega)]

theorem frame_FN {e : Emb} {args : List AV} {args' : List Value} (h : VRL e args args') (n : Nat) : FN [] n e (frameOf args 0 .e).out { tmps := args'.toArray ++ Array.replicate (n - args'.toArray.size) undef, defers := [] } := by
  refine ⟨⟨fun t => ?_, trivial⟩, ?_, rfl⟩
  · rw [frameOf_slot]
    have hl := h.length
    by_cases ht : 0 ≤ t ∧ t < 0 + args.length
    · rw [if_pos ht]
      have hlt : t < args.length := by omega
      obtain ⟨v', h1, h2⟩ := h.get (List.getElem?_eq_getElem hlt)
      have h3 : (args'.toArray ++ Array.replicate (n - args'.toArray.size) undef).getD t undef = v' := by
        rw [Array.getD_eq_getD_getElem?, Array.getElem?_append_left (by simp; omega)]
        simp [h1]
      rw [h3, Nat.sub_zero, List.getElem?_eq_getElem hlt]
      exact h2
    · rw [if_neg ht]
      have h3 : (args'.toArray ++ Array.replicate (n - args'.toArray.size) undef).getD t undef = undef := by
        rw [Array.getD_eq_getD_getElem?, Array.getElem?_append_right (by simp; omega), Array.getElem?_replicate]
        split <;> rfl
      rw [h3, slot_eq, getP_e]
      exact undef_VR e
  · simp; omega

/-! ### Leaving -/
theorem resOf_sim {e : Emb} {f : Fr} {a : Act} {h : Hp} {w : World} (hf : FR e f a) (hr : HR e h w) {r : ResultVar} {p : List Bool × Option Sh} (hp : mkRes C [r] = [p]) {v : AV} (hx : resOf p f h = .ok v) :
    ∃ v', (match r with
      | .tmp t => pure (a.tmps.getD t undef)
      | .cell b t => do loadVar t (← asAddr (a.tmps.getD b undef)) : Sem Value).run C.P w = .ok v' w ∧ VR e v v' := by
  cases r with
  | tmp t =>
    cases hp
    have hx : Res.ok (ev f (.t (path t))) = .ok v := hx
    cases hx
    exact ⟨_, rfl, hf.1 t⟩
  | cell b t =>
    cases hp
    have hx : (ev f (.t (path b))).onPtr Res.no (fun b g o => Sh.rec (motive := fun _ => Res AV) (fun n => (h.readN b g o n).bd fun l => .ok (.agg l)) (h.read1 b g o) (.no "result") (shOf C t)) = .ok v := hx
    rcases (show VR e (ev f (.t (path b))) _ from hf.1 b).onPtr (no := Res.no) (k := fun b g o => Sh.rec (motive := fun _ => Res AV) (fun n => (h.readN b g o n).bd fun l => .ok (.agg l)) (h.read1 b g o) (.no "result") (shOf C t)) with ⟨b2, g, o', y, _, h1, h2, h3, h4, h5⟩ | ⟨q, h5⟩
    · rw [h5] at hx
      simp only [h4, asAddr]
      cases hs : shOf C t with
      | bad => rw [hs] at hx; exact (no_okR hx).elim
      | one =>
        rw [hs] at hx
        obtain ⟨v', k1, k2, _⟩ := hr.read1 h1 h3 hx
        exact ⟨v', by simp [run_loadVar_one hs k1], k2⟩
      | agg n =>
        rw [hs] at hx
        obtain ⟨l, hl, hx⟩ := Res.bd_eq_ok hx
        cases hx
        obtain ⟨l', k1, k2, k3, _⟩ := hr.readN C.P h1 h3 hl
        exact ⟨.agg l'.toArray, by simp [run_loadVar_agg hs k1], .agg _ _ k2 k3⟩
    · rw [h5] at hx; exact (no_okR hx).elim

theorem resL_sim {e : Emb} {f : Fr} {a : Act} {h : Hp} {w : World} (hf : FR e f a) (hr : HR e h w) : ∀ (rs : List ResultVar) (vs : List AV), resL (mkRes C rs) f h = .ok vs →
    ∃ vs', (rs.mapM fun r => (match r with
      | .tmp t => pure (a.tmps.getD t undef)
      | .cell b t => do loadVar t (← asAddr (a.tmps.getD b undef)) : Sem Value)).run C.P w = .ok vs' w ∧ VRL e vs vs'
  | [], vs, hx => by
    cases hx
    exact ⟨[], rfl, .nil⟩
  | r :: rs, vs, hx => by
    have hcons : ∃ p, mkRes C (r :: rs) = p :: mkRes C rs ∧ mkRes C [r] = [p] := by cases r <;> exact ⟨_, rfl, rfl⟩
    obtain ⟨p, hp1, hp2⟩ := hcons
    rw [hp1] at hx
    have hx : (resOf p f h).bd (fun v => (resL (mkRes C rs) f h).bd fun r => .ok (v :: r)) = .ok vs := hx
    obtain ⟨v, h1, hx⟩ := Res.bd_eq_ok hx
    obtain ⟨vs2, h2, hx⟩ := Res.bd_eq_ok hx
    cases hx
    obtain ⟨v', k1, k2⟩ := resOf_sim hf hr hp2 h1
    obtain ⟨vs', k3, k4⟩ := resL_sim hf hr rs vs2 h2
    refine ⟨v' :: vs', ?_, .cons _ _ _ _ k2 k4⟩
    rw [List.mapM_cons]
    simp only [Sem.run_bind, Sem.run_pure]
    erw [k1]
    simp only [Result.andThen_ok]
    erw [k3]
    rfl

theorem leave_sim {e : Emb} {f : Fr} {a : Act} {h h' : Hp} {w : World} {fn : Func} {code : CC} (hf : FR e f a) (hr : HR e h w) {v : AV} (hx : leave ⟨code, mkRes C fn.results.toList⟩ f h = .ok v h') :
    h' = h ∧ ∃ v', (results fn a.tmps).run C.P w = .ok v' w ∧ VR e v v' := by
  have hx : (resL (mkRes C fn.results.toList) f h).bd2 (fun l => .ok (oneOf l) h) = .ok v h' := hx
  obtain ⟨vs, h1, hx⟩ := Res.bd2_eq_ok hx
  cases hx
  obtain ⟨vs', k1, k2⟩ := resL_sim hf hr fn.results.toList vs h1
  refine ⟨rfl, ?_⟩
  have hrun : (results fn a.tmps).run C.P w = .ok (if h : vs'.toArray.size = 1 then vs'.toArray[0] else .tuple vs'.toArray) w := by
    unfold results
    rw [Array.mapM_eq_mapM_toList]
    simp only [Sem.run_bind, Sem.run_map]
    erw [k1]
    rfl
  rw [hrun]
  refine ⟨_, rfl, ?_⟩
  cases k2 with
  | nil => exact .tup [] [] .nil
  | cons v v' l l' hv hl =>
    cases hl with
    | nil => exact hv
    | cons u u' l2 l2' hu hl => exact .tup _ _ (.cons _ _ _ _ hv (.cons _ _ _ _ hu hl))

/-! ### Calls -/
theorem mkF_spec {g : Nat} {cf : CF} (h : mkF C g = some cf) : ∃ fn b, C.P.funcs[g]? = some fn ∧ fn.body = some b ∧ cf = ⟨mkC C fn.ntmps b, mkRes C fn.results.toList⟩ := by
  unfold mkF at h
  rw [nthA_eq, Array.getElem?_toList] at h
  cases hg : C.P.funcs[g]? with
  | none => rw [hg] at h; cases h
  | some fn =>
    rw [hg] at h
    simp only at h
    cases hb : fn.body with
    | none => rw [hb] at h; cases h
    | some b => rw [hb] at h; cases h; exact ⟨fn, b, rfl, hb, rfl⟩

/-- The marks of loops over functions are taken. -/
theorem leaves_DF {e e' : Emb} {h h' : Hp} {w : World} {fn : Func} {tmps : Array Value} {P : Program} {R : Ending → World → Prop} : ∀ (l : List Deferred) (w' : World), Ext e h w e' h' w' → DF w.heap.size e' w' l → (∀ w'', Ext e h w e' h' w'' → LeavesIn Fence.wide 0 P fn tmps R [] .returning w'') → LeavesInM Fence.wide 0 P fn tmps R l .returning w'
  | [], w', x, _, hk => hk w' x
  | d :: l, w', x, hd, hk => by
    obtain ⟨D, h1, h2, h3, h4⟩ := hd.1 d (.head _)
    have hnd := List.nodup_cons.1 hd.2.1
    have x2 : Ext e h w e' h' (w'.putObj D (.deferred none)) := x.aside (by rw [World.putObj_size]; exact Nat.le_refl _) (fun r _ hr => World.putObj_heap_other fun hh => by
      rcases hr with hr | ⟨b, g, y, hy, hyr⟩
      · omega
      · exact h3 b g y hy (hyr.trans hh)) rfl rfl
    refine ⟨(fun hh => by cases hh), .inl ⟨D, w'.putObj D (.deferred none), by rw [h1], run_takeDeferred h2, leaves_DF l _ x2 ⟨fun d2 hd2 => ?_, hnd.2, by rw [World.putObj_size]; exact hd.2.2⟩ hk⟩⟩
    obtain ⟨D2, k1, k2, k3, k4⟩ := hd.1 d2 (.tail _ hd2)
    refine ⟨D2, k1, ?_, k3, k4⟩
    rw [World.putObj_heap_other]
    · exact k2
    · intro hh
      subst hh
      rw [← h1] at k1
      exact hnd.1 (k1 ▸ hd2)

theorem enter_sim (hd : DrawOK C) (hn : Named C.P) {c : CallT} (hc : CallOK C c) {g : Nat} {fn : Func} {b : Code} {k : Nat} {args : List AV} {args' : List Value} {h h' : Hp} {v : AV} (hg : C.P.funcs[g]? = some fn) (hb : fn.body = some b)
    (hx : enter ⟨mkC C fn.ntmps b, mkRes C fn.results.toList⟩ k c args h = .ok v h') {e : Emb} {w : World} (hge : GR C e) (hv : VRL e args args') (hr : HR e h w) :
    Calls C.P g args'.toArray w fun en w' => ∃ v' e', en = .returned v' ∧ VR e' v v' ∧ Ext e h w e' h' w' := by
  refine (callsIn_wide (n := 0)).1 (callsIn_of_wp_marks hg hb trivial ?_)
  have hx : Out.rec (motive := fun _ => R2) (leave ⟨mkC C fn.ntmps b, mkRes C fn.results.toList⟩) (fun _ _ _ => .no "exit") (leave ⟨mkC C fn.ntmps b, mkRes C fn.results.toList⟩) R2.no ((frameOf args 0 .e).bd fun f => runC (mkC C fn.ntmps b) k c f h) = .ok v h' := hx
  rw [Bx.eta (frameOf args 0 .e), Bx.bd_mk] at hx
  refine code_sim (R := fun ro => ro = none) hd hn fn.ntmps b (.inl fun _ hh => hh) w.heap.size k c hc _ h e _ w _ hge (frame_FN hv fn.ntmps) (DF.nil e (Nat.le_refl _)) hr ?_ none rfl
  cases ho : runC (mkC C fn.ntmps b) k c (frameOf args 0 .e).out h with
  | no q => rw [ho] at hx; exact (no_ok hx).elim
  | exit i f2 h2 => rw [ho] at hx; exact (no_ok hx).elim
  | norm f2 h2 =>
    rw [ho] at hx
    intro e' a' w' hext hf' hdf'
    refine leaves_DF a'.defers w' hext hdf' fun w'' hext'' => ?_
    obtain ⟨rfl, v', k1, k2⟩ := leave_sim hf'.1 hext''.hr hx
    exact ⟨v', k1, v', e', rfl, k2, hext''⟩
  | ret f2 h2 =>
    rw [ho] at hx
    intro e' a' w' hext hf' hdf'
    refine leaves_DF a'.defers w' hext hdf' fun w'' hext'' => ?_
    obtain ⟨rfl, v', k1, k2⟩ := leave_sim hf'.1 hext''.hr hx
    exact ⟨v', k1, v', e', rfl, k2, hext''⟩

/-! ### A round of a loop over a function -/
theorem lastN_append (m : Nat) : ∀ xs : List AV, lastN (xs ++ [.ptr m 0 0]) = some m
  | [] => rfl
  | x :: xs => by
    have h := lastN_append m xs
    cases xs with
    | nil => rfl
    | cons y ys => exact h
theorem putXs_nil : ∀ (ps : List Nat) (f : Fr), putXs ps [] f = none
  | [], _ => rfl
  | _ :: _, _ => rfl
theorem putXs_spec {e : Emb} {m : Nat} : ∀ (ps : List Nat) (xs : List AV) (f : Fr) (r : Fr × Nat) (xs' : List Value) (tmps : Array Value), putXs ps (xs ++ [.ptr m 0 0]) f = some r → VRL e xs xs' → (∀ t, VR e (slot f t) (tmps.getD t undef)) → (∀ t ∈ ps, t < tmps.size) →
    xs'.length = ps.length ∧ (∀ t, VR e (slot r.1 t) (((ps.zip xs').foldl (fun tm (p : Nat × Value) => tm.setIfInBounds p.1 p.2) tmps).getD t undef)) ∧ ((ps.zip xs').foldl (fun tm (p : Nat × Value) => tm.setIfInBounds p.1 p.2) tmps).size = tmps.size
  | [], xs, f, r, xs', tmps, hx, hv, hf, _ => by
    cases xs with
    | nil =>
      cases hv
      have hx : some (f, m) = some r := hx
      cases hx
      exact ⟨rfl, hf, rfl⟩
    | cons x xs =>
      exfalso
      have hx : (match x :: (xs ++ [.ptr m 0 0]) with
        | [.ptr m 0 0] => some (f, m)
        | _ => none) = some r := hx
      cases xs with
      | nil => split at hx <;> first | (rename_i hh; cases hh; done) | cases hx
      | cons y ys => split at hx <;> first | (rename_i hh; cases hh; done) | cases hx
  | p :: ps, xs, f, r, xs', tmps, hx, hv, hf, hp => by
    cases xs with
    | nil =>
      exfalso
      have hx : (setP (.ptr m 0 0) (path p) f).bd (fun f => putXs ps [] f) = some r := hx
      rw [Bx.eta (setP (.ptr m 0 0) (path p) f), Bx.bd_mk, putXs_nil] at hx
      cases hx
    | cons x xs =>
      cases hv with
      | cons _ v' _ l' h1 h2 =>
        have hx : (setP x (path p) f).bd (fun f => putXs ps (xs ++ [.ptr m 0 0]) f) = some r := hx
        rw [setP_eq, Bx.bd_mk] at hx
        have hpl := hp p (.head _)
        obtain ⟨k1, k2, k3⟩ := putXs_spec ps xs _ r l' (tmps.setIfInBounds p v') hx h2 (fun t => by
          rw [slot_set]
          by_cases ht : t = p
          · subst ht
            rw [if_pos rfl]
            simpa [hpl] using h1
          · rw [if_neg ht]
            have : (tmps.setIfInBounds p v').getD t undef = tmps.getD t undef := by
              simp [Array.getElem?_setIfInBounds_ne (Ne.symm ht)]
            rw [this]; exact hf t) (fun t ht => by simpa using hp t (.tail _ ht))
        refine ⟨by simp [k1], k2, ?_⟩
        rw [List.zip_cons_cons, List.foldl_cons, k3]
        simp

theorem fin_ok {o : Out} {k : Fr → Hp → R2} {v : AV} {h' : Hp} (hx : o.fin k = .ok v h') : ∃ f h, o = .norm f h ∧ k f h = .ok v h' := by
  cases o with
  | norm f h => exact ⟨f, h, rfl, hx⟩
  | exit i f h => cases hx
  | ret f h => cases hx
  | no q => cases hx

theorem rnd_sim (hd : DrawOK C) (hn : Named C.P) {c : CallT} (hc : CallOK C c) {k : Nat} {args : List AV} {h h' : Hp} {v : AV} (hx : rnd C k c args h = .ok v h') {e : Emb} {w : World} {xs : List AV} {xs' : List Value} {m : Nat} {x : Loc}
    (hargs : args = xs ++ [.ptr m 0 0]) (hm : e m 0 = some x) (hge : GR C e) (hv : VRL e xs xs') (hr : HR e h w) :
    ∃ fn tmps assign body, (Instr.yield x.r xs'.toArray).run C.P w = .ok (.round x.r fn tmps assign body) w ∧ RoundIn Fence.wide 0 C.P x.r fn tmps assign body w fun en w' => ∃ v' e', en = .returned v' ∧ VR e' v v' ∧ Ext e h w e' h' w' := by
  unfold rnd at hx
  rw [hargs, lastN_append] at hx
  simp only at hx
  cases hget : h.get m with
  | none => rw [hget] at hx; cases hx
  | some blk =>
  rw [hget] at hx
  cases blk <;> try (cases hx; done)
  rename_i q
  have hx : (match putXs q.ps (xs ++ [.ptr m 0 0]) q.f with
      | some f => (runC (mkC C q.n q.a) k c f.1 h).fin fun f2 h2 => (h2.put m (.sit 0 0 8)).bd fun h3 => (runC (mkC C q.n q.b) k c f2 h3).fin fun _ h4 => (h4.put m (.lp q)).bd fun h5 => .ok (.bool true) h5
      | none => .no "yield: values") = .ok v h' := hx
  cases hpx : putXs q.ps (xs ++ [.ptr m 0 0]) q.f with
  | none => rw [hpx] at hx; cases hx
  | some f =>
  rw [hpx] at hx
  obtain ⟨f2, h2, ha, hx⟩ := fin_ok (show (runC (mkC C q.n q.a) k c f.1 h).fin _ = .ok v h' from hx)
  rw [Hp.put_eq, Bx.bd_mk] at hx
  obtain ⟨f4, h4, hb, hx⟩ := fin_ok hx
  rw [Hp.put_eq, Bx.bd_mk] at hx
  cases hx
  obtain ⟨blk, k1, k2⟩ := hr.at' m 0 x hm
  rw [hget] at k1; cases k1
  generalize hob : w.heap[x.r]? = ob at k2
  have hlt : x.r < w.heap.size := (hr.lt m 0 x hm).1
  cases k2 with
  | cells _ _ _ q => exact q.cells.elim
  | map _ _ _ _ hh => cases hh
  | sit _ _ hh => cases hh
  | iter _ _ _ _ hh => cases hh
  | busy _ hh => cases hh
  | dfr hh => cases hh
  | lp q' fn tmps df hq _ hbl hsl hsz hps hfa hfb =>
    cases hq
    obtain ⟨s1, s2, s3⟩ := putXs_spec q.ps xs q.f f xs' tmps hpx hv hsl (fun t ht => Nat.lt_of_lt_of_le (hps t ht) hsz)
    obtain ⟨rec, hrec⟩ : ∃ rec : Loop, rec = { state := .ready, pending := none, fn := fn, tmps := tmps, params := q.ps.toArray, assign := q.a, body := q.b, defers := df } := ⟨_, rfl⟩
    rw [← hrec] at hob
    have hbr : ∀ e4 : Emb, e.le e4 → BR e4 (.lp q) 0 x (some (.loop rec)) := fun e4 hle => by
      rw [hrec]; exact .lp q fn tmps df rfl rfl hbl (fun t => (hsl t).mono hle) hsz hps hfa hfb
    have rom : h.ro m := ⟨(hr.lt m 0 x hm).2, .inl ⟨_, hget, trivial⟩⟩
    refine ⟨fn, (q.ps.zip xs').foldl (fun tm (p : Nat × Value) => tm.setIfInBounds p.1 p.2) tmps, q.a, q.b, ?_, ?_⟩
    · have := run_yield (P := C.P) (args := xs'.toArray) hob (by rw [hrec]; simp [s1])
      rw [this, hrec]
      simp
    · refine roundIn_of_wpIn trivial ?_
      have fn0 : FN [] q.n e f.1 { tmps := (q.ps.zip xs').foldl (fun tm (p : Nat × Value) => tm.setIfInBounds p.1 p.2) tmps, defers := [] } := ⟨⟨s2, trivial⟩, by rw [s3]; exact hsz, rfl⟩
      refine code_sim (R := fun _ => True) hd hn q.n q.a (.inr hfa) w.heap.size k c hc f.1 h e _ w _ hge fn0 (DF.nil e (Nat.le_refl _)) hr ?_ (some x.r) trivial
      rw [ha]
      intro e2 a2 w2 x1 hf2 hd2
      have hx2 : e2 m 0 = some x := x1.le _ _ _ hm
      have hget2 : h2.get m = some (.lp q) := (x1.ro m rom).trans hget
      have hob2 : w2.heap[x.r]? = some (.loop rec) := (x1.frame x.r hlt fun b g y hy hyr => by
        have := (hr.inj _ _ _ _ _ _ hy hm hyr).1
        subst this; exact rom).trans hob
      refine ⟨_, run_beginRound hob2 (by rw [hrec]), ?_⟩
      have hr3 := x1.hr.turn hx2 hget2 id (BR.busy (e := e2) (b := .sit 0 0 8) (g := 0) (x := x) (.loop { rec with state := .busy }) rfl rfl hbl)
      have hd3 : DF w.heap.size e2 (w2.putObj x.r (.loop { rec with state := .busy })) a2.defers := hd2.other (r := x.r) (fun o hh => by rw [hob2] at hh; cases hh) (fun k hk => World.putObj_heap_other hk) (by rw [World.putObj_size]; exact Nat.le_refl _)
      refine code_sim (R := fun _ => True) hd hn q.n q.b (.inr hfb) w.heap.size k c hc f2 _ e2 a2 _ _ (hge.mono x1.le) hf2 hd3 hr3 ?_ (some x.r) trivial
      rw [hb]
      intro e4 a4 w4 x2 hf4 hd4
      have hob4 : w4.heap[x.r]? = some (.loop { rec with state := .busy }) := by
        rw [x2.frame x.r (by rw [World.putObj_size]; have := x1.size; omega) fun b g y hy hyr => ?_]
        · exact World.putObj_heap_same (by have := x1.size; omega)
        · have := (x1.hr.inj _ _ _ _ _ _ hy hx2 hyr).1
          subst this
          refine ⟨(x1.hr.lt _ _ _ hx2).2, .inl ⟨.sit 0 0 8, ?_, rfl, rfl, .inl rfl⟩⟩
          rw [Hp.get_set _ _ h2.n, if_pos rfl]
      have hend := run_endRound (P := C.P) none hob4
      refine ⟨_, _, hend, .bool true, e4, rfl, .bool true, ?_⟩
      have hfin := Ext.round hr hm hget hob x1 x2 (hbr e4 (x1.le.trans x2.le))
      rw [hrec] at hfin ⊢
      exact hfin

/-- What is known of calls is so. -/
def SpOK (C : Cx) (sp : Nat → List AV → Hp → Option (AV × Hp)) : Prop := ∀ g args h v h', sp g args h = some (v, h') → CallOne C g args h v h'

/-- Calls, so deep. -/
theorem callK_sim (hd : DrawOK C) (hn : Named C.P) {sp : Nat → List AV → Hp → Option (AV × Hp)} (hsp : SpOK C sp) (k : Nat) : ∀ d, CallOK C (callK C sp k d)
  | 0 => fun _ _ _ _ _ hx => (no_ok (w := "depth") hx).elim
  | d + 1 => fun g args h v h' hx => by
    have hx : Option.rec (motive := fun _ => R2) (ifb (Nat.ble yF g) (ifb (Nat.beq g yF) (rnd C k (callK C sp k d) args h) (.no "no such function")) (Option.rec (motive := fun _ => R2) (.no "no such function, or no body") (fun cf => enter cf k (callK C sp k d) args h) (mkF C g))) (fun q => .ok q.1 q.2) (sp g args h) = .ok v h' := hx
    cases hs : sp g args h with
    | some q =>
      rw [hs] at hx
      cases hx
      exact hsp g args h q.1 q.2 hs
    | none =>
      rw [hs] at hx
      have hx : ifb (Nat.ble yF g) (ifb (Nat.beq g yF) (rnd C k (callK C sp k d) args h) (.no "no such function")) (Option.rec (motive := fun _ => R2) (.no "no such function, or no body") (fun cf => enter cf k (callK C sp k d) args h) (mkF C g)) = .ok v h' := hx
      cases hy : Nat.ble yF g with
      | true =>
        rw [hy, ifb_true] at hx
        cases hb : Nat.beq g yF with
        | false => rw [hb] at hx; exact (no_ok hx).elim
        | true =>
          rw [hb, ifb_true] at hx
          exact .inr (.inr ⟨beq_iff.1 hb, fun e w xs xs' m x h1 h2 _ h4 h5 h6 => rnd_sim hd hn (callK_sim hd hn hsp k d) hx h1 h2 h4 h5 h6⟩)
      | false =>
        rw [hy, ifb_false] at hx
        obtain ⟨cf, hcf, hx⟩ := optR hx
        obtain ⟨fn, b, h1, h2, rfl⟩ := mkF_spec hcf
        refine .inl ⟨hy, ⟨fn, b, h1, hn g fn h1 (by rw [h2]; exact fun hh => by cases hh), h2⟩, fun e w args' hg hv hr => ?_⟩
        exact enter_sim hd hn (callK_sim hd hn hsp k d) h1 h2 hx hg hv hr
end Go.Ab

/- Calls of which it is known what they come to (second part). -/
namespace Go.Ab
open Go
variable {C : Cx}

/-- What is laid: the blocks of the package-level variables that are known. -/
structure Laid (C : Cx) (gl : List (Nat × List AV)) (n : Nat) : Prop where
  gs : C.gs = gl.map (·.1)
  ok : globOK gl (globHp gl n) = true
  lt : gl.all (fun q => and (Nat.ble (q.1 + 1) n) (closedL q.2)) = true

/-- The names of the package-level variables, and of the arguments' blocks. -/
def baseE (gl : List (Nat × List AV)) (n : Nat) (mu : List (Nat × Nat)) (e : Emb) : Emb := fun b g => if g = 0 then (if b ∈ gl.map (·.1) then e b 0 else if n ≤ b then (match mu[b - n]? with
  | some p => e p.1 p.2
  | none => none) else none) else none
theorem baseE_spec {gl : List (Nat × List AV)} {n : Nat} {mu : List (Nat × Nat)} {e : Emb} {b g : Nat} {x : Loc} (h : baseE gl n mu e b g = some x) : g = 0 ∧ ((b ∈ gl.map (·.1) ∧ e b 0 = some x) ∨ ∃ i p, b = n + i ∧ mu[i]? = some p ∧ e p.1 p.2 = some x) := by
  unfold baseE at h
  by_cases hg : g = 0
  · rw [if_pos hg] at h
    by_cases hb : b ∈ gl.map (·.1)
    · rw [if_pos hb] at h; exact ⟨hg, .inl ⟨hb, h⟩⟩
    · rw [if_neg hb] at h
      by_cases hn : n ≤ b
      · rw [if_pos hn] at h
        cases hm : mu[b - n]? with
        | none => rw [hm] at h; cases h
        | some p => rw [hm] at h; exact ⟨hg, .inr ⟨b - n, p, by omega, hm, h⟩⟩
      · rw [if_neg hn] at h; cases h
  · rw [if_neg hg] at h; cases h

section
variable {gl : List (Nat × List AV)} {n : Nat} {mu : List (Nat × Nat)} {e : Emb} {h : Hp} {w : World} {q : Kn}

theorem Laid.lt' (L : Laid C gl n) {b : Nat} (hb : b ∈ gl.map (·.1)) : b < n := by
  obtain ⟨p, hp, rfl⟩ := List.mem_map.1 hb
  have := List.all_eq_true.1 L.lt _ hp
  rw [Bool.and_eq_true] at this
  exact Nat.le_of_ble_eq_true this.1
theorem baseE_arg (L : Laid C gl n) {i : Nat} {p : Nat × Nat} (hp : mu[i]? = some p) : baseE gl n mu e (n + i) 0 = e p.1 p.2 := by
  unfold baseE
  rw [if_pos rfl, if_neg (fun hh => by have := L.lt' hh; omega), if_pos (by omega), Nat.add_sub_cancel_left, hp]

theorem argHp_spec (gl : List (Nat × List AV)) (n : Nat) (bas : List (List AV × Nat)) : (argHp gl n bas).n = n + bas.length ∧ (argHp gl n bas).lk = ⟨n + bas.length, []⟩ ∧ (∀ b, b < n → (argHp gl n bas).get b = (globHp gl n).get b) ∧
    ∀ i q, bas[i]? = some q → (argHp gl n bas).get (n + i) = some (.flat (renL (renU (argMu n bas.length) 0) q.1) q.2) := by
  have h1 : argHp gl n bas = ⟨(addAll (renU (argMu n bas.length) 0) bas (globHp gl n)).out.t, (addAll (renU (argMu n bas.length) 0) bas (globHp gl n)).out.n, ⟨(addAll (renU (argMu n bas.length) 0) bas (globHp gl n)).out.n, []⟩⟩ := by
    unfold argHp
    rw [lenA_eq, Bx.eta (addAll (renU (argMu n bas.length) 0) bas (globHp gl n)), Bx.bd_mk]
    rfl
  obtain ⟨k1, k2, k3, k4⟩ := addAll_spec (renU (argMu n bas.length) 0) bas (globHp gl n)
  rw [globHp_n] at k1 k3 k4
  rw [h1]
  exact ⟨k1, by rw [k1], k3, k4⟩

theorem base_sim (L : Laid C gl n) (hg : GR C e) (hr : HR e h w) (hgo : globOK gl h = true) (hb : blksOK (renU mu h.n) h n mu q.bas = true) :
    GR C (baseE gl n mu e) ∧ HR (baseE gl n mu e) (argHp gl n q.bas) w ∧ ∀ i x, e (renU mu h.n i).1 (renU mu h.n i).2 = some x → baseE gl n mu e (renU (argMu n q.bas.length) 0 i).1 (renU (argMu n q.bas.length) 0 i).2 = some x := by
  obtain ⟨hlen, hge, hpw, hblk⟩ := blksOK_spec hb
  obtain ⟨a1, a2, a3, a4⟩ := argHp_spec gl n q.bas
  have hmem : ∀ b, b ∈ gl.map (·.1) → ∃ l, (b, l) ∈ gl := fun b hb => by
    obtain ⟨p, hp, rfl⟩ := List.mem_map.1 hb
    exact ⟨p.2, hp⟩
  have hk : ∀ i x, e (renU mu h.n i).1 (renU mu h.n i).2 = some x → baseE gl n mu e (renU (argMu n q.bas.length) 0 i).1 (renU (argMu n q.bas.length) 0 i).2 = some x := fun i x hx => by
    cases hi : mu[i]? with
    | none =>
      rw [renU_ge hi] at hx
      have := (hr.lt _ _ _ hx).2
      exact absurd this (by show ¬ h.n + (i - mu.length) < h.n; omega)
    | some p =>
      rw [renU_lt hi] at hx
      have hil : i < q.bas.length := by have := (List.getElem?_eq_some_iff.1 hi).1; omega
      rw [renU_lt (show (argMu n q.bas.length)[i]? = some (n + i, 0) by rw [argMu_get, if_pos hil])]
      show baseE gl n mu e (n + i) 0 = some x
      rw [baseE_arg L hi]; exact hx
  refine ⟨fun g hgm => ?_, ⟨fun b g x b' g' x' h1 h2 hrr => ?_, fun b g x h1 => ?_, fun b g x h1 => ?_⟩, hk⟩
  · obtain ⟨x, h1, h2⟩ := hg g hgm
    refine ⟨x, ?_, h2⟩
    rw [L.gs] at hgm
    obtain ⟨j, hj, hj2⟩ := List.any_eq_true.1 hgm
    have : g = j := beq_iff.1 hj2
    subst this
    unfold baseE
    rw [if_pos rfl, if_pos hj]; exact h1
  · obtain ⟨rfl, k1⟩ := baseE_spec h1
    obtain ⟨rfl, k2⟩ := baseE_spec h2
    rcases k1 with ⟨k3, k4⟩ | ⟨i, p, rfl, k3, k4⟩ <;> rcases k2 with ⟨j3, j4⟩ | ⟨j, p', rfl, j3, j4⟩
    · exact hr.inj _ _ _ _ _ _ k4 j4 hrr
    · have := (hr.inj _ _ _ _ _ _ k4 j4 hrr).1
      have h3 := L.lt' k3
      have h4 := hge p' (List.mem_of_getElem? j3)
      omega
    · have := (hr.inj _ _ _ _ _ _ k4 j4 hrr).1
      have h3 := L.lt' j3
      have h4 := hge p (List.mem_of_getElem? k3)
      omega
    · have hpp := hr.inj _ _ _ _ _ _ k4 j4 hrr
      have hij : i = j := by
        refine Classical.byContradiction fun hne => ?_
        obtain ⟨hi, hi2⟩ := List.getElem?_eq_some_iff.1 k3
        obtain ⟨hj, hj2⟩ := List.getElem?_eq_some_iff.1 j3
        rcases Nat.lt_or_gt_of_ne hne with hl | hl
        · have := List.pairwise_iff_getElem.1 hpw i j hi hj hl
          rw [hi2, hj2] at this
          exact this hpp.1
        · have := List.pairwise_iff_getElem.1 hpw j i hj hi hl
          rw [hi2, hj2] at this
          exact this hpp.1.symm
      exact ⟨by rw [hij], hpp.2⟩
  · rw [a1]
    obtain ⟨rfl, k1⟩ := baseE_spec h1
    rcases k1 with ⟨k3, k4⟩ | ⟨i, p, rfl, k3, k4⟩
    · have := L.lt' k3
      exact ⟨(hr.lt _ _ _ k4).1, by omega⟩
    · have := (List.getElem?_eq_some_iff.1 k3).1
      exact ⟨(hr.lt _ _ _ k4).1, by omega⟩
  · obtain ⟨rfl, k1⟩ := baseE_spec h1
    rcases k1 with ⟨k3, k4⟩ | ⟨i, p, rfl, k3, k4⟩
    · obtain ⟨l, hl⟩ := hmem b k3
      have hcl := List.all_eq_true.1 L.lt _ hl
      rw [Bool.and_eq_true] at hcl
      obtain ⟨blk, h2, h3⟩ := hr.at' b 0 x k4
      rw [globOK_get hgo hl] at h2; cases h2
      exact ⟨_, by rw [a3 b (L.lt' k3)]; exact globOK_get L.ok hl, h3.closedT hcl.2⟩
    · have hi := (List.getElem?_eq_some_iff.1 k3).1
      have hq : q.bas[i]? = some (q.bas[i]'(by omega)) := List.getElem?_eq_getElem _
      generalize q.bas[i]'(by omega) = bq at hq
      obtain ⟨blk, h2, h3⟩ := hr.at' p.1 p.2 x k4
      exact ⟨_, a4 i bq hq, BR.ofBlk hk (hblk i p bq k3 hq) h2 h3⟩

/-- What was done from the package-level variables and the arguments alone is so here: other names. -/
theorem kn_ext (L : Laid C gl n) (hr : HR e h w) (hbm : blksOK (renU mu h.n) h n mu q.bas = true) {keep : List (Nat × Nat)} {v1 : AV} {h1 : Hp} (hv : v1 = q.v.ren (renK (argMu n q.bas.length) keep h1.n)) (hb : blksOK (renK (argMu n q.bas.length) keep h1.n) h1 (n + q.bas.length) keep q.bs = true)
    {v' : Value} {e1 : Emb} {w' : World} (hvr : VR e1 v1 v') (hext : Ext (baseE gl n mu e) (argHp gl n q.bas) w e1 h1 w') :
    ∃ e', VR e' (q.v.ren (renU mu h.n)) v' ∧ Ext e h w e' (addAll (renU mu h.n) q.bs h).out w' := by
  obtain ⟨hmlen, hmge, _, _⟩ := blksOK_spec hbm
  obtain ⟨hlen, hge, hpw, hblk⟩ := blksOK_spec hb
  obtain ⟨a1, a2, a3, a4⟩ := addAll_spec (renU mu h.n) q.bs h
  obtain ⟨b1, b2, b3, b4⟩ := argHp_spec gl n q.bas
  generalize (addAll (renU mu h.n) q.bs h).out = h' at a1 a2 a3 a4
  let e' : Emb := fun b g => if b < h.n then e b g else match keep[b - h.n]? with
    | some p => if g = 0 then e1 p.1 p.2 else none
    | none => none
  have hold : ∀ b g, b < h.n → e' b g = e b g := fun b g hb => by show (if b < h.n then e b g else _) = _; rw [if_pos hb]
  have hnew : ∀ (i : Nat) (p : Nat × Nat), keep[i]? = some p → e' (h.n + i) 0 = e1 p.1 p.2 := fun i p hp => by
    show (if h.n + i < h.n then e (h.n + i) 0 else match keep[h.n + i - h.n]? with
      | some p => if (0 : Nat) = 0 then e1 p.1 p.2 else none
      | none => none) = _
    rw [if_neg (by omega), Nat.add_sub_cancel_left, hp]
    simp
  have hle : e.le e' := fun b g x hx => by rw [hold b g (hr.lt b g x hx).2]; exact hx
  have hcase : ∀ b g x, e' b g = some x → (b < h.n ∧ e b g = some x) ∨ ∃ i p, b = h.n + i ∧ g = 0 ∧ keep[i]? = some p ∧ e1 p.1 p.2 = some x := fun b g x hx => by
    by_cases hbn : b < h.n
    · rw [hold b g hbn] at hx; exact .inl ⟨hbn, hx⟩
    · right
      have hx : (if b < h.n then e b g else match keep[b - h.n]? with
        | some p => if g = 0 then e1 p.1 p.2 else none
        | none => none) = some x := hx
      rw [if_neg hbn] at hx
      cases hk : keep[b - h.n]? with
      | none => rw [hk] at hx; cases hx
      | some p =>
        rw [hk] at hx
        simp only at hx
        by_cases hg : g = 0
        · rw [if_pos hg] at hx
          exact ⟨b - h.n, p, by omega, hg, hk, hx⟩
        · rw [if_neg hg] at hx; cases hx
  have hk : ∀ i x, e1 (renK (argMu n q.bas.length) keep h1.n i).1 (renK (argMu n q.bas.length) keep h1.n i).2 = some x → e' (renU mu h.n i).1 (renU mu h.n i).2 = some x := fun i x hx => by
    cases hi : mu[i]? with
    | some p =>
      have hil : i < q.bas.length := by have := (List.getElem?_eq_some_iff.1 hi).1; omega
      rw [renK_lt (show (argMu n q.bas.length)[i]? = some (n + i, 0) by rw [argMu_get, if_pos hil])] at hx
      have hx : e1 (n + i) 0 = some x := hx
      rw [renU_lt hi]
      rcases hext.names _ _ _ hx with ⟨g0, x0, h0⟩ | h0
      · obtain ⟨rfl, _⟩ := baseE_spec h0
        have h2 := hext.le _ _ _ h0
        rw [hx] at h2; cases h2
        rw [baseE_arg L hi] at h0
        exact hle _ _ _ h0
      · rw [b1] at h0; omega
    | none =>
      have hil : ¬ i < q.bas.length := by
        intro hh
        rw [List.getElem?_eq_none_iff] at hi
        omega
      rw [renK_ge (show (argMu n q.bas.length)[i]? = none by rw [argMu_get, if_neg hil]), argMu_length] at hx
      rw [renU_ge hi]
      cases hki : keep[i - q.bas.length]? with
      | none =>
        rw [hki] at hx
        have := (hext.hr.lt _ _ _ hx).2
        exact absurd this (Nat.lt_irrefl _)
      | some p =>
        rw [hki] at hx
        show e' (h.n + (i - mu.length)) 0 = some x
        rw [hmlen, hnew _ p hki]; exact hx
  have hro : ∀ r, r < w.heap.size → w'.heap[r]? = w.heap[r]? := fun r hlt => hext.frame r hlt fun b g x hx _ => by
    obtain ⟨rfl, k0⟩ := baseE_spec hx
    rcases k0 with ⟨k3, _⟩ | ⟨i, p, rfl, k3, _⟩
    · obtain ⟨y, hy, rfl⟩ := List.mem_map.1 k3
      have := L.lt' k3
      exact ⟨by rw [b1]; omega, .inl ⟨.flat y.2 3, by rw [b3 _ (L.lt' k3)]; exact globOK_get L.ok hy, show (3 : Nat) = 3 from rfl⟩⟩
    · have := (List.getElem?_eq_some_iff.1 k3).1
      refine ⟨by rw [b1]; omega, .inr ?_⟩
      unfold Hp.okw
      rw [b2]
      have h1 : Nat.ble (n + q.bas.length) (n + i) = false := by
        cases hh : Nat.ble (n + q.bas.length) (n + i) with
        | false => rfl
        | true => have := Nat.le_of_ble_eq_true hh; omega
      show ifb (Nat.ble (n + q.bas.length) (n + i)) true (memN (n + i) []) = false
      rw [h1]; rfl
  have hfresh : ∀ (i : Nat) (p : Nat × Nat) (x : Loc), keep[i]? = some p → e1 p.1 p.2 = some x → w.heap.size ≤ x.r := fun i p x hp hx => by
    rcases hext.blocks _ _ _ hx with ⟨g0, x0, h0, _⟩ | h0
    · obtain ⟨_, k0⟩ := baseE_spec h0
      have h3 := hge p (List.mem_of_getElem? hp)
      rcases k0 with ⟨k3, _⟩ | ⟨j, p', k3, k4, _⟩
      · have := L.lt' k3; omega
      · have := (List.getElem?_eq_some_iff.1 k4).1; omega
    · exact h0
  refine ⟨e', by subst hv; exact VR.ren hk q.v hvr, hle, ⟨?_, ?_, ?_⟩, ?_, ?_, fun r hlt _ => hro r hlt, fun b hb _ => a3 b hb, fun b hb => a3 b hb.1, by omega, hext.size, hext.os, hext.output, a2⟩
  · intro b g x b' g' x' hx hx' hrr
    rcases hcase _ _ _ hx with ⟨k1, k2⟩ | ⟨i, p, k1, k2, k3, k4⟩ <;> rcases hcase _ _ _ hx' with ⟨j1, j2⟩ | ⟨j, p', j1, j2, j3, j4⟩
    · exact hr.inj _ _ _ _ _ _ k2 j2 hrr
    · have := hfresh j p' x' j3 j4
      have := (hr.lt _ _ _ k2).1
      omega
    · have := hfresh i p x k3 k4
      have := (hr.lt _ _ _ j2).1
      omega
    · have hpp := hext.hr.inj _ _ _ _ _ _ k4 j4 hrr
      have hij : i = j := by
        refine Classical.byContradiction fun hne => ?_
        obtain ⟨hi, hi2⟩ := List.getElem?_eq_some_iff.1 k3
        obtain ⟨hj, hj2⟩ := List.getElem?_eq_some_iff.1 j3
        rcases Nat.lt_or_gt_of_ne hne with hl | hl
        · have := List.pairwise_iff_getElem.1 hpw i j hi hj hl
          rw [hi2, hj2] at this
          exact this hpp.1
        · have := List.pairwise_iff_getElem.1 hpw j i hj hi hl
          rw [hi2, hj2] at this
          exact this hpp.1.symm
      exact ⟨by rw [k1, j1, hij], hpp.2⟩
  · intro b g x hx
    rcases hcase _ _ _ hx with ⟨k1, k2⟩ | ⟨i, p, k1, k2, k3, k4⟩
    · have := hr.lt _ _ _ k2
      exact ⟨Nat.lt_of_lt_of_le this.1 hext.size, by omega⟩
    · have := (List.getElem?_eq_some_iff.1 k3).1
      exact ⟨(hext.hr.lt _ _ _ k4).1, by omega⟩
  · intro b g x hx
    rcases hcase _ _ _ hx with ⟨k1, k2⟩ | ⟨i, p, rfl, rfl, k3, k4⟩
    · obtain ⟨blk, j1, j2⟩ := hr.at' _ _ _ k2
      refine ⟨blk, by rw [a3 b k1]; exact j1, ?_⟩
      rw [hro _ (hr.lt _ _ _ k2).1]
      exact j2.mono hle
    · have hi := (List.getElem?_eq_some_iff.1 k3).1
      have hq : q.bs[i]? = some (q.bs[i]'(by omega)) := List.getElem?_eq_getElem _
      generalize q.bs[i]'(by omega) = bq at hq
      obtain ⟨blk2, m1, m2⟩ := hext.hr.at' _ _ _ k4
      exact ⟨_, a4 i bq hq, BR.ofBlk hk (hblk i p bq k3 hq) m1 m2⟩
  · intro b g x hx
    rcases hcase _ _ _ hx with ⟨k1, k2⟩ | ⟨i, p, k1, _⟩
    · exact .inl ⟨g, x, k2⟩
    · exact .inr (by omega)
  · intro b g x hx
    rcases hcase _ _ _ hx with ⟨k1, k2⟩ | ⟨i, p, k1, k2, k3, k4⟩
    · exact .inl ⟨g, x, k2, rfl⟩
    · exact .inr (hfresh i p x k3 k4)
end

/-- A known call. -/
theorem kn_sim {gl : List (Nat × List AV)} {n : Nat} (L : Laid C gl n) {c : CallT} (hc : CallOK C c) {keep : List (Nat × Nat)} {q : Kn} (hok : q.ok c gl n keep = true) {args : List AV} {h h' : Hp} {v : AV} (hu : q.use gl n args h = some (v, h')) : CallOne C q.g args h v h' := by
  unfold Kn.use at hu
  simp only at hu
  generalize muOfK q args h = mu at hu
  cases hg : and (avEqL args (renL (renU mu h.n) q.args)) (and (globOK gl h) (blksOK (renU mu h.n) h n mu q.bas)) with
  | false => rw [hg] at hu; cases hu
  | true =>
  rw [hg, ifb_true, natF_eq, force_eq, Bx.eta (addAll _ q.bs h), Bx.bd_mk] at hu
  cases hu
  simp only [Bool.and_eq_true] at hg
  obtain ⟨hargs, hgo, hbm⟩ := hg
  have hargs := avEqL_eq hargs
  unfold Kn.ok at hok
  rw [lenA_eq] at hok
  rw [Bool.and_eq_true, Bool.not_eq_true'] at hok
  obtain ⟨hy, hok⟩ := hok
  cases hrun : c q.g (renL (renU (argMu n q.bas.length) 0) q.args) (argHp gl n q.bas) with
  | no w => rw [hrun] at hok; cases hok
  | ok v1 h1 =>
    rw [hrun] at hok
    have hok : and (avEq v1 (q.v.ren (renK (argMu n q.bas.length) keep h1.n))) (blksOK (renK (argMu n q.bas.length) keep h1.n) h1 (n + q.bas.length) keep q.bs) = true := hok
    rw [Bool.and_eq_true] at hok
    have hv1 := avEq_eq hok.1
    rcases hc _ _ _ _ _ hrun with ⟨_, hfn, hcall⟩ | ⟨_, hval⟩ | ⟨hh, _⟩
    case inr.inr => rw [hh] at hy; exact absurd hy (by decide)
    · refine .inl ⟨hy, hfn, fun e w args' hg hv hr => ?_⟩
      obtain ⟨k1, k2, k3⟩ := base_sim L hg hr hgo hbm
      rw [hargs] at hv
      refine Calls.mono (hcall (baseE gl n mu e) w args' k1 (VRL.ren k3 q.args hv) k2) fun en w' he => ?_
      obtain ⟨v', e1, rfl, hvr, hext⟩ := he
      obtain ⟨e', m1, m2⟩ := kn_ext L hr hbm hv1 hok.2 hvr hext
      exact ⟨v', e', rfl, m1, m2⟩
    · refine .inr (.inl ⟨hy, fun e w args' hg hv hr => ?_⟩)
      obtain ⟨k1, k2, k3⟩ := base_sim L hg hr hgo hbm
      rw [hargs] at hv
      obtain ⟨v', w', e1, h3, hvr, hext⟩ := hval (baseE gl n mu e) w args' k1 (VRL.ren k3 q.args hv) k2
      obtain ⟨e', m1, m2⟩ := kn_ext L hr hbm hv1 hok.2 hvr hext
      exact ⟨v', w', e', h3, m1, m2⟩

/-- Known calls, one behind the other. -/
theorem knOf_sim {gl : List (Nat × List AV)} {n : Nat} : ∀ {l : List Kn}, (∀ q ∈ l, ∀ args h v h', q.use gl n args h = some (v, h') → CallOne C q.g args h v h') → ∀ {g : Nat} {args : List AV} {h h' : Hp} {v : AV}, knOf gl n g args h l = some (v, h') → CallOne C g args h v h'
  | [], _, _, _, _, _, _, hx => by cases hx
  | q :: l, hl, g, args, h, h', v, hx => by
    have hrest := fun hx => knOf_sim (n := n) (fun q' hq' => hl q' (.tail _ hq')) (g := g) (args := args) (h := h) (h' := h') (v := v) hx
    have hx : ifb (Nat.beq g q.g) (match q.use gl n args h with
      | some r => some r
      | none => knOf gl n g args h l) (knOf gl n g args h l) = some (v, h') := hx
    cases hb : Nat.beq g q.g with
    | false => rw [hb] at hx; exact hrest hx
    | true =>
      rw [hb, ifb_true] at hx
      cases hu : q.use gl n args h with
      | none => rw [hu] at hx; exact hrest hx
      | some r =>
        rw [hu] at hx
        cases hx
        rw [beq_iff.1 hb]
        exact hl q (.head _) args h v h' hu
end Go.Ab

/- What a law's row gives, and what it wants, of calls on named blocks. -/
namespace Go.Ab
open Go
variable {C : Cx}

/-! ### The library's search for a byte -/
theorem idxByte_eq (l : List UInt8) (c : UInt8) : ∀ (n i : Nat), i + n = l.length → idxByte (packB l) c.toNat n i = (if Lib.indexByte (l.drop i) c == -1 then -1 else Lib.indexByte (l.drop i) c + i)
  | 0, i, h => by
    rw [List.drop_of_length_le (by omega)]; rfl
  | n + 1, i, h => by
    have hi : i < l.length := by omega
    have h1 : idxByte (packB l) c.toNat (n + 1) i = ifb (Nat.beq (byteAt (packB l) i) c.toNat) (.ofNat i) (idxByte (packB l) c.toNat n (i + 1)) := rfl
    rw [h1, byteAt_eq l i l[i] (List.getElem?_eq_getElem hi), idxByte_eq l c n (i + 1) (by omega), List.drop_eq_getElem_cons hi]
    have hge := Lib.indexByte_ge (l.drop (i + 1)) c
    rw [show Lib.indexByte (l[i] :: l.drop (i + 1)) c = (if l[i] == c then 0 else if Lib.indexByte (l.drop (i + 1)) c == -1 then -1 else Lib.indexByte (l.drop (i + 1)) c + 1) from rfl]
    generalize Lib.indexByte (l.drop (i + 1)) c = r at hge
    by_cases hb : l[i] = c
    · have h2 : Nat.beq l[i].toNat c.toNat = true := by rw [hb]; exact beq_iff.2 rfl
      rw [h2, ifb_true]
      simp [hb]
    · have h2 : Nat.beq l[i].toNat c.toNat = false := by
        cases hh : Nat.beq l[i].toNat c.toNat with
        | false => rfl
        | true => exact absurd (UInt8.toNat_inj.1 (beq_iff.1 hh)) hb
      have h3 : (l[i] == c) = false := by simpa using hb
      rw [h2, ifb_false, h3]
      by_cases hm : r = -1
      · subst hm; rfl
      · have h4 : (r == -1) = false := by simpa using hm
        have h5 : (r + 1 == -1) = false := by rw [beq_eq_false_iff_ne]; omega
        simp only [h4, h5, Bool.false_eq_true, if_false]
        omega

theorem spIndexByte_ok {g : Nat} {fn : Func} (hgy : Nat.ble yF g = false) (hf : C.P.funcs[g]? = some fn) (hname : (fn.name == "runtime.NumGoroutine") = false) (hb : fn.body.isNone = true) (hn : Extern.findNext fn = Option.none) (he : Extern.find fn = some Extern.BytealgIndexByte.indexByte)
    {args : List AV} {v : AV} (hx : spIndexByte args = some v) (h : Hp) : CallOne C g args h v h := by
  refine .inr (.inl ⟨hgy, fun e w args' hg hv hr => ?_⟩)
  unfold spIndexByte at hx
  split at hx
  · rename_i n a c
    cases hc : Nat.ble c 255 with
    | false => rw [hc] at hx; cases hx
    | true =>
      rw [hc, ifb_true] at hx
      have hc := Nat.le_of_ble_eq_true hc
      generalize hu : AV.str n a = u at hv
      cases hv with
      | cons _ v1 _ l1 hv1 hv2 =>
        cases hv2 with
        | cons _ v2 _ l2 hv2 hv3 =>
          cases hv3
          cases hv2
          cases hv1 <;> first | (cases hu; done) | skip
          case str s =>
            cases hu
            have hcu : c = c.toUInt8.toNat := by
              simp
              omega
            have hi : idxByte (packB s.data.toList) c s.size 0 = Lib.indexByte s.data.toList c.toUInt8 := by
              have := idxByte_eq s.data.toList c.toUInt8 s.size 0 (by rw [Nat.zero_add]; rfl)
              rw [← hcu] at this
              rw [this, List.drop_zero]
              split
              · rename_i hm; simpa using (beq_iff_eq.1 hm).symm
              · simp
            refine ⟨.int .i64 (Lib.indexByte s.data.toList c.toUInt8), w, e, ?_, ?_, .refl hr⟩
            · have h1 := run_callFunc_extern (P := C.P) hf hname hb hn he #[.string s, .int .u8 (c : Int)] w
              rw [Lib.run_indexByteString] at h1
              exact h1
            · have hx : intF (idxByte (packB s.data.toList) c s.size 0) (fun i => some (AV.int .i64 i)) = some v := hx
              rw [hi] at hx
              have hx2 : some (AV.int .i64 (Lib.indexByte s.data.toList c.toUInt8)) = some v := by
                rw [← hx]
                cases Lib.indexByte s.data.toList c.toUInt8 with
                | ofNat m => cases m <;> rfl
                | negSucc m => cases m <;> rfl
              cases hx2
              exact .int _ _
  · cases hx

/-! ### The package-level variables -/
def initE (gl : List (Nat × List AV)) : Emb := fun b g => if g = 0 then (match gl.find? fun q => q.1 == b with
  | some q => some ⟨b, 0, 0, q.2.length⟩
  | Option.none => Option.none) else Option.none
theorem initE_spec {gl : List (Nat × List AV)} {b g : Nat} {x : Loc} (h : initE gl b g = some x) : g = 0 ∧ ∃ q ∈ gl, q.1 = b ∧ x = ⟨b, 0, 0, q.2.length⟩ := by
  unfold initE at h
  by_cases hg : g = 0
  · rw [if_pos hg] at h
    cases hf : gl.find? fun q => q.1 == b with
    | none => rw [hf] at h; cases h
    | some q =>
      rw [hf] at h
      cases h
      have := List.find?_some hf
      exact ⟨hg, q, List.mem_of_find?_eq_some hf, by simpa using this, rfl⟩
  · rw [if_neg hg] at h; cases h

/-- The variables hold what is laid. -/
def Holds (gl : List (Nat × List AV)) (w : World) : Prop := ∀ q ∈ gl, (∀ v ∈ q.2, v.isCell = true) ∧ ∃ c t, w.heap[q.1]? = some (.cells c t (0, 0)) ∧ VRL (fun _ _ => Option.none) q.2 c.toList

theorem init_sim {gl : List (Nat × List AV)} {n : Nat} (L : Laid C gl n) {w : World} (hw : Holds gl w) : HR (initE gl) (globHp gl n) w ∧ GR C (initE gl) := by
  have hget : ∀ q ∈ gl, (globHp gl n).get q.1 = some (.flat q.2 3) := by
    intro q hq
    have h1 := List.all_eq_true.1 (show gl.all _ = true from L.ok) q hq
    split at h1
    · rename_i l z hh
      rw [Bool.and_eq_true] at h1
      have hz := beq_iff.1 h1.1
      subst hz
      rw [hh, avEqL_eq h1.2]
    · cases h1
  refine ⟨⟨fun b g x b' g' x' h1 h2 hr => ?_, fun b g x h1 => ?_, fun b g x h1 => ?_⟩, fun g hg => ?_⟩
  · obtain ⟨_, q, _, rfl, rfl⟩ := initE_spec h1
    obtain ⟨_, q', _, rfl, rfl⟩ := initE_spec h2
    exact ⟨hr, rfl⟩
  · obtain ⟨_, q, hq, rfl, rfl⟩ := initE_spec h1
    obtain ⟨_, c, t, hc, _⟩ := hw q hq
    obtain ⟨hlt, _⟩ := Array.getElem?_eq_some_iff.1 hc
    exact ⟨hlt, by rw [globHp_n]; exact L.lt' (List.mem_map_of_mem hq)⟩
  · obtain ⟨rfl, q, hq, rfl, rfl⟩ := initE_spec h1
    obtain ⟨hcell, c, t, hc, hv⟩ := hw q hq
    refine ⟨_, hget q hq, ?_⟩
    show BR (initE gl) (.flat q.2 3) 0 ⟨q.1, 0, 0, q.2.length⟩ w.heap[q.1]?
    rw [hc]
    have hlen := hv.length
    have hsz : c.size = q.2.length := by rw [← hlen]; simp
    refine .cells c t (0, 0) ⟨trivial, Nat.le_refl _, hsz, Nat.le_refl _, ?_, fun i v hi hr => ?_, fun _ i _ hh => by simp at hh, fun _ i hh => by simp at hh⟩
    · show (Blk.flat q.2 3).known 0 ≤ 0 + c.size
      rw [hsz, Nat.zero_add]
      show lenA q.2 ≤ q.2.length
      rw [lenA_eq]; exact Nat.le_refl _
    · have hr : ifb (Nat.beq 0 0) (nthA q.2 i) Option.none = some v := hr
      rw [show Nat.beq 0 0 = true from rfl, ifb_true, nthA_eq] at hr
      obtain ⟨v', k1, k2⟩ := hv.get hr
      exact ⟨hcell v (List.mem_of_getElem? hr), v', by rw [Nat.sub_zero]; simpa using k1, k2.mono fun _ _ _ hh => by cases hh⟩
  · rw [L.gs] at hg
    obtain ⟨j, hj, hj2⟩ := List.any_eq_true.1 hg
    have : g = j := beq_iff.1 hj2
    subst this
    obtain ⟨q, hq, hqg⟩ := List.mem_map.1 hj
    cases hf : gl.find? (fun q => q.1 == g) with
    | none =>
      have := List.find?_eq_none.1 hf q hq
      simp [hqg] at this
    | some q2 =>
      refine ⟨⟨g, 0, 0, q2.2.length⟩, ?_, rfl, rfl, rfl⟩
      unfold initE
      rw [if_pos rfl, hf]

/-- A variable that is an array of numbers, of the row's list. -/
theorem holds_tab {P : Program} {w : World} {laid : List (String × DataW Unit)} (h : laidMet P laid w) {name : String} {k : IntKind} {zs : List Int} (hm : (name, Lib.tabData k zs) ∈ laid) {g t e : Nat} {n : Nat}
    (hg : P.globalNamed name = some g) (hy : (P.globals[g]?).map (·.type) = some t) (ht : P.underlying t = some (.array n e)) (he : P.underlying e = some (.int k)) (hce : P.cellsOf e = 1) (hct : P.cellsOf t = n) (hn : 0 < zs.length) :
    ∃ c ty, w.heap[g]? = some (.cells c ty (0, 0)) ∧ c.toList = zs.map fun z => Value.int k z := by
  obtain ⟨ps, hv, _, hz⟩ := h
  have hall : ∀ {l : List (String × DataW Unit)} {ps : List MemPlace}, DataW.LaidVars P w l ps → (name, Lib.tabData k zs) ∈ l → ∃ cs : Array Value, w.var? P name = some cs ∧ cs.toList = (zs.map fun z => Value.int k z) ∧ ∀ p ∈ MemPlace.row ⟨g, 0, Option.none⟩ cs.size, p ∈ ps := by
    intro l
    induction l with
    | nil => intro ps _ hm; cases hm
    | cons y r ih =>
      intro ps h hm
      obtain ⟨n', d'⟩ := y
      obtain ⟨g', t', cs, fuel, p, q, h1, h2, h3, h4, h5, h6⟩ := h
      rcases List.mem_cons.1 hm with e1 | e1
      · cases e1
        obtain rfl := Option.some.inj (hg.symm.trans h1)
        obtain rfl := Option.some.inj (hy.symm.trans h2)
        refine ⟨cs, h3, Lib.cells_of_tab ht he hce hct h4, fun p hp => ?_⟩
        rw [h6]
        exact List.mem_append_left _ (List.mem_append_left _ hp)
      · obtain ⟨cs, k1, k2, k3⟩ := ih h5 e1
        exact ⟨cs, k1, k2, fun p hp => by rw [h6]; exact List.mem_append_right _ (k3 p hp)⟩
  obtain ⟨cs, k1, k2, k3⟩ := hall hv hm
  have hs : 0 < cs.size := by
    have := congrArg List.length k2
    simp at this
    omega
  obtain ⟨⟨c, ty, hc⟩, _⟩ := hz g 0 (k3 _ (by unfold MemPlace.row; exact List.mem_map.2 ⟨0, List.mem_range.2 hs, rfl⟩))
  refine ⟨c, ty, hc, ?_⟩
  simp only [World.var?, hg, Option.bind_some, hc, Option.some.injEq] at k1
  rw [k1]; exact k2

/-! ### A law's call -/
theorem law_calls2 {gl : List (Nat × List AV)} {n : Nat} (L : Laid C gl n) {c : CallT} (hc : CallOK C c) {g : Nat} {fn : Func} {b : Code} (hgy : Nat.ble yF g = false) (hf : C.P.funcs[g]? = some fn) (hname : (fn.name == "runtime.NumGoroutine") = false) (hb : fn.body = some b)
    {args : List AV} (hx : R2.rec (motive := fun _ => Bool) (fun v _ => avEq v (.bool true)) (fun _ => false) (c g args (globHp gl n)) = true) {w : World} (hw : Holds gl w) {args' : List Value} (hv : VRL (initE gl) args args') :
    Calls C.P g args'.toArray w fun en w' => en = .returned (.bool true) ∧ w'.os = w.os ∧ w'.output = w.output ∧ ∀ i, i < w.heap.size → w'.heap[i]? = w.heap[i]? := by
  obtain ⟨hr, hg⟩ := init_sim L hw
  cases hrun : c g args (globHp gl n) with
  | no q => rw [hrun] at hx; cases hx
  | ok v h' =>
    rw [hrun] at hx
    have hv1 := avEq_eq (show avEq v (.bool true) = true from hx)
    subst hv1
    rcases hc _ _ _ _ _ hrun with ⟨_, _, hcall⟩ | ⟨_, hval⟩ | ⟨hh, _⟩
    case inr.inr => rw [hh] at hgy; exact absurd hgy (by decide)
    · refine Calls.mono (hcall _ w args' hg hv hr) fun en w' he => ?_
      obtain ⟨v', e', rfl, hvr, hext⟩ := he
      cases hvr
      refine ⟨rfl, hext.os, hext.output, fun i hi => ?_⟩
      have := hext.frame i hi fun b g x hb hxr => by
        obtain ⟨_, q, hq, rfl, rfl⟩ := initE_spec hb
        have h1 := List.all_eq_true.1 (show gl.all _ = true from L.ok) q hq
        refine ⟨by rw [globHp_n]; exact L.lt' (List.mem_map_of_mem hq), .inl ?_⟩
        split at h1
        · rename_i l z hh
          rw [Bool.and_eq_true] at h1
          have hz := beq_iff.1 h1.1
          subst hz
          exact ⟨.flat l 3, hh, show (3 : Nat) = 3 from rfl⟩
        · cases h1
      exact this
    · obtain ⟨v', w', e', h1, _⟩ := hval _ w args' hg hv hr
      rw [run_callFunc hf hname hb] at h1
      cases h1

theorem law_calls {gl : List (Nat × List AV)} {n : Nat} (L : Laid C gl n) {c : CallT} (hc : CallOK C c) {g : Nat} {fn : Func} {b : Code} (hgy : Nat.ble yF g = false) (hf : C.P.funcs[g]? = some fn) (hname : (fn.name == "runtime.NumGoroutine") = false) (hb : fn.body = some b)
    {args : List AV} (hx : R2.rec (motive := fun _ => Bool) (fun v _ => avEq v (.bool true)) (fun _ => false) (c g args (globHp gl n)) = true) {w : World} (hw : Holds gl w) {args' : List Value} (hv : VRL (initE gl) args args') :
    Calls C.P g args'.toArray w fun en w' => en = .returned (.bool true) ∧ w.keptBut w' fun _ => False := by
  refine Calls.mono (law_calls2 L hc hgy hf hname hb hx hw hv) fun en w' ⟨h1, h2, h3, h4⟩ => ⟨h1, h2, h3, fun i hi => ?_⟩
  rw [h4 i hi]
  cases w.heap[i]? with
  | none => rfl
  | some o => cases o <;> first | rfl | exact ⟨rfl, rfl, rfl, fun _ _ => rfl⟩ | exact .inr ⟨rfl, rfl⟩

/-- A number below 256, by what is left of it. -/
theorem VR.rest {e : Emb} {a : Int} (m : Nat) (hm : 0 < m) (hm2 : m < 256) (h0 : 0 ≤ a) (h1 : a < 256) : VR e (.nil (10 + 2 * (a.toNat % m + 256 * m))) (.int .u8 a) := by
  obtain ⟨n, rfl⟩ := Int.eq_ofNat_of_zero_le h0
  have hr := Nat.mod_lt n hm
  have e0 : (n : Int).toNat = n := rfl
  rw [e0]
  generalize hq : n % m = r at hr
  have d1 : Nat.div (10 + 2 * (r + 256 * m)) 2 = 5 + (r + 256 * m) := by
    show (10 + 2 * (r + 256 * m)) / 2 = _
    omega
  have d2 : Nat.mod (10 + 2 * (r + 256 * m)) 2 = 0 := by
    show (10 + 2 * (r + 256 * m)) % 2 = _
    omega
  have a1 : modM (10 + 2 * (r + 256 * m)) = m := by
    unfold modM; rw [d1]
    show (5 + (r + 256 * m) - 5) / 256 = m
    omega
  have a2 : modR (10 + 2 * (r + 256 * m)) = r := by
    unfold modR; rw [d1]
    show (5 + (r + 256 * m) - 5) % 256 = r
    omega
  have a3 : modK (10 + 2 * (r + 256 * m)) = .u8 := by unfold modK; rw [d2]; rfl
  have := VR.modv (e := e) (10 + 2 * (r + 256 * m)) n (by omega) (by omega) (by rw [a1]; exact hm) (by rw [a1, a2]; exact hq) (by omega)
  rw [a3] at this
  exact this
/-- A number, by what is left of it (as Go divides). -/
theorem VR.left {e : Emb} (n : Int) (m : Nat) (r : Nat) (hr : r < 512) (h : n.tmod m = (r : Int) - 256) : VR e (.nil (1048576 + (r + 512 * m))) (.int .i64 n) := by
  have d1 : Nat.div (Nat.sub (1048576 + (r + 512 * m)) 1048576) 512 = m := by
    show (1048576 + (r + 512 * m) - 1048576) / 512 = m
    omega
  have d2 : Nat.mod (Nat.sub (1048576 + (r + 512 * m)) 1048576) 512 = r := by
    show (1048576 + (r + 512 * m) - 1048576) % 512 = r
    omega
  refine .remv _ n (by omega) ?_
  unfold remM remR
  rw [d1, d2, subA_eq]
  exact h
end Go.Ab

/- Arguments of which nothing is known but what they are. -/
namespace Go.Ab
open Go

theorem okWide_one {P : Program} {w : World} {r : Reach} {b : Nat} {t : TypeId} {v : Value} (h : Cell.okWide P w r b t v) : v.oneCell' = true := by
  unfold Cell.okWide at h
  split at h <;> first | rfl | skip
  unfold Cell.ok at h
  split at h <;> first | rfl | exact h.elim
theorem row_one {P : Program} {w : World} {r : Reach} {b : Nat} {t : TypeId} {cs : Array Value} (h : Row.okWide P w r b t cs) : ∀ v ∈ cs.toList, v.oneCell' = true := by
  intro v hv
  obtain ⟨i, hi⟩ := List.mem_iff_getElem?.1 hv
  obtain ⟨ts, _, _, h3⟩ := h
  obtain ⟨u, _, h4⟩ := h3 i v (by rw [← Array.getElem?_toList]; exact hi)
  exact okWide_one h4
theorem VRL_opq (e : Emb) : ∀ l : List Value, (∀ v ∈ l, v.oneCell' = true) → VRL e (List.replicate l.length (.nil 8)) l
  | [], _ => .nil
  | v :: l, h => .cons _ _ _ _ (.opq v (h v (.head _))) (VRL_opq e l fun u hu => h u (.tail _ hu))
/-- What lies where it lay is read as it was. -/
theorem sameAt_kept {w w' : World} (h : ∀ i, i < w.heap.size → w'.heap[i]? = w.heap[i]?) {p : MemPlace} (hp : p.block < w.heap.size) : w.sameAt w' p := by
  cases p with
  | cell b off =>
    have h1 := h b hp
    simp only [World.sameAt, World.cell?, h1]
  | map b => exact h b hp
end Go.Ab

/- Calls of the library's own that have no body: two rows of bytes compared; do two slices overlap; a map's copy. -/
namespace Go.Ab
open Go
variable {C : Cx}

noncomputable section
/-- The bytes of a slice. -/
def bytesIn (v : AV) (h : Hp) : Option (Nat × Nat) := v.onSl (fun _ => none) (some (0, 0)) fun b g o n _ => match h.readN b g o n with
  | .ok l => match packA l with
    | some a => some (n, a)
    | none => none
  | .no _ => none
def spCompare (args : List AV) (h : Hp) : Option AV := match args with
  | [x, y] => match bytesIn x h, bytesIn y h with
    | some p, some q => some (.int .i64 (ifb (eqStr p.1 p.2 q.1 q.2) 0 (ifb (lessB p.1 q.1 p.2 q.2) (.negSucc 0) (.ofNat 1))))
    | _, _ => none
  | _ => none
/-- Of two blocks, of which nothing is frozen. -/
def spOverlaps (args : List AV) (h : Hp) : Option AV := match args with
  | [.nil 1, .nil 1] => some (.bool false)
  | [.nil 1, .sl _ _ _ _ _] => some (.bool false)
  | [.sl _ _ _ _ _, .nil 1] => some (.bool false)
  | [.sl b _ _ n _, .sl c _ _ m _] => ifb (or (Nat.beq n 0) (Nat.beq m 0)) (some (.bool false)) (ifb (and (not (Nat.beq b c)) (and (okEq (h.fz b)) (okEq (h.fz c)))) (some (.bool false)) none)
  | _ => none
def spClone (args : List AV) (h : Hp) : Option (AV × Hp) := match args with
  | [.ifc t (.map r)] => h.onMap r none fun es => (h.add (.map es)).bd fun h2 => natF h.n fun n => some (.ifc t (.map n), h2)
  | _ => none
end

theorem bytesIn_spec {e : Emb} {h : Hp} {w : World} {v : AV} {v' : Value} (hr : HR e h w) (hv : VR e v v') {n a : Nat} (hx : bytesIn v h = some (n, a)) :
    ∃ bs : List UInt8, n = bs.length ∧ a = packB bs ∧ ∀ P : Program, (Extern.Bytes.bytesOf v').run P w = .ok ⟨bs.toArray⟩ w := by
  unfold bytesIn at hx
  rcases hv.onSl (no := fun _ => (none : Option (Nat × Nat))) (nil := some (0, 0)) (k := fun b g o n _ => match h.readN b g o n with
    | .ok l => match packA l with
      | some a => some (n, a)
      | none => none
    | .no _ => none) with ⟨_, h2, h3⟩ | ⟨b, g, o, n2, c, cap, x, ad, _, p1, p2, p3, p4, p5, p6, p7, p8, h3⟩ | ⟨q, h3⟩
  · rw [h3] at hx
    cases hx
    exact ⟨[], rfl, rfl, fun P => by rw [h2]; rfl⟩
  · rw [h3] at hx
    cases hl : h.readN b g o n2 with
    | no q => rw [hl] at hx; cases hx
    | ok l =>
      rw [hl] at hx
      simp only at hx
      cases hp : packA l with
      | none => rw [hp] at hx; cases hx
      | some a2 =>
        rw [hp] at hx
        cases hx
        obtain ⟨bs, b1, b2⟩ := packA_spec l a hp
        have hl0 := hl
        unfold Hp.readN at hl
        cases hg : h.get b with
        | none => rw [hg] at hl; cases hl
        | some blk =>
          rw [hg] at hl
          have hl := Res.of_ok hl
          obtain ⟨k1, k2⟩ := readN_get hl
          have hlen : bs.length = n := by rw [← k1, b1]; simp
          refine ⟨bs, hlen.symm, b2, fun P => ?_⟩
          rw [p7]
          have hcells : ∀ j (y : Int), (bs.map fun b => (b.toNat : Int))[j]? = some y → w.cell? (ad.add j) = some (.int .u8 y) := by
            intro j y hj
            rw [List.getElem?_map] at hj
            cases hbj : bs[j]? with
            | none => rw [hbj] at hj; cases hj
            | some u =>
              rw [hbj] at hj
              cases hj
              have hlj : l[j]? = some (.int .u8 (.ofNat u.toNat)) := by rw [b1, List.getElem?_map, hbj]; rfl
              have hjn : j < n := by rw [← hlen]; exact (List.getElem?_eq_some_iff.1 hbj).1
              have hr1 : h.read1 b g (o + j) = .ok (.int .u8 (.ofNat u.toNat)) := by
                unfold Hp.read1
                rw [hg]
                show Res.of "read" (blk.read1 g (o + j)) = _
                rw [k2 j _ hlj]; rfl
              obtain ⟨v2, j1, j2, _⟩ := hr.read1 p1 (Nat.le_trans p3 (Nat.le_add_right _ _)) hr1
              rcases p8 with rfl | ⟨hn, _⟩
              · rw [Addr.add_mk, show o - x.base + j = o + j - x.base by omega, j1]
                cases j2
                rfl
              · omega
          have := Lib.run_loadBytesX (P := P) w (bs.map fun b => (b.toNat : Int)) ad .empty hcells
          rw [List.length_map, hlen] at this
          show (Extern.Bytes.loadBytes ad n .empty).run P w = _
          rw [this]
          congr 2
          show (#[] : Array UInt8) ++ _ = _
          rw [Array.empty_append]
          congr 1
          unfold Lib.bytesOf
          rw [List.map_map]
          conv => rhs; rw [← List.map_id bs]
          refine List.map_congr_left fun u _ => ?_
          simp
  · rw [h3] at hx; cases hx

theorem compare_less : ∀ a b : List UInt8, Lib.compareBytes a b = if a = b then 0 else if Op.bytesLess a b = true then -1 else 1
  | [], [] => rfl
  | [], _ :: _ => rfl
  | _ :: _, [] => rfl
  | x :: a, y :: b => by
    have ih := compare_less a b
    unfold Lib.compareBytes
    rw [show Op.bytesLess (x :: a) (y :: b) = (decide (x < y) || (x == y && Op.bytesLess a b)) from rfl]
    by_cases h1 : x < y
    · have hne : x ≠ y := fun hh => by subst hh; exact absurd h1 (UInt8.lt_irrefl _)
      simp [h1, hne]
    · by_cases h2 : y < x
      · have hne : x ≠ y := fun hh => by subst hh; exact absurd h2 (UInt8.lt_irrefl _)
        simp [h1, h2, hne]
      · have heq : x = y := by
          apply UInt8.toNat_inj.1
          have h3 : ¬ x.toNat < y.toNat := h1
          have h4 : ¬ y.toNat < x.toNat := h2
          omega
        subst heq
        simp [h1, ih]

theorem spCompare_ok {g : Nat} {fn : Func} (hgy : Nat.ble yF g = false) (hf : C.P.funcs[g]? = some fn) (hname : (fn.name == "runtime.NumGoroutine") = false) (hb : fn.body.isNone = true) (hn : Extern.findNext fn = Option.none) (he : Extern.find fn = some Extern.BytealgCompare.compare)
    {args : List AV} {v : AV} {h : Hp} (hx : spCompare args h = some v) : CallOne C g args h v h := by
  refine .inr (.inl ⟨hgy, fun e w args' hg hv hr => ?_⟩)
  unfold spCompare at hx
  split at hx
  · rename_i x y
    cases hv with
    | cons _ x' _ l1 hv1 hv2 =>
      cases hv2 with
      | cons _ y' _ l2 hv2 hv3 =>
        cases hv3
        split at hx
        · rename_i p q hp hq
          obtain ⟨a, a1, a2, a3⟩ := bytesIn_spec hr hv1 (n := p.1) (a := p.2) hp
          obtain ⟨b, b1, b2, b3⟩ := bytesIn_spec hr hv2 (n := q.1) (a := q.2) hq
          rw [a1, a2, b1, b2, eqStr_eq, lessB_eq] at hx
          cases hx
          refine ⟨.int .i64 (Lib.compareBytes a b), w, e, ?_, ?_, .refl hr⟩
          · have h1 := run_callFunc_extern (P := C.P) hf hname hb hn he #[x', y'] w
            rw [show [x', y'].toArray = #[x', y'] from rfl, h1]
            show Result.andThen ((do pure (goInt (Extern.BytealgCompare.cmp (← Extern.Bytes.bytesOf x') (← Extern.Bytes.bytesOf y'))) : Sem Value).run C.P w) _ = _
            simp only [Sem.run_bind, a3, b3, Result.andThen_ok, Sem.run_pure]
            rw [Lib.cmp_eq]
            rfl
          · rw [compare_less]
            by_cases hab : a = b
            · rw [if_pos hab, decide_eq_true hab]; exact .int _ _
            · rw [if_neg hab, decide_eq_false hab]
              cases Op.bytesLess a b
              · exact .int _ _
              · exact .int _ _
        · cases hx
  · cases hx

theorem run_overlaps_two {P : Program} {w : World} {tS tR el : TypeId} {size : Nat} (ht : P.underlying tS = some (.slice el)) (hz : ∀ w, (sizeOf el).run P w = .ok size w) {a b : Addr} {la ca lb cb : Nat} (h0 : (la = 0 ∨ lb = 0) ∨ (a.block ≠ b.block ∧
    ∃ c t fr c' t' fr', w.heap[a.block]? = some (.cells c t fr) ∧ w.heap[b.block]? = some (.cells c' t' fr') ∧ (∀ i, ¬ (fr.1 ≤ i ∧ i < fr.2)) ∧ (∀ i, ¬ (fr'.1 ≤ i ∧ i < fr'.2)))) :
    (Extern.SlicesOverlaps.overlaps #[tS, tS] #[tR] #[.slice (some a) la ca, .slice (some b) lb cb]).run P w = .ok (.bool false) w := by
  change Sem.run P (α := Value) (do
    let some t := (#[tS, tS] : Array TypeId)[0]? | stuck "slices.overlaps: no parameter types"
    let .slice elem ← underlying t | stuck "slices.overlaps: slice type expected"
    let size ← sizeOf elem
    match (some a : Option Addr), (some b : Option Addr) with
    | some a, some b =>
      if la = 0 ∨ lb = 0 ∨ size = 0 then pure (Value.bool false)
      else if a.block != b.block && (← frozen a) && (← frozen b) then unsupported .addressObserved
      else do
        if a.block != b.block then do
          noView a; noView b
          if ← mayBeOne a b then return Value.bool ((← choose (.extern "sameAddr.stringBytes" 2)) == 1)
        pure (Value.bool (a.block == b.block && a.off < b.off + lb * size && b.off < a.off + la * size))
    | _, _ => pure (Value.bool false)) w = _
  by_cases h1 : la = 0 ∨ lb = 0 ∨ size = 0
  · simp [run_underlying ht, hz, h1]
  · rcases h0 with h0 | ⟨hne, c, t, fr, c', t', fr', k1, k2, f1, f2⟩
    · exact absurd (by rcases h0 with h0 | h0; exact .inl h0; exact .inr (.inl h0)) h1
    · have e1 : ∀ i s, w.frozen? ⟨a.block, i, s⟩ = false := fun i s => by simp only [World.frozen?, k1]; simpa using f1 i
      have e2 : ∀ i s, w.frozen? ⟨b.block, i, s⟩ = false := fun i s => by simp only [World.frozen?, k2]; simpa using f2 i
      have s1 : w.shape? a.block = some (t, c.size) := by simp [World.shape?, k1]
      have s2 : w.shape? b.block = some (t', c'.size) := by simp [World.shape?, k2]
      have e1' : w.frozen? a = false := e1 a.off a.spot
      have e2' : w.frozen? b = false := e2 b.off b.spot
      have hb : (a.block == b.block) = false := by simpa using hne
      have hb2 : (a.block != b.block) = true := by simpa using hne
      have st1 : (stringish a).run P w = .ok false w := by simp [stringish, e1', s1, e1]
      have st2 : (stringish b).run P w = .ok false w := by simp [stringish, e2', s2, e2]
      have nv1 : (noView a).run P w = .ok () w := by simp [noView, viewAt, s1]
      have nv2 : (noView b).run P w = .ok () w := by simp [noView, viewAt, s2]
      simp [run_underlying ht, hz, h1, hb, hb2, e1', nv1, nv2, mayBeOne, st1, st2]

theorem run_overlaps_nil {P : Program} {w : World} {tS tR el : TypeId} {size : Nat} (ht : P.underlying tS = some (.slice el)) (hz : ∀ w, (sizeOf el).run P w = .ok size w) {a b : Option Addr} {la ca lb cb : Nat} (h0 : a = none ∨ b = none) :
    (Extern.SlicesOverlaps.overlaps #[tS, tS] #[tR] #[.slice a la ca, .slice b lb cb]).run P w = .ok (.bool false) w := by
  change Sem.run P (α := Value) (do
    let some t := (#[tS, tS] : Array TypeId)[0]? | stuck "slices.overlaps: no parameter types"
    let .slice elem ← underlying t | stuck "slices.overlaps: slice type expected"
    let size ← sizeOf elem
    match a, b with
    | some a, some b =>
      if la = 0 ∨ lb = 0 ∨ size = 0 then pure (Value.bool false)
      else if a.block != b.block && (← frozen a) && (← frozen b) then unsupported .addressObserved
      else do
        if a.block != b.block then do
          noView a; noView b
          if ← mayBeOne a b then return Value.bool ((← choose (.extern "sameAddr.stringBytes" 2)) == 1)
        pure (Value.bool (a.block == b.block && a.off < b.off + lb * size && b.off < a.off + la * size))
    | _, _ => pure (Value.bool false)) w = _
  rcases h0 with rfl | rfl
  · cases b <;> simp [run_underlying ht, hz]
  · cases a <;> simp [run_underlying ht, hz]

theorem spOverlaps_ok {g : Nat} {fn : Func} {tS tR el : TypeId} {size : Nat} (hgy : Nat.ble yF g = false) (hf : C.P.funcs[g]? = some fn) (hname : (fn.name == "runtime.NumGoroutine") = false) (hb : fn.body.isNone = true) (hn : Extern.findNext fn = Option.none) (he : Extern.find fn = some (Extern.SlicesOverlaps.overlaps #[tS, tS] #[tR]))
    (ht : C.P.underlying tS = some (.slice el)) (hz : ∀ w, (sizeOf el).run C.P w = .ok size w) {args : List AV} {v : AV} {h : Hp} (hx : spOverlaps args h = some v) : CallOne C g args h v h := by
  refine .inr (.inl ⟨hgy, fun e w args' hg hv hr => ?_⟩)
  have key : ∀ x' y', args' = [x', y'] → (Extern.SlicesOverlaps.overlaps #[tS, tS] #[tR] #[x', y']).run C.P w = .ok (.bool false) w → v = .bool false → ∃ v' w' e', (callFunc g args'.toArray).run C.P w = .ok (.value v') w' ∧ VR e' v v' ∧ Ext e h w e' h w' := by
    intro x' y' h1 h2 h3
    subst h1 h3
    refine ⟨.bool false, w, e, ?_, .bool false, .refl hr⟩
    have h4 := run_callFunc_extern (P := C.P) hf hname hb hn he #[x', y'] w
    rw [show [x', y'].toArray = #[x', y'] from rfl, h4, h2]; rfl
  unfold spOverlaps at hx
  split at hx
  · cases hx
    cases hv with
    | cons _ x' _ l1 hv1 hv2 => cases hv2 with
      | cons _ y' _ l2 hv2 hv3 =>
        cases hv3
        cases hv1 with
        | modv _ _ h1 => omega
        | remv _ _ h1 => omega
        | nils => cases hv2 with
          | modv _ _ h1 => omega
          | remv _ _ h1 => omega
          | nils => exact key _ _ rfl (run_overlaps_nil ht hz (.inl rfl)) rfl
  · cases hx
    cases hv with
    | cons _ x' _ l1 hv1 hv2 => cases hv2 with
      | cons _ y' _ l2 hv2 hv3 =>
        cases hv3
        cases hv1 with
        | modv _ _ h1 => omega
        | remv _ _ h1 => omega
        | nils => cases hv2 with
          | slc => exact key _ _ rfl (run_overlaps_nil ht hz (.inl rfl)) rfl
  · cases hx
    cases hv with
    | cons _ x' _ l1 hv1 hv2 => cases hv2 with
      | cons _ y' _ l2 hv2 hv3 =>
        cases hv3
        cases hv2 with
        | modv _ _ h1 => omega
        | remv _ _ h1 => omega
        | nils => cases hv1 with
          | slc => exact key _ _ rfl (run_overlaps_nil ht hz (.inr rfl)) rfl
  · rename_i b gb ob n cb c gc oc m cc
    cases hv with
    | cons _ x' _ l1 hv1 hv2 => cases hv2 with
      | cons _ y' _ l2 hv2 hv3 =>
        cases hv3
        cases hv1 with
        | slc _ _ _ _ _ cap x ad p1 p2 p3 p4 p5 p6 p7 => cases hv2 with
          | slc _ _ _ _ _ cap2 y ad2 q1 q2 q3 q4 q5 q6 q7 =>
            cases h0 : or (Nat.beq n 0) (Nat.beq m 0) with
            | true =>
              rw [h0] at hx
              cases hx
              rw [Bool.or_eq_true] at h0
              exact key _ _ rfl (run_overlaps_two ht hz (.inl (h0.imp (fun hh => beq_iff.1 hh) fun hh => beq_iff.1 hh))) rfl
            | false =>
              rw [h0, ifb_false] at hx
              cases h1 : and (not (Nat.beq b c)) (and (okEq (h.fz b)) (okEq (h.fz c))) with
              | false => rw [h1] at hx; cases hx
              | true =>
                rw [h1] at hx
                cases hx
                rw [Bool.and_eq_true, Bool.and_eq_true, Bool.not_eq_true'] at h1
                rw [Bool.or_eq_false_iff] at h0
                obtain ⟨cs, t, fr, k1, k2⟩ := hr.quiet p1 h1.2.1
                obtain ⟨cs', t', fr', k3, k4⟩ := hr.quiet q1 h1.2.2
                have a1 : ad.block = x.r := by
                  rcases p7 with rfl | ⟨hh, _⟩
                  · rfl
                  · rw [hh] at h0; exact absurd h0.1 (by decide)
                have a2 : ad2.block = y.r := by
                  rcases q7 with rfl | ⟨hh, _⟩
                  · rfl
                  · rw [hh] at h0; exact absurd h0.2 (by decide)
                refine key _ _ rfl (run_overlaps_two ht hz (.inr ⟨?_, cs, t, fr, cs', t', fr', by rw [a1]; exact k1, by rw [a2]; exact k3, k2, k4⟩)) rfl
                rw [a1, a2]
                intro hh
                have := (hr.inj _ _ _ _ _ _ p1 q1 hh).1
                rw [this] at h1
                rw [beq_iff.2 rfl] at h1
                cases h1.1
  · cases hx

theorem spClone_ok {g : Nat} {fn : Func} (hgy : Nat.ble yF g = false) (hf : C.P.funcs[g]? = some fn) (hname : (fn.name == "runtime.NumGoroutine") = false) (hb : fn.body.isNone = true) (hn : Extern.findNext fn = Option.none) (he : Extern.find fn = some Extern.MapsClone.clone)
    {args : List AV} {v : AV} {h h' : Hp} (hx : spClone args h = some (v, h')) : CallOne C g args h v h' := by
  refine .inr (.inl ⟨hgy, fun e w args' hg hv hr => ?_⟩)
  unfold spClone at hx
  split at hx
  · rename_i t r
    cases hv with
    | cons _ x' _ l1 hv1 hv2 =>
      cases hv2
      cases hv1 with
      | ifc _ _ u' hu =>
        cases hu with
        | map _ x p1 p2 =>
          obtain ⟨blk, k1, k2⟩ := hr.at' _ _ _ p1
          have hx : (match h.get r with
            | some b => b.onMap (none : Option (AV × Hp)) fun es => (h.add (.map es)).bd fun h2 => natF h.n fun n => some (.ifc t (.map n), h2)
            | none => none) = some (v, h') := by
            unfold Hp.onMap at hx
            cases hgr : h.get r with
            | none => rw [hgr] at hx; cases hx
            | some b => rw [hgr] at hx; exact hx
          rw [k1] at hx
          simp only at hx
          cases blk with
          | flat _ _ => cases hx
          | grown _ _ _ _ => cases hx
          | sit _ _ _ => cases hx
          | lp _ => cases hx
          | map es =>
            have hx : (h.add (.map es)).bd (fun h2 => natF h.n fun n => some (AV.ifc t (.map n), h2)) = some (v, h') := hx
            rw [Hp.add_eq, Bx.bd_mk, natF_eq] at hx
            cases hx
            generalize hob : w.heap[x.r]? = ob at k2
            cases k2 with
            | cells _ _ _ q => exact q.cells.elim
            | sit _ _ hh => cases hh
            | iter _ _ _ _ hh => cases hh
            | lp _ _ _ _ hh => cases hh
            | busy _ hh => cases hh
            | dfr hh => cases hh
            | map es2 es' clock l a b c d f k mb =>
              cases a
              obtain ⟨e', n1, n2⟩ := hr.alloc (.map es) (.map es' clock) ⟨w.heap.size, 0, 0, 0⟩ rfl (fun e' hle _ => .map es es' clock l rfl rfl (c.mono hle) d f k (Nat.le_refl _))
              refine ⟨.iface t (.map (some w.heap.size)), w.alloc (.map es' clock), e', ?_, .ifc t _ _ (.map h.n _ n1 (Nat.le_refl _)), n2⟩
              have h4 := run_callFunc_extern (P := C.P) hf hname hb hn he #[.iface t (.map (some x.r))] w
              rw [show [Value.iface t (.map (some x.r))].toArray = #[.iface t (.map (some x.r))] from rfl, h4]
              have h5 : (Extern.MapsClone.clone #[.iface t (.map (some x.r))]).run C.P w = .ok (.iface t (.map (some w.heap.size))) (w.alloc (.map es' clock)) := by
                change Sem.run C.P (α := Value) (do
                  let .map entries clock ← getObj x.r | stuck "maps.clone: a map expected"
                  pure (Value.iface t (.map (some (← newObj (.map entries clock)))))) w = _
                simp only [Sem.run_bind, MapKept.run_getObj_map hob, Result.andThen_ok, run_newObj_alloc, Sem.run_pure]
              rw [h5]; rfl
  · cases hx
end Go.Ab

/- What a function leads to, done fast: what was seen is kept as one number. -/
namespace Go.Ab
open Go
noncomputable section
def bitIn (m f : Nat) : Bool := Nat.beq (Nat.land 1 (Nat.shiftRight m f)) 1
def nthL (T : List (List Nat)) : Nat → List Nat :=
  List.rec (motive := fun _ => Nat → List Nat) (fun _ => []) (fun x _ ih i => Nat.rec (motive := fun _ => List Nat) x (fun i _ => ih i) i) T
def catL (a b : List Nat) : List Nat := List.rec (motive := fun _ => List Nat) b (fun x _ ih => x :: ih) a
def revL (a : List Nat) : List Nat → List Nat := List.rec (motive := fun _ => List Nat → List Nat) (fun b => b) (fun x _ ih b => ih (x :: b)) a
def viaF (T : List (List Nat)) : Nat → List Nat → Nat → List Nat → List Nat :=
  Nat.rec (motive := fun _ => List Nat → Nat → List Nat → List Nat) (fun _ _ seen => revL seen [])
    (fun _ ih todo m seen => List.rec (motive := fun _ => List Nat) (revL seen []) (fun f todo _ =>
      ifb (bitIn m f) (ih todo m seen) (natF (Nat.lor m (Nat.shiftLeft 1 f)) fun m => ih (catL (nthL T f) todo) m (f :: seen))) todo)
def fuelF (T : List (List Nat)) : Nat := Nat.succ (List.rec (motive := fun _ => Nat) 0 (fun x _ ih => Nat.add (Nat.succ (lenA x)) ih) T)
end
theorem revL_eq : ∀ a b : List Nat, revL a b = a.reverse ++ b
  | [], _ => rfl
  | x :: a, b => by
    show revL a (x :: b) = _
    rw [revL_eq a (x :: b), List.reverse_cons, List.append_assoc]; rfl
theorem catL_eq : ∀ a b : List Nat, catL a b = a ++ b
  | [], _ => rfl
  | x :: a, b => by
    show x :: catL a b = _
    rw [catL_eq a b]; rfl
theorem nthL_eq : ∀ (T : List (List Nat)) (i : Nat), nthL T i = (T[i]?).getD []
  | [], _ => rfl
  | x :: T, 0 => rfl
  | x :: T, i + 1 => by
    show nthL T i = _
    rw [nthL_eq T i]; rfl
theorem bitIn_eq (m f : Nat) : bitIn m f = Nat.testBit m f := by
  unfold bitIn Nat.testBit
  show Nat.beq (1 &&& (m >>> f)) 1 = _
  rw [Nat.one_and_eq_mod_two]
  rcases Nat.mod_two_eq_zero_or_one (m >>> f) with h | h <;> rw [h] <;> rfl
theorem viaF_eq {P : Program} {T : List (List Nat)} (hT : P.funcs.toList.map P.leadsTo = T) : ∀ (n : Nat) (todo : List Nat) (m : Nat) (seen : List Nat), (∀ f, bitIn m f = seen.contains f) → P.closureVia n todo seen = viaF T n todo m seen
  | 0, todo, m, seen, _ => by
    show seen.reverse = revL seen []
    rw [revL_eq, List.append_nil]
  | n + 1, [], m, seen, _ => by
    show seen.reverse = revL seen []
    rw [revL_eq, List.append_nil]
  | n + 1, f :: todo, m, seen, h => by
    have e1 : P.closureVia (n + 1) (f :: todo) seen = if seen.contains f then P.closureVia n todo seen else P.closureVia n ((P.funcs[f]?).elim [] P.leadsTo ++ todo) (f :: seen) := rfl
    have e2 : viaF T (n + 1) (f :: todo) m seen = ifb (bitIn m f) (viaF T n todo m seen) (natF (Nat.lor m (Nat.shiftLeft 1 f)) fun m => viaF T n (catL (nthL T f) todo) m (f :: seen)) := rfl
    rw [e1, e2, natF_eq, h f]
    cases hf : seen.contains f with
    | true => rw [if_pos rfl, ifb_true]; exact viaF_eq hT n todo m seen h
    | false =>
      rw [if_neg (by simp), ifb_false]
      have e3 : catL (nthL T f) todo = (P.funcs[f]?).elim [] P.leadsTo ++ todo := by
        rw [catL_eq, nthL_eq, ← hT, List.getElem?_map]
        congr 1
        rw [← Array.getElem?_toList]
        cases P.funcs.toList[f]? <;> rfl
      rw [e3]
      refine viaF_eq hT n _ _ _ fun g => ?_
      rw [bitIn_eq]
      show (m ||| (1 <<< f)).testBit g = _
      rw [Nat.testBit_or, ← bitIn_eq, h g, Nat.one_shiftLeft, Nat.testBit_two_pow, List.contains_cons, Bool.or_comm]
      congr 1
      by_cases e : f = g
      · subst e; simp
      · have e2 : ¬ g = f := fun x => e x.symm
        simp [e, e2]
theorem fuelF_eq {P : Program} {T : List (List Nat)} (hT : P.funcs.toList.map P.leadsTo = T) : 1 + (P.funcs.toList.map fun g => (P.leadsTo g).length + 1).sum = fuelF T := by
  have h : ∀ T : List (List Nat), (T.map fun l => l.length + 1).sum = List.rec (motive := fun _ => Nat) 0 (fun x _ ih => Nat.add (Nat.succ (lenA x)) ih) T := by
    intro T
    induction T with
    | nil => rfl
    | cons x T ih =>
      rw [List.map_cons, List.sum_cons, ih]
      show _ = Nat.succ (lenA x) + _
      rw [lenA_eq]
  have h2 : (P.funcs.toList.map fun g => (P.leadsTo g).length + 1) = (P.funcs.toList.map P.leadsTo).map fun l => l.length + 1 := by rw [List.map_map]; rfl
  rw [h2, hT, h T, Nat.add_comm]
  rfl
theorem closure_fast {P : Program} {T : List (List Nat)} (hT : P.funcs.toList.map P.leadsTo = T) (f : Nat) : P.closure f = viaF T (fuelF T) [f] 0 [] := by
  unfold Program.closure
  rw [fuelF_eq hT]
  exact viaF_eq hT _ _ _ _ fun g => by rw [bitIn_eq, Nat.zero_testBit]; rfl
/-- Nothing in the program starts a goroutine. -/
theorem goes_none {P : Program} (h : P.funcs.any Func.goes = false) (f : FuncId) : P.goes f = false := by
  have h2 : ∀ g : FuncId, (P.funcs[g]?).any Func.goes = false := by
    intro g
    cases hg : P.funcs[g]? with
    | none => rfl
    | some fn =>
      obtain ⟨hl, he⟩ := Array.getElem?_eq_some_iff.1 hg
      have := Array.any_eq_false.1 h g hl
      rw [he] at this
      simpa using this
  unfold Program.goes
  rw [h]
  simp only [h2, Bool.and_false, Bool.or_false]
  exact List.any_eq_false.2 fun _ _ => by simp
theorem goesBy_none {P : Program} {c : OpenClaim} (h : P.funcs.any Func.goes = false) (hs : c.start = .entering) : false = c.goesBy P := by
  unfold OpenClaim.goesBy Program.goesAt Program.goesFrom
  rw [hs]
  cases P.funcNamed c.func with
  | none => rfl
  | some f => simp [goes_none h f]
end Go.Ab

