/-
  An executable reading of the model's code on named blocks, and the proof that what it comes to is what the model does, in any order that is free: part 5.
-/
import Derived.Test.YtfaogpjikadajaaGreatDoorAbL4
import Derived.RangeFuncRecord
import Derived.Scope
import Derived.Lib.LaidU8
import Derived.Lib.Bytealg
import Derived.ChangeSame
import Derived.WideKeyArgs
import Derived.Lib.BytesEntry
/- Loops over functions: the loop, and a round of it. -/
namespace Go.Ab
open Go
variable {C : Cx} {R : Option Nat → Prop} {b0 : Nat}

/-- No function that has a body bears the name that the model takes for its own. -/
def Named (P : Program) : Prop := ∀ (g : Nat) (fn : Func), P.funcs[g]? = some fn → fn.body ≠ none → (fn.name == "runtime.NumGoroutine") = false

/-- Another object, in a block that is no cells. -/
theorem HR.turn {e : Emb} {h : Hp} {w : World} (hr : HR e h w) {b : Nat} {x : Loc} {blk blk' : Blk} {ob' : Obj} (hx : e b 0 = some x) (hget : h.get b = some blk) (hnc : ¬ blk.isCells) (hbr : BR e blk' 0 x (some ob')) :
    HR e ⟨setT blk' (path b) h.t, h.n, h.lk⟩ (w.putObj x.r ob') := by
  have hlt := hr.lt b 0 x hx
  have hg : ∀ g y, e b g = some y → g = 0 ∧ y = x := by
    intro g y hy
    obtain ⟨blk2, h1, h2⟩ := hr.at' b g y hy
    rw [hget] at h1; cases h1
    have : g = 0 := by
      generalize w.heap[y.r]? = ob at h2
      cases h2 with
      | cells c t fr q => exact absurd q.cells hnc
      | map _ _ _ _ _ hg _ _ _ _ => exact hg
      | sit _ _ _ hg => exact hg
      | iter _ _ _ _ _ hg => exact hg
      | lp q0 fn0 tm0 df0 _ hg => exact hg
      | busy o0 _ hg => exact hg
      | dfr _ hg => exact hg
    subst this
    rw [hx] at hy; cases hy; exact ⟨rfl, rfl⟩
  refine ⟨hr.inj, ?_, ?_⟩
  · intro b' g y hy
    simpa using hr.lt b' g y hy
  · intro b' g y hy
    by_cases hb : b' = b
    · subst hb
      obtain ⟨rfl, rfl⟩ := hg g y hy
      refine ⟨blk', by rw [Hp.get_set _ _ h.n, if_pos rfl], ?_⟩
      rw [World.putObj_heap_same hlt.1]; exact hbr
    · obtain ⟨blk2, h1, h2⟩ := hr.at' b' g y hy
      refine ⟨blk2, by rw [Hp.get_set _ _ h.n, if_neg hb]; exact h1, ?_⟩
      have hne : y.r ≠ x.r := fun hh => hb (hr.inj _ _ _ _ _ _ hy hx hh).1
      rw [World.putObj_heap_other hne]; exact h2
theorem Ext.turn {e0 e : Emb} {h0 h : Hp} {w0 w : World} (x0 : Ext e0 h0 w0 e h w) {b : Nat} {x : Loc} {blk blk' : Blk} {ob' : Obj} (hx : e b 0 = some x) (hb : h0.n ≤ b) (hw : w0.heap.size ≤ x.r) (hget : h.get b = some blk) (hnc : ¬ blk.isCells) (hbr : BR e blk' 0 x (some ob')) :
    Ext e0 h0 w0 e ⟨setT blk' (path b) h.t, h.n, h.lk⟩ (w.putObj x.r ob') :=
  ⟨x0.le, x0.hr.turn hx hget hnc hbr, x0.names, x0.blocks, fun r hr hro => (World.putObj_heap_other (by omega)).trans (x0.frame r hr hro),
    fun b' hb' hno => by rw [Hp.get_set _ _ h.n, if_neg (by omega)]; exact x0.ours b' hb' hno,
    fun b' hro => by rw [Hp.get_set _ _ h.n, if_neg (by have := hro.1; omega)]; exact x0.ro b' hro,
    x0.n, by rw [World.putObj_size]; exact x0.size, x0.os, x0.output, x0.lk⟩

/-- Behind a round: what it found is as it was, and so is the loop. -/
theorem Ext.round {e e2 e4 : Emb} {h h2 h4 : Hp} {w w2 w4 : World} {m : Nat} {x : Loc} {q : Lp} {rec o2 : Obj} (hr : HR e h w) (hx : e m 0 = some x) (hget : h.get m = some (.lp q)) (hob : w.heap[x.r]? = some rec)
    (x1 : Ext e h w e2 h2 w2) (x2 : Ext e2 ⟨setT (.sit 0 0 8) (path m) h2.t, h2.n, h2.lk⟩ (w2.putObj x.r o2) e4 h4 w4) (hbr : BR e4 (.lp q) 0 x (some rec)) :
    Ext e h w e4 ⟨setT (.lp q) (path m) h4.t, h4.n, h4.lk⟩ (w4.putObj x.r rec) := by
  have hm : m < h.n := (hr.lt m 0 x hx).2
  have hlt : x.r < w.heap.size := (hr.lt m 0 x hx).1
  have hx4 : e4 m 0 = some x := x2.le _ _ _ (x1.le _ _ _ hx)
  generalize hh3 : (⟨setT (.sit 0 0 8) (path m) h2.t, h2.n, h2.lk⟩ : Hp) = h3 at x2
  have get3 : ∀ b, h3.get b = if b = m then some (.sit 0 0 8) else h2.get b := fun b => by rw [← hh3]; exact Hp.get_set _ _ h2.n _ _ _
  have n3 : h3.n = h2.n := by rw [← hh3]
  have lk3 : h3.lk = h2.lk := by rw [← hh3]
  have ro3 : ∀ b, h.ro b → h3.ro b := by
    intro b hb
    have h5 := hb.step x1.ro x1.n x1.lk
    refine ⟨by rw [n3]; exact h5.1, ?_⟩
    by_cases hbm : b = m
    · exact .inl ⟨.sit 0 0 8, by rw [get3, if_pos hbm], rfl, rfl, .inl rfl⟩
    · rcases h5.2 with ⟨l, h6, h7⟩ | h6
      · exact .inl ⟨l, by rw [get3, if_neg hbm]; exact h6, h7⟩
      · exact .inr ((okw_lk lk3 b).trans h6)
  have rom : h.ro m := ⟨hm, .inl ⟨_, hget, trivial⟩⟩
  have get4 : h4.get m = some (.sit 0 0 8) := by rw [x2.ro m (ro3 m rom), get3, if_pos rfl]
  have size3 : w2.heap.size ≤ w4.heap.size := by
    have := x2.size
    rw [World.putObj_size] at this; exact this
  refine ⟨x1.le.trans x2.le, x2.hr.turn hx4 get4 id hbr, fun b g y hy => ?_, fun b g y hy => ?_, fun r hrlt hro => ?_, fun b hb hno => ?_, fun b hb => ?_, ?_, ?_, ?_, ?_, ?_⟩
  · rcases x2.names b g y hy with ⟨g0, y0, h0⟩ | h0
    · exact x1.names b g0 y0 h0
    · rw [n3] at h0; exact .inr (Nat.le_trans x1.n h0)
  · rcases x2.blocks b g y hy with ⟨g0, y0, h0, hr0⟩ | h0
    · rcases x1.blocks b g0 y0 h0 with ⟨g1, y1, h1, hr1⟩ | h1
      · exact .inl ⟨g1, y1, h1, hr1.trans hr0⟩
      · exact .inr (hr0 ▸ h1)
    · rw [World.putObj_size] at h0; exact .inr (Nat.le_trans x1.size h0)
  · by_cases hrx : r = x.r
    · subst hrx
      rw [World.putObj_heap_same (by have := x1.size; omega), hob]
    · rw [World.putObj_heap_other hrx, x2.frame r (by rw [World.putObj_size]; have := x1.size; omega) ?_, World.putObj_heap_other hrx, x1.frame r hrlt hro]
      intro b g y hy hyr
      rcases x1.blocks b g y hy with ⟨g0, y0, h0, hr0⟩ | h0
      · exact ro3 b (hro b g0 y0 h0 (hr0.trans hyr))
      · omega
  · have hbm : b ≠ m := fun hh => by rw [hh, ] at hno; rw [hno 0] at hx; cases hx
    rw [Hp.get_set _ _ h4.n, if_neg hbm]
    refine (x2.ours b (by rw [n3]; exact Nat.lt_of_lt_of_le hb x1.n) fun g => ?_).trans ?_
    · cases hy : e2 b g with
      | none => rfl
      | some y =>
        rcases x1.names b g y hy with ⟨g0, x0, h0⟩ | h0
        · rw [hno g0] at h0; cases h0
        · omega
    · rw [get3, if_neg hbm]; exact x1.ours b hb hno
  · rw [Hp.get_set _ _ h4.n]
    by_cases hbm : b = m
    · rw [if_pos hbm, hbm, hget]
    · rw [if_neg hbm]
      refine (x2.ro b (ro3 b hb)).trans ?_
      rw [get3, if_neg hbm]; exact x1.ro b hb
  · have := x2.n
    rw [n3] at this
    exact Nat.le_trans x1.n this
  · rw [World.putObj_size]; exact Nat.le_trans x1.size size3
  · exact x2.os.trans x1.os
  · exact x2.output.trans x1.output
  · exact x2.lk.trans (lk3.trans x1.lk)

/-- A loop over a function. -/
theorem rf_sim (hn : Named C.P) {n : Nat} {x : Operand} {ps : Array Tmp} {y z : Code} {s : Sx} (hs : sx C x = some s) (hps : ∀ t ∈ ps.toList, t < n) (hfy : flatC y = true) (hfz : flatC z = true) (k : Nat) (c : CallT) (hc : CallOK C c)
    (f : Fr) (h : Hp) (e : Emb) (a : Act) (w : World) (Q : Exit → Act → World → Prop) (hg : GR C e) (hf : FN a.defers n e f a) (hdf : DF b0 e w a.defers) (hr : HR e h w) (hp : Post C b0 n e h w Q (runC (.rf C s n ps.toList y z) k c f h)) :
    (Code.rangeFunc x ps y z).wpIn (fw none) 0 C.P Q a w := by
  by_cases hx : ∃ g caps, ev f s = .fn g [] caps ∧ and (hasBody C g) (not (Nat.ble yF g)) = true
  case neg =>
    obtain ⟨q, hq⟩ := runC_rf_no C s n ps.toList y z k c f h fun g caps hh => by
      cases hb : and (hasBody C g) (not (Nat.ble yF g)) with
      | false => rfl
      | true => exact absurd ⟨g, caps, hh, hb⟩ hx
    rw [hq] at hp; exact hp.elim
  case pos =>
  obtain ⟨g, caps, hx, hb⟩ := hx
  rw [runC_rf C s n ps.toList y z k c f h hx hb] at hp
  rw [Bool.and_eq_true, Bool.not_eq_true'] at hb
  have hv := sx_VR hg hf.1 hs
  rw [hx] at hv
  generalize hax : a.eval x = ax at hv
  cases hv with
  | yld m y0 _ _ => exact absurd hb.2 (by decide)
  | fn _ _ _ a' lb hgy hva hvb =>
  cases hva
  cases hcall : c g (.fn yF [] [.ptr h.n 0 0] :: caps) ⟨setT (.lp ⟨n, f, ps.toList, y, z⟩) (path h.n) h.t, h.n + 1, h.lk⟩ with
  | no q => rw [hcall] at hp; exact hp.elim
  | ok v h3 =>
  rw [hcall] at hp
  have hp : Post C b0 n e h w Q (.norm f ⟨setT (.sit 0 0 8) (path h.n) h3.t, h3.n, h3.lk⟩) := hp
  refine wpIn_rangeFunc fun fn _ => ?_
  -- what is laid
  have x0 : Ext e h w e h (w.alloc (.deferred (some []))) := (Ext.refl hr).aside (by simp) (fun r hr' _ => heap_alloc_old _ _ hr') rfl rfl
  obtain ⟨rec, hrec⟩ : ∃ rec : Loop, rec = { state := .ready, pending := none, fn := fn, tmps := a.tmps, params := ps, assign := y, body := z, defers := w.heap.size } := ⟨_, rfl⟩
  obtain ⟨e1, n1, x1⟩ := x0.hr.alloc (.lp ⟨n, f, ps.toList, y, z⟩) (.loop rec) ⟨w.heap.size + 1, 0, 0, 0⟩ (by simp) (fun e' hle _ => by
    have := BR.lp (e := e') (b := .lp ⟨n, f, ps.toList, y, z⟩) (g := 0) (x := ⟨w.heap.size + 1, 0, 0, 0⟩) ⟨n, f, ps.toList, y, z⟩ fn a.tmps w.heap.size rfl rfl (Nat.le_refl _) (fun t => (hf.1.1 t).mono hle) hf.2.1 hps hfy hfz
    rw [hrec]
    simpa using this)
  generalize hw1 : (w.alloc (.deferred (some []))).alloc (.loop rec) = w1 at x1
  generalize hh1 : (⟨setT (.lp ⟨n, f, ps.toList, y, z⟩) (path h.n) h.t, h.n + 1, h.lk⟩ : Hp) = h1 at x1 hcall
  have hD1 : w1.heap[w.heap.size]? = some (.deferred (some [])) := by
    rw [← hw1, heap_alloc_old _ _ (by simp)]; exact heap_alloc_new _ _
  have hL1 : w1.heap[w.heap.size + 1]? = some (.loop rec) := by
    rw [← hw1]
    have := heap_alloc_new (w.alloc (.deferred (some []))) (.loop rec)
    simpa using this
  have hget1 : h1.get h.n = some (.lp ⟨n, f, ps.toList, y, z⟩) := by rw [← hh1, Hp.get_set _ _ h.n, if_pos rfl]
  have hn1 : h1.n = h.n + 1 := by rw [← hh1]
  have xx := x0.trans x1
  -- nothing names the block of the deferred calls
  have hDn : ∀ b g0 y0, e1 b g0 = some y0 → y0.r ≠ w.heap.size := by
    intro b g0 y0 hy hh
    have hbr := x1.hr.at' b g0 y0 hy
    obtain ⟨blk, _, k2⟩ := hbr
    rcases x1.blocks b g0 y0 hy with ⟨g2, y2, k3, k4⟩ | k3
    · have := (hr.lt b g2 y2 k3).1
      omega
    · have : (w.alloc (.deferred (some []))).heap.size = w.heap.size + 1 := by simp
      omega
  have hdf1 : DF b0 e1 w1 ({ target := .collected w.heap.size, args := #[] } :: a.defers) := DF.cons hD1 hDn hdf (hdf.ext xx)
  -- the call
  have hargs : VRL e1 (.fn yF [] [.ptr h.n 0 0] :: caps) (.func (.yield (w.heap.size + 1)) #[] #[] :: lb) := .cons _ _ _ _ (.yld h.n _ n1 (Nat.le_refl _)) (hvb.mono xx.le)
  obtain ⟨fn2, hfn2, hbody⟩ : ∃ fn2, C.P.funcs[g]? = some fn2 ∧ fn2.body ≠ none := by
    have h1 := hb.1
    unfold hasBody at h1
    rw [nthA_eq, Array.getElem?_toList] at h1
    cases hq : C.P.funcs[g]? with
    | none => rw [hq] at h1; cases h1
    | some fn2 =>
      rw [hq] at h1
      refine ⟨fn2, rfl, fun hh => ?_⟩
      simp only [hh] at h1
      cases h1
  obtain ⟨b2, hb2⟩ : ∃ b2, fn2.body = some b2 := by
    cases hq : fn2.body with
    | none => exact absurd hq hbody
    | some b2 => exact ⟨b2, rfl⟩
  have henter : ∀ args w, (callFunc g args).run C.P w = .ok (.enter g args) w := fun args w => run_callFunc hfn2 (hn g fn2 hfn2 hbody) hb2
  have hcalls : Calls C.P g (.func (.yield (w.heap.size + 1)) #[] #[] :: lb).toArray w1 fun en w' => ∃ v' e', en = .returned v' ∧ VR e' v v' ∧ Ext e1 h1 w1 e' h3 w' := by
    rcases hc g _ h1 v h3 hcall with ⟨_, _, hcall2⟩ | ⟨_, hval⟩ | ⟨hh, _⟩
    · exact hcall2 e1 w1 _ (hg.mono xx.le) hargs x1.hr
    · obtain ⟨v', w', e', k1, _⟩ := hval e1 w1 _ (hg.mono xx.le) hargs x1.hr
      rw [henter] at k1; cases k1
    · rw [hh] at hgy; cases hgy
  refine ⟨w.heap.size + 1, [{ target := .collected w.heap.size, args := #[] }], w1, { target := .fn (.func g) lb.toArray, args := #[.func (.yield (w.heap.size + 1)) #[] #[]] }, w1, g, (.func (.yield (w.heap.size + 1)) #[] #[] :: lb).toArray, w1, ?_, ?_, fun _ _ => trivial, ?_, (fun hh => by cases hh), callsIn_fw (Calls.mono hcalls fun en w2 he => ?_)⟩
  · rw [← hw1, hrec]; exact run_enterLoop_outer _ _ _ _ _
  · simp only [resolve, hax]
    simp [go_sem]
  · have : #[.func (.yield (w.heap.size + 1)) #[] #[]] ++ lb.toArray = (Value.func (.yield (w.heap.size + 1)) #[] #[] :: lb).toArray := by
      apply Array.toList_inj.1; simp
    simp only [invoke]
    rw [this]; exact henter _ _
  · obtain ⟨v', e2, rfl, _, x2⟩ := he
    have hget3 : h3.get h.n = some (.lp ⟨n, f, ps.toList, y, z⟩) := (x2.ro h.n ⟨by rw [hn1]; exact Nat.lt_succ_self _, .inl ⟨_, hget1, trivial⟩⟩).trans hget1
    have hm2 : e2 h.n 0 = some ⟨w.heap.size + 1, 0, 0, 0⟩ := x2.le _ _ _ n1
    obtain ⟨blk, k1, k2⟩ := x2.hr.at' _ _ _ hm2
    rw [hget3] at k1; cases k1
    generalize hob : w2.heap[w.heap.size + 1]? = ob at k2
    cases k2 with
    | cells _ _ _ q => exact q.cells.elim
    | map _ _ _ _ hh => cases hh
    | sit _ _ hh => cases hh
    | iter _ _ _ _ hh => cases hh
    | busy _ hh => cases hh
    | dfr hh => cases hh
    | lp q fn3 tm3 df3 hh _ _ _ _ _ _ _ =>
      refine ⟨none, _, run_endLoop hob (by simp), ?_⟩
      have x3 : Ext e h w e2 h3 w2 := xx.trans x2
      have x4 := x3.turn hm2 (Nat.le_refl _) (Nat.le_succ _) hget3 id (BR.busy (e := e2) (b := .sit 0 0 8) (g := 0) (x := ⟨w.heap.size + 1, 0, 0, 0⟩) (.loop { state := .exhausted, pending := none, fn := fn3, tmps := tm3, params := q.ps.toArray, assign := q.a, body := q.b, defers := df3 }) rfl rfl (Nat.le_refl _))
      refine hp e2 _ _ x4 ⟨(hf.mono x4.le).1, (hf.mono x4.le).2.1, rfl⟩ ?_
      exact (hdf1.ext x2).other (r := w.heap.size + 1) (fun o hh => by rw [hob] at hh; cases hh) (fun k hk => World.putObj_heap_other hk) (by rw [World.putObj_size]; exact Nat.le_refl _)
end Go.Ab

/- Code, done on named blocks, is what the model does (second part). -/
namespace Go.Ab
open Go
variable {C : Cx} {R : Option Nat → Prop} {b0 : Nat}

theorem keyd (e : Emb) (h : Hp) (w : World) (hr : HR e h w) {r : Nat} {x : Loc} (hx : e r 0 = some x) {no : Out} {k : Es → Out} {P : Out → Prop} (hno : ¬ P no) (hk : P (h.onMap r no k)) :
    ∃ es es' clock l, h.get r = some (.map es) ∧ w.heap[x.r]? = some (.map es' clock) ∧ ERL e es l ∧ l.Perm (es'.toList.map fun m => (m.key, m.val)) ∧ bornOK es' clock ∧ P (k es) := by
  obtain ⟨blk, hget, hbr⟩ := hr.at' r 0 x hx
  unfold Hp.onMap at hk
  rw [hget] at hk
  have hk : P (blk.onMap no k) := hk
  cases blk with
  | flat l fz => exact (hno hk).elim
  | grown t n g fz => exact (hno hk).elim
  | sit n b p => exact (hno hk).elim
  | lp q => exact (hno hk).elim
  | map es =>
    have hk : P (k es) := hk
    generalize hw : w.heap[x.r]? = ob at hbr
    cases hbr with
    | cells c t fr q => exact q.cells.elim
    | sit s pos a _ => cases a
    | iter _ _ _ _ a _ => cases a
    | lp q0 fn0 tm0 df0 a => cases a
    | busy o0 a => cases a
    | dfr a => cases a
    | map es2 es' clock l a _ p q r s => cases a; exact ⟨_, _, _, _, hget, rfl, p, q, s, hk⟩

theorem Post.noP {b0 n : Nat} {e : Emb} {h : Hp} {w : World} {Q : Exit → Act → World → Prop} (q : String) : ¬ Post C b0 n e h w Q (.no q) := fun h => h

/-- A loop over a map. -/
theorem mloop_sim {n : Nat} {a b : Code} {M : MLs} (hml : mlOf C n a b = some M) (hcode : ∀ cd, SizeOf.sizeOf cd < SizeOf.sizeOf b → CodeOK C R n cd) (k : Nat) (c : CallT) (hc : CallOK C c) (f : Fr) (h : Hp) (e : Emb) (act : Act) (w : World) (Q : Exit → Act → World → Prop)
    (hg : GR C e) (hf : FN act.defers n e f act) (hdf : DF b0 e w act.defers) (hr : HR e h w) (hp : Post C b0 n e h w Q (runC (mkML C n M (mkC C n b)) k c f h)) : (Code.seq a b).ow R C.P Q act w := by
  obtain ⟨id, ops, out, id1, ops1, o, o1, o2, t, body, K⟩ := mlOf_spec hml
  unfold mkML at hp
  cases hsx : sx C M.x with
  | none => rw [hsx] at hp; exact (Post.noP _ hp).elim
  | some x =>
  cases hbo : bodyOf M.pr.isSome (mkC C n b) with
  | none => rw [hsx, hbo] at hp; exact (Post.noP _ hp).elim
  | some bc =>
  rw [hsx, hbo] at hp
  simp only at hp
  cases hmc : mlC C n M x bc with
  | none => rw [hmc] at hp; exact (Post.noP _ hp).elim
  | some cc =>
  rw [hmc] at hp
  obtain ⟨m, rfl, mpre, mx, mit, mpr, mnxt, ment, mds, mown, mcs⟩ := mlC_spec hmc
  -- a round's code
  have hround : RoundOK C R n m bc M.it body := by
    have hbody : SizeOf.sizeOf body < SizeOf.sizeOf b := by rw [K.hb]; simp; omega
    cases hpr : M.pr with
    | none =>
      rw [hpr, K.hb] at hbo
      have hbo : bodyOf false _ = some bc := hbo
      rw [bodyOf_plain] at hbo
      cases hbo
      exact round_plain (by rw [mpr, hpr]; rfl) (by rw [ment, hpr]) rfl (hcode body hbody)
    | some q =>
      have hq := K.pr
      rw [hpr] at hq
      obtain ⟨id2, ops2, code, oe, rfl, q1, q2, q3, q4, q5⟩ := entOf_spec hq.symm
      rw [hpr, K.hb] at hbo
      have hbo : bodyOf true _ = some bc := hbo
      have := bodyOf_entry hbo
      exact round_entry q1 q3 q4 (by rw [mpr, hpr]; rfl) (by rw [ment, hpr]; simp only [q2]) this (hcode code (by rw [K.hb]; simp; omega))
  -- the region ahead
  rw [K.ha]
  refine ow_seq (ow_region ?_)
  obtain ⟨g1, g2, g3⟩ := slotOK_spec K.it
  have hsz : ops.size = M.pre.length + 1 := by rw [← Array.length_toList, K.pre]; simp
  have hlast : ops[M.pre.length]? = some o := by rw [← Array.getElem?_toList, K.pre]; simp
  have hpre : ∀ (i : Nat) (o' : Oper), M.pre[i]? = some o' → ops[0 + i]? = some o' := by
    intro i o' hi
    rw [← Array.getElem?_toList, K.pre, Nat.zero_add, List.getElem?_append_left (List.getElem?_eq_some_iff.1 hi).1]
    exact hi
  have hrange : List.range ops.size = List.range' 0 M.pre.length ++ [M.pre.length] := by
    rw [hsz, List.range_succ, List.range_eq_range']
  rw [hrange]
  have hp : Post C b0 n e h w Q ((runR m.pre c f h).bd Out.no (fun f h => (ev f m.x).onMap Out.no (.no "range: nil map") fun r => h.onMap r (.no "range: no map") fun es => ifb (h.okw h.n) ((h.add (.sit 0 0 7)).bd fun h2 => (setP (.ptr h.n 0 0) m.it f).bd fun f2 => mapEs m (runC bc k) c f2 h2 es) (.no "range: locked")) Out.exit) := hp
  rcases runR_norm c m.pre f h with ⟨f1, h1, hx⟩ | ⟨q, hx⟩
  · rw [hx] at hp
    have hp : Post C b0 n e h w Q ((ev f1 m.x).onMap Out.no (.no "range: nil map") fun r => h1.onMap r (.no "range: no map") fun es => ifb (h1.okw h1.n) ((h1.add (.sit 0 0 7)).bd fun h2 => (setP (.ptr h1.n 0 0) m.it f1).bd fun f2 => mapEs m (runC bc k) c f2 h2 es) (.no "range: locked")) := hp
    have hx' : runR (mkSeq C n ops.toList M.pre) c f h = .norm f1 h1 := by rw [← K.preOps, ← mpre]; exact hx
    refine seq_simK hc M.pre 0 hpre f h e act w f1 h1 hg hf hr hx' fun e1 a1 w1 hext1 hf1 => ?_
    have hg1 := hg.mono hext1.le
    have vx := sx_VR hg1 hf1.1 hsx
    rw [mx] at hp
    generalize ev f1 x = vv at vx hp
    generalize hav : a1.eval M.x = av at vx
    cases vx <;> first | exact (Post.noP _ hp).elim | skip
    case remv t k h3 h4 =>
      rw [show ∀ (no : String → Out) (nl : Out) (k : Nat → Out), (AV.nil t).onMap no nl k = no "map" from fun no nl k => by
        show Bool.rec (motive := fun _ => Out) (no "map") nl (Nat.beq t 2) = _
        rw [show Nat.beq t 2 = false from beq_small (by omega) (by omega)]] at hp
      exact (Post.noP _ hp).elim
    case modv t k h3 h4 h5 h6 h7 =>
      rw [show ∀ (no : String → Out) (nl : Out) (k : Nat → Out), (AV.nil t).onMap no nl k = no "map" from fun no nl k => by
        show Bool.rec (motive := fun _ => Out) (no "map") nl (Nat.beq t 2) = _
        rw [show Nat.beq t 2 = false from beq_small (by assumption) (by omega)]] at hp
      exact (Post.noP _ hp).elim
    case map r xm hm hmb =>
      have hp : Post C b0 n e h w Q (h1.onMap r (.no "range: no map") fun es => ifb (h1.okw h1.n) ((h1.add (.sit 0 0 7)).bd fun h2 => (setP (.ptr h1.n 0 0) m.it f1).bd fun f2 => mapEs m (runC bc k) c f2 h2 es) (.no "range: locked")) := hp
      obtain ⟨es, es', clock, l, b1, b2, b3, b4, b5, hp⟩ := keyd e1 h1 w1 hext1.hr hm (Post.noP _) hp
      cases hok : h1.okw h1.n with
      | false => rw [hok] at hp; exact (Post.noP _ hp).elim
      | true =>
      rw [hok, ifb_true, Hp.add_eq, Bx.bd_mk, setP_eq, Bx.bd_mk] at hp
      obtain ⟨s0, rows, sf, hread, hrows1, hallok, hrows2, hwalk, hp⟩ := mapEs_ok (fun q => Post.noP q) hp
      obtain ⟨kt, vt, hu⟩ := isMapT_spec K.mapT
      rw [owOps_cons]
      refine owOp_val (v := .pointer (some ⟨w1.heap.size, 0, none⟩)) (w' := w1.alloc (.mapIter (some xm.r) clock #[] clock)) hlast g1 ?_ ?_
      · have := run_range_map (P := C.P) w1 t kt vt xm.r es' clock hu b2
        simp only [execOp, K.op, hav, this, Sem.run_bind, Result.andThen_ok, Sem.run_pure]
      rw [g2]
      obtain ⟨e2, n1, hext2⟩ := hext1.hr.alloc (.sit 0 0 7) (.mapIter (some xm.r) clock #[] clock) ⟨w1.heap.size, 0, 0, 0⟩ rfl (fun e' _ _ => .iter _ _ _ _ rfl rfl (Nat.le_refl _))
      generalize hh2 : (⟨setT (.sit 0 0 7) (path h1.n) h1.t, h1.n + 1, h1.lk⟩ : Hp) = h2 at hext2 hread hrows1 hallok hp
      have hget2 : ∀ q, h2.get q = if q = h1.n then some (.sit 0 0 7) else h1.get q := fun q => by rw [← hh2]; exact Hp.get_set _ _ h1.n _ _ _
      have hlk2 : ∀ q, h2.okw q = h1.okw q := fun q => okw_lk (by rw [← hh2]) q
      have hf2 : FN act.defers n e2 (setT (.ptr h1.n 0 0) m.it f1) (a1.put (some M.it) (.pointer (some ⟨w1.heap.size, 0, none⟩))) := by
        rw [mit]
        exact (hf1.mono hext2.le).put g3 (.ptr h1.n 0 0 _ n1 (Nat.le_refl _) (Nat.le_refl _))
      generalize hff : setT (.ptr h1.n 0 0) m.it f1 = f2 at hf2 hread hrows1 hallok hp
      have hitf : slot f2 M.it = .ptr h1.n 0 0 := by rw [← hff, mit, slot_set, if_pos rfl]
      generalize (a1.put (some M.it) (.pointer (some ⟨w1.heap.size, 0, none⟩))) = a2 at hf2
      generalize hw2 : w1.alloc (.mapIter (some xm.r) clock #[] clock) = w2 at hext2
      generalize hexx : exOf h2 f2 [] = ex at hread hrows1 hallok hp
      generalize hcs : (m.cs.filter fun p => (slotV f2 p).isSome) = cs at hread hrows1 hp
      have hcsm : ∀ p ∈ cs, p ∈ m.cs := fun p hp => by rw [← hcs] at hp; exact (List.mem_filter.1 hp).1
      have hcsown : ∀ p ∈ cs, p ≠ path M.it := fun p hp => mown p (.inr (mcs p (hcsm p hp)).1)
      obtain ⟨hread1, hread2⟩ := readSt_spec hread
      have hrm : r ≠ h1.n := fun hh => Nat.lt_irrefl _ (hh ▸ (hext1.hr.lt _ _ _ hm).2)
      have MA : MapAt C n m bc M.it M.nx M.more e2 h2 w2 f2 ex cs h1.n w1.heap.size r xm.r clock ⟨w1.heap.size, 0, 0, 0⟩ xm es l es' := by
        refine ⟨mit, fun hh => ?_, fun hh => hcsown _ hh rfl, (mds _).2 (.inl rfl), fun hh => (mcs _ (hcsm _ hh)).2.1 rfl, (mds _).2 (.inr (.inl rfl)), fun hh => (mcs _ (hcsm _ hh)).2.2 rfl, (slotOK_spec K.more).2.2,
          fun p hp => (mds p).2 (.inr (.inr (.inr (.inl hp)))), fun p hp => (mds p).2 (.inr (.inr (.inr (.inr hp)))), fun p hp => (mds p).2 (.inr (.inr (.inl (by rw [hp]; simp)))), fun q hq => ⟨List.all_eq_true.1 hallok q hq, ?_⟩, n1, rfl, by rw [hget2, if_pos rfl], by rw [hlk2]; exact hok, hext2.le _ _ _ hm, rfl,
          by rw [hget2, if_neg hrm]; exact b1, b3.mono hext2.le, b5, hitf, hg1.mono hext2.le⟩
        · rcases (mds _).1 hh with h3 | h3 | h3
          · exact K.nxit (path_inj _ _ h3).symm
          · exact K.mrit (path_inj _ _ h3).symm
          · exact mown _ h3 rfl
        · obtain ⟨v, _, hv⟩ := readCs_cell hread1 hq
          exact ⟨v, hv⟩
      have hlen : lenA es = l.length := by rw [b3.length]; simp
      show (Code.ow R C.P b Q a2 w2)
      rw [K.hb]
      obtain ⟨k1, k2, k3⟩ := putCs_spec ex s0.1 h2 h2 hread1
      have hsame : h2.grew (putCs ex s0.1 h2).out := ⟨by rw [k1]; exact Nat.le_refl _, fun q _ => by rw [k3]; split <;> rfl, k2⟩
      refine ow_block (ow_of_owL (rounds_sim (b0 := b0) (sf := sf) (Q := Exit.inBlock out Q) MA hrows1 (by rw [← b3.length, ← hlen]; exact hrows2) hc hround K.two K.next K.nx K.extr K.more mnxt.symm (fun aF wF hextF hfF dF => ?_) _ (List.range (lenA es)) rfl s0 a2 w2 ?_))
      · show Exit.inBlock out Q (.exit out) aF wF
        simp only [Exit.inBlock, if_true]
        exact hp e2 aF wF (hext1.trans (hext2.trans hextF)) hfF dF
      · refine ⟨(Ext.refl hext2.hr).grow hsame, ⟨⟨fun q => ?_, hf2.1.2⟩, hf2.2.1, rfl⟩, ?_, ⟨#[], ?_, ?_⟩, ?_, hwalk, ⟨f2, h2, hread⟩, by rw [hf2.2.2]; exact hdf.ext (hext1.trans hext2)⟩
        · rw [putSs_slot cs s0.2 _ f2 q hread2]
          by_cases hq : path q ∈ cs
          · rw [if_pos hq]; exact hf2.1.1 q
          · rw [if_neg hq, anyAll_slot]
            by_cases hd : path q ∈ m.ds
            · rw [if_pos hd]; exact .any _
            · rw [if_neg hd]; exact hf2.1.1 q
        · rw [← hw2, heap_alloc_old _ _ (hext1.hr.lt _ _ _ hm).1]; exact b2
        · rw [← hw2]; exact heap_alloc_new _ _
        · have hleft : (leftOf es' #[]).toList = es'.toList := by
            unfold leftOf
            rw [Array.toList_filter, List.filter_eq_self]
            intro q _
            simp
          rw [hleft, hlen, range_get]
          have := b4.map some
          simpa [List.map_map, Function.comp_def] using this
        · intro i hi
          rw [List.mem_range] at hi
          simpa using hi
  · rw [hx] at hp; exact (Post.noP _ hp).elim

theorem code_sim (hd : DrawOK C) (hn : Named C.P) (n : Nat) : ∀ cd : Code, (∀ ro, R ro → ro = none) ∨ flatC cd = true → CodeOK C R n cd := by
  intro cd
  induction hs : SizeOf.sizeOf cd using Nat.strongRecOn generalizing cd with
  | ind sz IH =>
  intro hR
  have IH : ∀ cd', SizeOf.sizeOf cd' < SizeOf.sizeOf cd → (∀ ro, R ro → ro = none) ∨ flatC cd' = true → CodeOK C R n cd' := fun cd' hlt => IH (SizeOf.sizeOf cd') (hs ▸ hlt) cd' rfl
  clear hs
  cases cd with
  | skip => intro b0 k c _ f h e a w Q _ hf hdf hr hp; exact ow_skip (hp e a w (.refl hr) hf hdf)
  | label l => intro b0 k c _ f h e a w Q _ hf hdf hr hp; exact ow_label (hp e a w (.refl hr) hf hdf)
  | exit id => intro b0 k c _ f h e a w Q _ hf hdf hr hp; exact ow_exit (hp e a w (.refl hr) hf hdf)
  | ret => intro b0 k c _ f h e a w Q _ hf hdf hr hp; exact ow_ret (hp e a w (.refl hr) hf hdf)
  | region id ops draw =>
    intro b0 k c hc f h e a w Q hg hf hdf hr hp
    cases draw with
    | true => exact hd R a.defers n id ops c hc f h e a w Q hg hf hr (Post.region hp hdf)
    | false =>
      refine ow_region ?_
      have := seq_sim (Q := Q) hc ops.toList 0 (fun i o hi => by simpa using hi) f h e a w hg hf hr (Post.region hp hdf)
      rw [List.range_eq_range']
      simpa using this
  | seq x y =>
    intro b0 k c hc f h e a w Q hg hf hdf hr hp
    have hm : mkC C n (.seq x y) = match mlOf C n x y with
      | some m => mkML C n m (mkC C n y)
      | none => .seq (mkC C n x) (mkC C n y) := rfl
    rw [hm] at hp
    cases hml : mlOf C n x y with
    | some m =>
      rw [hml] at hp
      rcases hR with hR | hR
      case inr =>
        exfalso
        obtain ⟨id, ops, out, id1, ops1, o, o1, o2, t, body, K⟩ := mlOf_spec hml
        have hR : and (flatC x) (flatC y) = true := hR
        rw [Bool.and_eq_true, K.hb] at hR
        exact absurd hR.2 (by show ¬ (false = true); simp)
      exact mloop_sim (R := R) hml (fun cd' hlt => IH cd' (by simp; omega) (.inl hR)) k c hc f h e a w Q hg hf hdf hr hp
    | none =>
    rw [hml] at hp
    have ihx := IH x (by simp; omega) (hR.imp (fun h => h) fun h => by
      have h : and (flatC x) (flatC y) = true := h
      rw [Bool.and_eq_true] at h; exact h.1)
    have ihy := IH y (by simp; omega) (hR.imp (fun h => h) fun h => by
      have h : and (flatC x) (flatC y) = true := h
      rw [Bool.and_eq_true] at h; exact h.2)
    refine ow_seq (ihx b0 k c hc f h e a w _ hg hf hdf hr ?_)
    have hp : Post C b0 n e h w Q ((runC (mkC C n x) k c f h).bd Out.no (runC (mkC C n y) k c) Out.exit) := hp
    cases hx : runC (mkC C n x) k c f h with
    | norm f2 h2 =>
      rw [hx] at hp
      intro e' a' w' hext hf' hdf'
      exact ihy b0 k c hc f2 h2 e' a' w' Q (hg.mono hext.le) hf' hdf' hext.hr (Post.after hp hext)
    | exit i f2 h2 => rw [hx] at hp; exact hp
    | ret f2 h2 => rw [hx] at hp; exact hp
    | no s => rw [hx] at hp; exact hp
  | cond x y z =>
    intro b0 k c hc f h e a w Q hg hf hdf hr hp
    have ihy := IH y (by simp; omega) (hR.imp (fun h => h) fun h => by
      have h : and (flatC y) (flatC z) = true := h
      rw [Bool.and_eq_true] at h; exact h.1)
    have ihz := IH z (by simp; omega) (hR.imp (fun h => h) fun h => by
      have h : and (flatC y) (flatC z) = true := h
      rw [Bool.and_eq_true] at h; exact h.2)
    have hp : Post C b0 n e h w Q (runC (match sx C x with
      | some c => .cond c (mkC C n y) (mkC C n z)
      | none => .bad "cond") k c f h) := hp
    cases hs : sx C x with
    | none => rw [hs] at hp; exact hp.elim
    | some s =>
      rw [hs] at hp
      have hp : Post C b0 n e h w Q ((ev f s).onBool Out.no fun t => Bool.rec (motive := fun _ => Out) (runC (mkC C n z) k c f h) (runC (mkC C n y) k c f h) t) := hp
      rcases (sx_VR hg hf.1 hs).onBool (no := Out.no) (k := fun t => Bool.rec (motive := fun _ => Out) (runC (mkC C n z) k c f h) (runC (mkC C n y) k c f h) t) with ⟨b, _, h1, h2⟩ | ⟨q, h2⟩
      · rw [h2] at hp
        refine ow_cond h1 ?_
        cases b with
        | true => exact ihy b0 k c hc f h e a w Q hg hf hdf hr hp
        | false => exact ihz b0 k c hc f h e a w Q hg hf hdf hr hp
      · rw [h2] at hp; exact hp.elim
  | block id b =>
    intro b0 k c hc f h e a w Q hg hf hdf hr hp
    have ih := IH b (by simp; omega) (hR.imp (fun h => h) fun h => h)
    refine ow_block (ih b0 k c hc f h e a w _ hg hf hdf hr ?_)
    have hp : Post C b0 n e h w Q ((runC (mkC C n b) k c f h).bd Out.no Out.norm fun i f h => Bool.rec (motive := fun _ => Out) (.exit i f h) (.norm f h) (Nat.beq i id)) := hp
    cases hx : runC (mkC C n b) k c f h with
    | norm f2 h2 => rw [hx] at hp; exact hp
    | ret f2 h2 => rw [hx] at hp; exact hp
    | no s => rw [hx] at hp; exact hp
    | exit i f2 h2 =>
      rw [hx] at hp
      intro e' a' w' hext hf' hdf'
      have hp : Post C b0 n e h w Q (Bool.rec (motive := fun _ => Out) (.exit i f2 h2) (.norm f2 h2) (Nat.beq i id)) := hp
      simp only [Exit.inBlock]
      cases hb : Nat.beq i id with
      | true => rw [hb] at hp; rw [if_pos (beq_iff.1 hb)]; exact hp e' a' w' hext hf' hdf'
      | false =>
        rw [hb] at hp
        rw [if_neg (fun hh => by rw [beq_iff.2 hh] at hb; cases hb)]
        exact hp e' a' w' hext hf' hdf'
  | loop b =>
    intro b0 k c hc f h e a w Q hg hf hdf hr hp
    rcases hR with hR | hR
    case inr => exact absurd hR (by show ¬ (false = true); simp)
    have ih := IH b (by simp) (.inl hR)
    have hp : Post C b0 n e h w Q (rounds (runC (mkC C n b) k) c k f h) := hp
    have key : ∀ (m : Nat) (f : Fr) (h : Hp) (e : Emb) (a : Act) (w : World), GR C e → FN a.defers n e f a → DF b0 e w a.defers → HR e h w → Post C b0 n e h w Q (rounds (runC (mkC C n b) k) c m f h) → owL R C.P b Q a w := by
      intro m
      induction m with
      | zero => intro f h e a w _ _ _ _ hp; exact hp.elim
      | succ m ihm =>
        intro f h e a w hg hf hdf hr hp
        have hp : Post C b0 n e h w Q ((runC (mkC C n b) k c f h).bd Out.no (rounds (runC (mkC C n b) k) c m) Out.exit) := hp
        refine owL_step (ih b0 k c hc f h e a w _ hg hf hdf hr ?_)
        cases hx : runC (mkC C n b) k c f h with
        | norm f2 h2 =>
          rw [hx] at hp
          intro e' a' w' hext hf' hdf'
          exact ihm f2 h2 e' a' w' (hg.mono hext.le) hf' hdf' hext.hr (Post.after hp hext)
        | exit i f2 h2 => rw [hx] at hp; exact hp
        | ret f2 h2 => rw [hx] at hp; exact hp
        | no s => rw [hx] at hp; exact hp
    exact ow_of_owL (key k f h e a w hg hf hdf hr hp)
  | scope b =>
    intro b0 k c hc f h e a w Q hg hf hdf hr hp
    rcases hR with hR | hR
    case inr => exact absurd hR (by show ¬ (false = true); simp)
    have ih := IH b (by simp) (.inl hR)
    have hp : Post C b0 n e h w Q (runC (mkC C n b) k c f h) := hp
    intro ro hro
    rw [hR ro hro]
    refine wpIn_wide.2 (wp_scope_straight (wpIn_wide.1 (ih b0 k c hc f h e a w (Exit.noGoto Q) hg hf hdf hr ?_ none (by rw [← hR ro hro]; exact hro))))
    cases hx : runC (mkC C n b) k c f h with
    | norm f2 h2 => rw [hx] at hp; exact hp
    | ret f2 h2 => rw [hx] at hp; exact hp
    | no s => rw [hx] at hp; exact hp
    | exit i f2 h2 => rw [hx] at hp; exact hp
  | rangeFunc x ps y z =>
    intro b0 k c hc f h e a w Q hg hf hdf hr hp
    rcases hR with hR | hR
    case inr => exact absurd hR (by show ¬ (false = true); simp)
    have hp : Post C b0 n e h w Q (runC (match sx C x, and (ps.all fun t => Nat.ble (t + 1) n) (and (flatC y) (flatC z)) with
      | some s, true => .rf C s n ps.toList y z
      | _, _ => .bad "range over a function") k c f h) := hp
    cases hs : sx C x with
    | none => rw [hs] at hp; exact hp.elim
    | some s =>
      cases hb : and (ps.all fun t => Nat.ble (t + 1) n) (and (flatC y) (flatC z)) with
      | false => rw [hs, hb] at hp; exact hp.elim
      | true =>
        rw [hs, hb] at hp
        rw [Bool.and_eq_true, Bool.and_eq_true] at hb
        intro ro hro
        rw [hR ro hro]
        refine rf_sim hn hs (fun t ht => ?_) hb.2.1 hb.2.2 k c hc f h e a w Q hg hf hdf hr hp
        have := List.all_eq_true.1 (by rw [← Array.all_toList] at hb; exact hb.1) t ht
        exact Nat.le_of_ble_eq_true this
  | _ => intro b0 k c _ f h e a w Q _ _ _ _ hp; exact hp.elim
end Go.Ab

/- Calls, done on named blocks, are what the model does. -/
namespace Go.Ab
open Go
variable {C : Cx}

/-! ### Entering -/
theorem frameOf_slot : ∀ (l : List AV) (i : Nat) (f : Fr) (t : Nat), slot (frameOf l i f).out t = if i ≤ t ∧ t < i + l.length then (l[t - i]?).getD undefA else slot f t
  | [], i, f, t => by
    rw [if_neg (by simp only [List.length_nil]; omega)]; rfl
  | v :: l, i, f, t => by
    have h1 : frameOf (v :: l) i f = v.force fun v => (setP v (path i) f).bd fun t => frameOf l (Nat.succ i) t := rfl
    rw [h1, force_eq, setP_eq, Bx.bd_mk, frameOf_slot l (Nat.succ i), slot_set]
    simp only [List.length_cons]
    by_cases h2 : Nat.succ i ≤ t ∧ t < Nat.succ i + l.length
    · rw [if_pos h2, if_pos (by omega), show t - i = (t - Nat.succ i) + 1 by omega]
      simp
    · rw [if_neg h2]
      by_cases h3 : t = i
      · subst h3
        rw [if_pos rfl, if_pos (by omega)]
        simp
      · rw [if_neg h3, if_neg (by omega)]

theorem frame_FN {e : Emb} {args : List AV} {args' : List Value} (h : VRL e args args') (n : Nat) : FN [] n e (frameOf args 0 .e).out { tmps := args'.toArray ++ Array.replicate (n - args'.toArray.size) undef, defers := [] } := by
  refine ⟨⟨fun t => ?_, trivial⟩, ?_, rfl⟩
  · rw [frameOf_slot]
    have hl := h.length
    by_cases ht : 0 ≤ t ∧ t < 0 + args.length
    · rw [if_pos ht]
      have hlt : t < args.length := by omega
      obtain ⟨v', h1, h2⟩ := h.get (List.getElem?_eq_getElem hlt)
      have h3 : (args'.toArray ++ Array.replicate (n - args'.toArray.size) undef).getD t undef = v' := by
        rw [Array.getD_eq_getD_getElem?, Array.getElem?_append_left (by simp; omega)]
        simp [h1]
      rw [h3, Nat.sub_zero, List.getElem?_eq_getElem hlt]
      exact h2
    · rw [if_neg ht]
      have h3 : (args'.toArray ++ Array.replicate (n - args'.toArray.size) undef).getD t undef = undef := by
        rw [Array.getD_eq_getD_getElem?, Array.getElem?_append_right (by simp; omega), Array.getElem?_replicate]
        split <;> rfl
      rw [h3, slot_eq, getP_e]
      exact undef_VR e
  · simp; omega

/-! ### Leaving -/
theorem resOf_sim {e : Emb} {f : Fr} {a : Act} {h : Hp} {w : World} (hf : FR e f a) (hr : HR e h w) {r : ResultVar} {p : List Bool × Option Sh} (hp : mkRes C [r] = [p]) {v : AV} (hx : resOf p f h = .ok v) :
    ∃ v', (match r with
      | .tmp t => pure (a.tmps.getD t undef)
      | .cell b t => do loadVar t (← asAddr (a.tmps.getD b undef)) : Sem Value).run C.P w = .ok v' w ∧ VR e v v' := by
  cases r with
  | tmp t =>
    cases hp
    have hx : Res.ok (ev f (.t (path t))) = .ok v := hx
    cases hx
    exact ⟨_, rfl, hf.1 t⟩
  | cell b t =>
    cases hp
    have hx : (ev f (.t (path b))).onPtr Res.no (fun b g o => Sh.rec (motive := fun _ => Res AV) (fun n => (h.readN b g o n).bd fun l => .ok (.agg l)) (h.read1 b g o) (.no "result") (shOf C t)) = .ok v := hx
    rcases (show VR e (ev f (.t (path b))) _ from hf.1 b).onPtr (no := Res.no) (k := fun b g o => Sh.rec (motive := fun _ => Res AV) (fun n => (h.readN b g o n).bd fun l => .ok (.agg l)) (h.read1 b g o) (.no "result") (shOf C t)) with ⟨b2, g, o', y, _, h1, h2, h3, h4, h5⟩ | ⟨q, h5⟩
    · rw [h5] at hx
      simp only [h4, asAddr]
      cases hs : shOf C t with
      | bad => rw [hs] at hx; exact (no_okR hx).elim
      | one =>
        rw [hs] at hx
        obtain ⟨v', k1, k2, _⟩ := hr.read1 h1 h3 hx
        exact ⟨v', by simp [run_loadVar_one hs k1], k2⟩
      | agg n =>
        rw [hs] at hx
        obtain ⟨l, hl, hx⟩ := Res.bd_eq_ok hx
        cases hx
        obtain ⟨l', k1, k2, k3, _⟩ := hr.readN C.P h1 h3 hl
        exact ⟨.agg l'.toArray, by simp [run_loadVar_agg hs k1], .agg _ _ k2 k3⟩
    · rw [h5] at hx; exact (no_okR hx).elim

theorem resL_sim {e : Emb} {f : Fr} {a : Act} {h : Hp} {w : World} (hf : FR e f a) (hr : HR e h w) : ∀ (rs : List ResultVar) (vs : List AV), resL (mkRes C rs) f h = .ok vs →
    ∃ vs', (rs.mapM fun r => (match r with
      | .tmp t => pure (a.tmps.getD t undef)
      | .cell b t => do loadVar t (← asAddr (a.tmps.getD b undef)) : Sem Value)).run C.P w = .ok vs' w ∧ VRL e vs vs'
  | [], vs, hx => by
    cases hx
    exact ⟨[], rfl, .nil⟩
  | r :: rs, vs, hx => by
    have hcons : ∃ p, mkRes C (r :: rs) = p :: mkRes C rs ∧ mkRes C [r] = [p] := by cases r <;> exact ⟨_, rfl, rfl⟩
    obtain ⟨p, hp1, hp2⟩ := hcons
    rw [hp1] at hx
    have hx : (resOf p f h).bd (fun v => (resL (mkRes C rs) f h).bd fun r => .ok (v :: r)) = .ok vs := hx
    obtain ⟨v, h1, hx⟩ := Res.bd_eq_ok hx
    obtain ⟨vs2, h2, hx⟩ := Res.bd_eq_ok hx
    cases hx
    obtain ⟨v', k1, k2⟩ := resOf_sim hf hr hp2 h1
    obtain ⟨vs', k3, k4⟩ := resL_sim hf hr rs vs2 h2
    refine ⟨v' :: vs', ?_, .cons _ _ _ _ k2 k4⟩
    rw [List.mapM_cons]
    simp only [Sem.run_bind, Sem.run_pure]
    erw [k1]
    simp only [Result.andThen_ok]
    erw [k3]
    rfl

theorem leave_sim {e : Emb} {f : Fr} {a : Act} {h h' : Hp} {w : World} {fn : Func} {code : CC} (hf : FR e f a) (hr : HR e h w) {v : AV} (hx : leave ⟨code, mkRes C fn.results.toList⟩ f h = .ok v h') :
    h' = h ∧ ∃ v', (results fn a.tmps).run C.P w = .ok v' w ∧ VR e v v' := by
  have hx : (resL (mkRes C fn.results.toList) f h).bd2 (fun l => .ok (oneOf l) h) = .ok v h' := hx
  obtain ⟨vs, h1, hx⟩ := Res.bd2_eq_ok hx
  cases hx
  obtain ⟨vs', k1, k2⟩ := resL_sim hf hr fn.results.toList vs h1
  refine ⟨rfl, ?_⟩
  have hrun : (results fn a.tmps).run C.P w = .ok (if h : vs'.toArray.size = 1 then vs'.toArray[0] else .tuple vs'.toArray) w := by
    unfold results
    rw [Array.mapM_eq_mapM_toList]
    simp only [Sem.run_bind, Sem.run_map]
    erw [k1]
    rfl
  rw [hrun]
  refine ⟨_, rfl, ?_⟩
  cases k2 with
  | nil => exact .tup [] [] .nil
  | cons v v' l l' hv hl =>
    cases hl with
    | nil => exact hv
    | cons u u' l2 l2' hu hl => exact .tup _ _ (.cons _ _ _ _ hv (.cons _ _ _ _ hu hl))

/-! ### Calls -/
theorem mkF_spec {g : Nat} {cf : CF} (h : mkF C g = some cf) : ∃ fn b, C.P.funcs[g]? = some fn ∧ fn.body = some b ∧ cf = ⟨mkC C fn.ntmps b, mkRes C fn.results.toList⟩ := by
  unfold mkF at h
  rw [nthA_eq, Array.getElem?_toList] at h
  cases hg : C.P.funcs[g]? with
  | none => rw [hg] at h; cases h
  | some fn =>
    rw [hg] at h
    simp only at h
    cases hb : fn.body with
    | none => rw [hb] at h; cases h
    | some b => rw [hb] at h; cases h; exact ⟨fn, b, rfl, hb, rfl⟩

/-- The marks of loops over functions are taken. -/
theorem leaves_DF {e e' : Emb} {h h' : Hp} {w : World} {fn : Func} {tmps : Array Value} {P : Program} {R : Ending → World → Prop} : ∀ (l : List Deferred) (w' : World), Ext e h w e' h' w' → DF w.heap.size e' w' l → (∀ w'', Ext e h w e' h' w'' → LeavesIn Fence.wide 0 P fn tmps R [] .returning w'') → LeavesInM Fence.wide 0 P fn tmps R l .returning w'
  | [], w', x, _, hk => hk w' x
  | d :: l, w', x, hd, hk => by
    obtain ⟨D, h1, h2, h3, h4⟩ := hd.1 d (.head _)
    have hnd := List.nodup_cons.1 hd.2.1
    have x2 : Ext e h w e' h' (w'.putObj D (.deferred none)) := x.aside (by rw [World.putObj_size]; exact Nat.le_refl _) (fun r _ hr => World.putObj_heap_other fun hh => by
      rcases hr with hr | ⟨b, g, y, hy, hyr⟩
      · omega
      · exact h3 b g y hy (hyr.trans hh)) rfl rfl
    refine ⟨(fun hh => by cases hh), .inl ⟨D, w'.putObj D (.deferred none), by rw [h1], run_takeDeferred h2, leaves_DF l _ x2 ⟨fun d2 hd2 => ?_, hnd.2, by rw [World.putObj_size]; exact hd.2.2⟩ hk⟩⟩
    obtain ⟨D2, k1, k2, k3, k4⟩ := hd.1 d2 (.tail _ hd2)
    refine ⟨D2, k1, ?_, k3, k4⟩
    rw [World.putObj_heap_other]
    · exact k2
    · intro hh
      subst hh
      rw [← h1] at k1
      exact hnd.1 (k1 ▸ hd2)

theorem enter_sim (hd : DrawOK C) (hn : Named C.P) {c : CallT} (hc : CallOK C c) {g : Nat} {fn : Func} {b : Code} {k : Nat} {args : List AV} {args' : List Value} {h h' : Hp} {v : AV} (hg : C.P.funcs[g]? = some fn) (hb : fn.body = some b)
    (hx : enter ⟨mkC C fn.ntmps b, mkRes C fn.results.toList⟩ k c args h = .ok v h') {e : Emb} {w : World} (hge : GR C e) (hv : VRL e args args') (hr : HR e h w) :
    Calls C.P g args'.toArray w fun en w' => ∃ v' e', en = .returned v' ∧ VR e' v v' ∧ Ext e h w e' h' w' := by
  refine (callsIn_wide (n := 0)).1 (callsIn_of_wp_marks hg hb trivial ?_)
  have hx : Out.rec (motive := fun _ => R2) (leave ⟨mkC C fn.ntmps b, mkRes C fn.results.toList⟩) (fun _ _ _ => .no "exit") (leave ⟨mkC C fn.ntmps b, mkRes C fn.results.toList⟩) R2.no ((frameOf args 0 .e).bd fun f => runC (mkC C fn.ntmps b) k c f h) = .ok v h' := hx
  rw [Bx.eta (frameOf args 0 .e), Bx.bd_mk] at hx
  refine code_sim (R := fun ro => ro = none) hd hn fn.ntmps b (.inl fun _ hh => hh) w.heap.size k c hc _ h e _ w _ hge (frame_FN hv fn.ntmps) (DF.nil e (Nat.le_refl _)) hr ?_ none rfl
  cases ho : runC (mkC C fn.ntmps b) k c (frameOf args 0 .e).out h with
  | no q => rw [ho] at hx; exact (no_ok hx).elim
  | exit i f2 h2 => rw [ho] at hx; exact (no_ok hx).elim
  | norm f2 h2 =>
    rw [ho] at hx
    intro e' a' w' hext hf' hdf'
    refine leaves_DF a'.defers w' hext hdf' fun w'' hext'' => ?_
    obtain ⟨rfl, v', k1, k2⟩ := leave_sim hf'.1 hext''.hr hx
    exact ⟨v', k1, v', e', rfl, k2, hext''⟩
  | ret f2 h2 =>
    rw [ho] at hx
    intro e' a' w' hext hf' hdf'
    refine leaves_DF a'.defers w' hext hdf' fun w'' hext'' => ?_
    obtain ⟨rfl, v', k1, k2⟩ := leave_sim hf'.1 hext''.hr hx
    exact ⟨v', k1, v', e', rfl, k2, hext''⟩

/-! ### A round of a loop over a function -/
theorem lastN_append (m : Nat) : ∀ xs : List AV, lastN (xs ++ [.ptr m 0 0]) = some m
  | [] => rfl
  | x :: xs => by
    have h := lastN_append m xs
    cases xs with
    | nil => rfl
    | cons y ys => exact h
theorem putXs_nil : ∀ (ps : List Nat) (f : Fr), putXs ps [] f = none
  | [], _ => rfl
  | _ :: _, _ => rfl
theorem putXs_spec {e : Emb} {m : Nat} : ∀ (ps : List Nat) (xs : List AV) (f : Fr) (r : Fr × Nat) (xs' : List Value) (tmps : Array Value), putXs ps (xs ++ [.ptr m 0 0]) f = some r → VRL e xs xs' → (∀ t, VR e (slot f t) (tmps.getD t undef)) → (∀ t ∈ ps, t < tmps.size) →
    xs'.length = ps.length ∧ (∀ t, VR e (slot r.1 t) (((ps.zip xs').foldl (fun tm (p : Nat × Value) => tm.setIfInBounds p.1 p.2) tmps).getD t undef)) ∧ ((ps.zip xs').foldl (fun tm (p : Nat × Value) => tm.setIfInBounds p.1 p.2) tmps).size = tmps.size
  | [], xs, f, r, xs', tmps, hx, hv, hf, _ => by
    cases xs with
    | nil =>
      cases hv
      have hx : some (f, m) = some r := hx
      cases hx
      exact ⟨rfl, hf, rfl⟩
    | cons x xs =>
      exfalso
      have hx : (match x :: (xs ++ [.ptr m 0 0]) with
        | [.ptr m 0 0] => some (f, m)
        | _ => none) = some r := hx
      cases xs with
      | nil => split at hx <;> first | (rename_i hh; cases hh; done) | cases hx
      | cons y ys => split at hx <;> first | (rename_i hh; cases hh; done) | cases hx
  | p :: ps, xs, f, r, xs', tmps, hx, hv, hf, hp => by
    cases xs with
    | nil =>
      exfalso
      have hx : (setP (.ptr m 0 0) (path p) f).bd (fun f => putXs ps [] f) = some r := hx
      rw [Bx.eta (setP (.ptr m 0 0) (path p) f), Bx.bd_mk, putXs_nil] at hx
      cases hx
    | cons x xs =>
      cases hv with
      | cons _ v' _ l' h1 h2 =>
        have hx : (setP x (path p) f).bd (fun f => putXs ps (xs ++ [.ptr m 0 0]) f) = some r := hx
        rw [setP_eq, Bx.bd_mk] at hx
        have hpl := hp p (.head _)
        obtain ⟨k1, k2, k3⟩ := putXs_spec ps xs _ r l' (tmps.setIfInBounds p v') hx h2 (fun t => by
          rw [slot_set]
          by_cases ht : t = p
          · subst ht
            rw [if_pos rfl]
            simpa [hpl] using h1
          · rw [if_neg ht]
            have : (tmps.setIfInBounds p v').getD t undef = tmps.getD t undef := by
              simp [Array.getElem?_setIfInBounds_ne (Ne.symm ht)]
            rw [this]; exact hf t) (fun t ht => by simpa using hp t (.tail _ ht))
        refine ⟨by simp [k1], k2, ?_⟩
        rw [List.zip_cons_cons, List.foldl_cons, k3]
        simp

theorem fin_ok {o : Out} {k : Fr → Hp → R2} {v : AV} {h' : Hp} (hx : o.fin k = .ok v h') : ∃ f h, o = .norm f h ∧ k f h = .ok v h' := by
  cases o with
  | norm f h => exact ⟨f, h, rfl, hx⟩
  | exit i f h => cases hx
  | ret f h => cases hx
  | no q => cases hx

theorem rnd_sim (hd : DrawOK C) (hn : Named C.P) {c : CallT} (hc : CallOK C c) {k : Nat} {args : List AV} {h h' : Hp} {v : AV} (hx : rnd C k c args h = .ok v h') {e : Emb} {w : World} {xs : List AV} {xs' : List Value} {m : Nat} {x : Loc}
    (hargs : args = xs ++ [.ptr m 0 0]) (hm : e m 0 = some x) (hge : GR C e) (hv : VRL e xs xs') (hr : HR e h w) :
    ∃ fn tmps assign body, (Instr.yield x.r xs'.toArray).run C.P w = .ok (.round x.r fn tmps assign body) w ∧ RoundIn Fence.wide 0 C.P x.r fn tmps assign body w fun en w' => ∃ v' e', en = .returned v' ∧ VR e' v v' ∧ Ext e h w e' h' w' := by
  unfold rnd at hx
  rw [hargs, lastN_append] at hx
  simp only at hx
  cases hget : h.get m with
  | none => rw [hget] at hx; cases hx
  | some blk =>
  rw [hget] at hx
  cases blk <;> try (cases hx; done)
  rename_i q
  have hx : (match putXs q.ps (xs ++ [.ptr m 0 0]) q.f with
      | some f => (runC (mkC C q.n q.a) k c f.1 h).fin fun f2 h2 => (h2.put m (.sit 0 0 8)).bd fun h3 => (runC (mkC C q.n q.b) k c f2 h3).fin fun _ h4 => (h4.put m (.lp q)).bd fun h5 => .ok (.bool true) h5
      | none => .no "yield: values") = .ok v h' := hx
  cases hpx : putXs q.ps (xs ++ [.ptr m 0 0]) q.f with
  | none => rw [hpx] at hx; cases hx
  | some f =>
  rw [hpx] at hx
  obtain ⟨f2, h2, ha, hx⟩ := fin_ok (show (runC (mkC C q.n q.a) k c f.1 h).fin _ = .ok v h' from hx)
  rw [Hp.put_eq, Bx.bd_mk] at hx
  obtain ⟨f4, h4, hb, hx⟩ := fin_ok hx
  rw [Hp.put_eq, Bx.bd_mk] at hx
  cases hx
  obtain ⟨blk, k1, k2⟩ := hr.at' m 0 x hm
  rw [hget] at k1; cases k1
  generalize hob : w.heap[x.r]? = ob at k2
  have hlt : x.r < w.heap.size := (hr.lt m 0 x hm).1
  cases k2 with
  | cells _ _ _ q => exact q.cells.elim
  | map _ _ _ _ hh => cases hh
  | sit _ _ hh => cases hh
  | iter _ _ _ _ hh => cases hh
  | busy _ hh => cases hh
  | dfr hh => cases hh
  | lp q' fn tmps df hq _ hbl hsl hsz hps hfa hfb =>
    cases hq
    obtain ⟨s1, s2, s3⟩ := putXs_spec q.ps xs q.f f xs' tmps hpx hv hsl (fun t ht => Nat.lt_of_lt_of_le (hps t ht) hsz)
    obtain ⟨rec, hrec⟩ : ∃ rec : Loop, rec = { state := .ready, pending := none, fn := fn, tmps := tmps, params := q.ps.toArray, assign := q.a, body := q.b, defers := df } := ⟨_, rfl⟩
    rw [← hrec] at hob
    have hbr : ∀ e4 : Emb, e.le e4 → BR e4 (.lp q) 0 x (some (.loop rec)) := fun e4 hle => by
      rw [hrec]; exact .lp q fn tmps df rfl rfl hbl (fun t => (hsl t).mono hle) hsz hps hfa hfb
    have rom : h.ro m := ⟨(hr.lt m 0 x hm).2, .inl ⟨_, hget, trivial⟩⟩
    refine ⟨fn, (q.ps.zip xs').foldl (fun tm (p : Nat × Value) => tm.setIfInBounds p.1 p.2) tmps, q.a, q.b, ?_, ?_⟩
    · have := run_yield (P := C.P) (args := xs'.toArray) hob (by rw [hrec]; simp [s1])
      rw [this, hrec]
      simp
    · refine roundIn_of_wpIn trivial ?_
      have fn0 : FN [] q.n e f.1 { tmps := (q.ps.zip xs').foldl (fun tm (p : Nat × Value) => tm.setIfInBounds p.1 p.2) tmps, defers := [] } := ⟨⟨s2, trivial⟩, by rw [s3]; exact hsz, rfl⟩
      refine code_sim (R := fun _ => True) hd hn q.n q.a (.inr hfa) w.heap.size k c hc f.1 h e _ w _ hge fn0 (DF.nil e (Nat.le_refl _)) hr ?_ (some x.r) trivial
      rw [ha]
      intro e2 a2 w2 x1 hf2 hd2
      have hx2 : e2 m 0 = some x := x1.le _ _ _ hm
      have hget2 : h2.get m = some (.lp q) := (x1.ro m rom).trans hget
      have hob2 : w2.heap[x.r]? = some (.loop rec) := (x1.frame x.r hlt fun b g y hy hyr => by
        have := (hr.inj _ _ _ _ _ _ hy hm hyr).1
        subst this; exact rom).trans hob
      refine ⟨_, run_beginRound hob2 (by rw [hrec]), ?_⟩
      have hr3 := x1.hr.turn hx2 hget2 id (BR.busy (e := e2) (b := .sit 0 0 8) (g := 0) (x := x) (.loop { rec with state := .busy }) rfl rfl hbl)
      have hd3 : DF w.heap.size e2 (w2.putObj x.r (.loop { rec with state := .busy })) a2.defers := hd2.other (r := x.r) (fun o hh => by rw [hob2] at hh; cases hh) (fun k hk => World.putObj_heap_other hk) (by rw [World.putObj_size]; exact Nat.le_refl _)
      refine code_sim (R := fun _ => True) hd hn q.n q.b (.inr hfb) w.heap.size k c hc f2 _ e2 a2 _ _ (hge.mono x1.le) hf2 hd3 hr3 ?_ (some x.r) trivial
      rw [hb]
      intro e4 a4 w4 x2 hf4 hd4
      have hob4 : w4.heap[x.r]? = some (.loop { rec with state := .busy }) := by
        rw [x2.frame x.r (by rw [World.putObj_size]; have := x1.size; omega) fun b g y hy hyr => ?_]
        · exact World.putObj_heap_same (by have := x1.size; omega)
        · have := (x1.hr.inj _ _ _ _ _ _ hy hx2 hyr).1
          subst this
          refine ⟨(x1.hr.lt _ _ _ hx2).2, .inl ⟨.sit 0 0 8, ?_, rfl, rfl, .inl rfl⟩⟩
          rw [Hp.get_set _ _ h2.n, if_pos rfl]
      have hend := run_endRound (P := C.P) none hob4
      refine ⟨_, _, hend, .bool true, e4, rfl, .bool true, ?_⟩
      have hfin := Ext.round hr hm hget hob x1 x2 (hbr e4 (x1.le.trans x2.le))
      rw [hrec] at hfin ⊢
      exact hfin

/-- What is known of calls is so. -/
def SpOK (C : Cx) (sp : Nat → List AV → Hp → Option (AV × Hp)) : Prop := ∀ g args h v h', sp g args h = some (v, h') → CallOne C g args h v h'

/-- Calls, so deep. -/
theorem callK_sim (hd : DrawOK C) (hn : Named C.P) {sp : Nat → List AV → Hp → Option (AV × Hp)} (hsp : SpOK C sp) (k : Nat) : ∀ d, CallOK C (callK C sp k d)
  | 0 => fun _ _ _ _ _ hx => (no_ok (w := "depth") hx).elim
  | d + 1 => fun g args h v h' hx => by
    have hx : Option.rec (motive := fun _ => R2) (ifb (Nat.ble yF g) (ifb (Nat.beq g yF) (rnd C k (callK C sp k d) args h) (.no "no such function")) (Option.rec (motive := fun _ => R2) (.no "no such function, or no body") (fun cf => enter cf k (callK C sp k d) args h) (mkF C g))) (fun q => .ok q.1 q.2) (sp g args h) = .ok v h' := hx
    cases hs : sp g args h with
    | some q =>
      rw [hs] at hx
      cases hx
      exact hsp g args h q.1 q.2 hs
    | none =>
      rw [hs] at hx
      have hx : ifb (Nat.ble yF g) (ifb (Nat.beq g yF) (rnd C k (callK C sp k d) args h) (.no "no such function")) (Option.rec (motive := fun _ => R2) (.no "no such function, or no body") (fun cf => enter cf k (callK C sp k d) args h) (mkF C g)) = .ok v h' := hx
      cases hy : Nat.ble yF g with
      | true =>
        rw [hy, ifb_true] at hx
        cases hb : Nat.beq g yF with
        | false => rw [hb] at hx; exact (no_ok hx).elim
        | true =>
          rw [hb, ifb_true] at hx
          exact .inr (.inr ⟨beq_iff.1 hb, fun e w xs xs' m x h1 h2 _ h4 h5 h6 => rnd_sim hd hn (callK_sim hd hn hsp k d) hx h1 h2 h4 h5 h6⟩)
      | false =>
        rw [hy, ifb_false] at hx
        obtain ⟨cf, hcf, hx⟩ := optR hx
        obtain ⟨fn, b, h1, h2, rfl⟩ := mkF_spec hcf
        refine .inl ⟨hy, ⟨fn, b, h1, hn g fn h1 (by rw [h2]; exact fun hh => by cases hh), h2⟩, fun e w args' hg hv hr => ?_⟩
        exact enter_sim hd hn (callK_sim hd hn hsp k d) h1 h2 hx hg hv hr
end Go.Ab

/- Calls of which it is known what they come to: what is done once from the package-level variables alone is so in any memory. -/
namespace Go.Ab
open Go
variable {C : Cx}

mutual
theorem VR.closedT {e e2 : Emb} : ∀ {v : AV} {v' : Value}, VR e v v' → v.closed = true → VR e2 v v'
  | _, _, .int k n, _ => .int k n
  | _, _, .bool b, _ => .bool b
  | _, _, .str s, _ => .str s
  | _, _, .ptr b g o x _ _ _, hc => by cases hc
  | _, _, .slc b g o n c cap x ad _ _ _ _ _ _ _, hc => by cases hc
  | _, _, .nilp, _ => .nilp
  | _, _, .nils, _ => .nils
  | _, _, .nilm, _ => .nilm
  | _, _, .nilf, _ => .nilf
  | _, _, .nili, _ => .nili
  | _, _, .map r x p _, hc => by cases hc
  | _, _, .yld m x p _, hc => by cases hc
  | _, _, .fn g a b a' b' hy p q, hc => by
    have hc : and (closedL a) (closedL b) = true := hc
    rw [Bool.and_eq_true] at hc
    exact .fn g a b a' b' hy (VRL.closedT p hc.1) (VRL.closedT q hc.2)
  | _, _, .ifc t v v' p, hc => .ifc t v v' (VR.closedT p hc)
  | _, _, .agg l l' p q, hc => .agg l l' (VRL.closedT p hc) q
  | _, _, .tup l l' p, hc => .tup l l' (VRL.closedT p hc)
  | _, _, .any v', _ => .any v'
  | _, _, .modv t n a b c d f, _ => .modv t n a b c d f
  | _, _, .remv t n a b, _ => .remv t n a b
  | _, _, .opq v' a, _ => .opq v' a
theorem VRL.closedT {e e2 : Emb} : ∀ {l : List AV} {l' : List Value}, VRL e l l' → closedL l = true → VRL e2 l l'
  | _, _, .nil, _ => .nil
  | _, _, .cons v v' l l' p q, hc => by
    have hc : and v.closed (closedL l) = true := hc
    rw [Bool.and_eq_true] at hc
    exact .cons v v' l l' (VR.closedT p hc.1) (VRL.closedT q hc.2)
end
theorem closedL_mem : ∀ {l : List AV} {v : AV}, closedL l = true → v ∈ l → v.closed = true
  | x :: l, v, hc, hm => by
    have hc : and x.closed (closedL l) = true := hc
    rw [Bool.and_eq_true] at hc
    rcases List.mem_cons.1 hm with rfl | hm
    · exact hc.1
    · exact closedL_mem hc.2 hm

theorem BR.closedT {e e2 : Emb} {l : List AV} {z g : Nat} {x : Loc} {ob : Option Obj} (hc : closedL l = true) (h : BR e (.flat l z) g x ob) : BR e2 (.flat l z) g x ob := by
  cases h with
  | map es es' clock l a _ _ _ _ _ => cases a
  | sit s pos a _ => cases a
  | iter m since seen stepped a _ => cases a
  | lp q0 fn0 tm0 df0 a => cases a
  | busy o0 a => cases a
  | dfr a => cases a
  | cells c t fr q =>
    refine .cells c t fr ⟨q.cells, q.lo, q.sz, q.gen, q.known, fun i u hi hu => ?_, q.fz2, q.fz0⟩
    obtain ⟨h1, v', h2, h3⟩ := q.at' i u hi hu
    have hm : u ∈ l := by
      have hu : ifb (Nat.beq g 0) (nthA l i) none = some u := hu
      cases hg : Nat.beq g 0 with
      | false => rw [hg] at hu; cases hu
      | true =>
        rw [hg, ifb_true, nthA_eq] at hu
        exact List.mem_of_getElem? hu
    exact ⟨h1, v', h2, h3.closedT (closedL_mem hc hm)⟩

/-! ### Other names -/
theorem isCell_ren (u : AV) (ρ ρ' : Nat → Nat × Nat) : (u.ren ρ).isCell = (u.ren ρ').isCell := by
  cases u <;> try rfl
  rename_i g a b
  simp only [AV.ren]
  cases Nat.ble yF g <;> rfl
theorem renL_get (ρ : Nat → Nat × Nat) : ∀ (l : List AV) (i : Nat), (renL ρ l)[i]? = (l[i]?).map fun u => u.ren ρ
  | [], i => by simp [renL]
  | v :: l, 0 => by simp [renL]
  | v :: l, i + 1 => by simp [renL, renL_get ρ l i]
theorem renL_mem {ρ : Nat → Nat × Nat} {l : List AV} {v : AV} (h : v ∈ renL ρ l) : ∃ u ∈ l, v = u.ren ρ := by
  obtain ⟨i, hi⟩ := List.mem_iff_getElem?.1 h
  rw [renL_get] at hi
  cases hl : l[i]? with
  | none => rw [hl] at hi; cases hi
  | some u => rw [hl] at hi; cases hi; exact ⟨u, List.mem_of_getElem? hl, rfl⟩
theorem renL_length (ρ : Nat → Nat × Nat) : ∀ l : List AV, (renL ρ l).length = l.length
  | [] => rfl
  | v :: l => by simp [renL, renL_length ρ l]

section
variable {e1 e' : Emb} {ρ1 ρ2 : Nat → Nat × Nat}
mutual
theorem VR.ren (hk : ∀ i x, e1 (ρ1 i).1 (ρ1 i).2 = some x → e' (ρ2 i).1 (ρ2 i).2 = some x) : ∀ (u : AV) {u' : Value}, VR e1 (u.ren ρ1) u' → VR e' (u.ren ρ2) u'
  | .int k n, u', h => VR.closedT (v := .int k n) h rfl
  | .bool b, u', h => VR.closedT (v := .bool b) h rfl
  | .str n b, u', h => VR.closedT (v := .str n b) h rfl
  | .nil t, u', h => VR.closedT (v := .nil t) h rfl
  | .map r, u', _ => .any u'
  | .ptr b g o, u', h => by
    have h : VR e1 (.ptr (ρ1 b).1 (ρ1 b).2 o) u' := h
    cases h with
    | ptr _ _ _ x p1 p2 p3 => exact .ptr _ _ o x (hk b x p1) p2 p3
  | .sl b g o n c, u', h => by
    have h : VR e1 (.sl (ρ1 b).1 (ρ1 b).2 o n c) u' := h
    cases h with
    | slc _ _ _ _ _ cap x ad p1 p2 p3 p4 p5 p6 p7 => exact .slc _ _ o n c cap x ad (hk b x p1) p2 p3 p4 p5 p6 p7
  | .fn g a b, u', h => by
    cases hy : Nat.ble yF g with
    | true =>
      rw [show (AV.fn g a b).ren ρ2 = anyA by simp only [AV.ren, hy]]
      exact .any u'
    | false =>
    rw [show (AV.fn g a b).ren ρ2 = .fn g (renL ρ2 a) (renL ρ2 b) by simp only [AV.ren, hy]]
    rw [show (AV.fn g a b).ren ρ1 = .fn g (renL ρ1 a) (renL ρ1 b) by simp only [AV.ren, hy]] at h
    rcases (VR.onFn h (no := fun _ => ()) (k := fun _ _ _ => ())) with ⟨g2, a2, b2, hv, hf, _⟩ | ⟨_, _⟩
    · cases hv
      cases hf with
      | fn a' b' hg p q => exact .fn g _ _ a' b' hy (VRL.ren hk a p) (VRL.ren hk b q)
      | yld m x hg _ _ _ _ => subst hg; exact absurd hy (by decide)
    · generalize hv : AV.fn g (renL ρ1 a) (renL ρ1 b) = vv at h
      generalize ha : renL ρ1 a = ra at hv
      generalize hb : renL ρ1 b = rb at hv
      cases h <;> first | (cases hv; done) | skip
      case fn g' a2 b2 a' b' hg p q =>
        cases hv
        subst ha hb
        exact .fn g _ _ a' b' hy (VRL.ren hk a p) (VRL.ren hk b q)
      case yld m x p pb =>
        cases hv
        exact absurd hy (by decide)
  | .ifc t v, u', h => by
    have h : VR e1 (.ifc t (v.ren ρ1)) u' := h
    cases h with
    | ifc _ _ v' p => exact .ifc t _ v' (VR.ren hk v p)
  | .agg l, u', h => by
    have h : VR e1 (.agg (renL ρ1 l)) u' := h
    cases h with
    | agg _ l' p q =>
      refine .agg _ l' (VRL.ren hk l p) fun v hv => ?_
      obtain ⟨u, hu, rfl⟩ := renL_mem hv
      rw [isCell_ren u ρ2 ρ1]
      obtain ⟨i, hi⟩ := List.mem_iff_getElem?.1 hu
      exact q _ (List.mem_of_getElem? (i := i) (by rw [renL_get, hi]; rfl))
  | .tup l, u', h => by
    have h : VR e1 (.tup (renL ρ1 l)) u' := h
    generalize hv : AV.tup (renL ρ1 l) = v at h
    cases h <;> first | (cases hv; done) | skip
    case tup l2 l' p =>
      cases hv
      exact .tup _ l' (VRL.ren hk l p)
theorem VRL.ren (hk : ∀ i x, e1 (ρ1 i).1 (ρ1 i).2 = some x → e' (ρ2 i).1 (ρ2 i).2 = some x) : ∀ (l : List AV) {l' : List Value}, VRL e1 (renL ρ1 l) l' → VRL e' (renL ρ2 l) l'
  | [], l', h => by
    have h : VRL e1 [] l' := h
    cases h; exact .nil
  | v :: l, l', h => by
    have h : VRL e1 (v.ren ρ1 :: renL ρ1 l) l' := h
    cases h with
    | cons _ v' _ l2 p q => exact .cons _ v' _ l2 (VR.ren hk v p) (VRL.ren hk l q)
end
end

theorem addAll_spec (ρ : Nat → Nat × Nat) : ∀ (bs : List (List AV × Nat)) (h : Hp), (addAll ρ bs h).out.n = h.n + bs.length ∧ (addAll ρ bs h).out.lk = h.lk ∧ (∀ b, b < h.n → (addAll ρ bs h).out.get b = h.get b) ∧ ∀ i q, bs[i]? = some q → (addAll ρ bs h).out.get (h.n + i) = some (.flat (renL ρ q.1) q.2)
  | [], h => ⟨rfl, rfl, fun _ _ => rfl, fun i q hq => by simp at hq⟩
  | q :: bs, h => by
    have h1 : (addAll ρ (q :: bs) h).out = (addAll ρ bs ⟨setT (.flat (renL ρ q.1) q.2) (path h.n) h.t, h.n + 1, h.lk⟩).out := by
      show ((forceL (renL ρ q.1)).bd fun c => (h.add (.flat c q.2)).bd fun h => addAll ρ bs h).out = _
      rw [forceL_eq, Bx.bd_mk, Hp.add_eq, Bx.bd_mk]
    obtain ⟨k1, k2, k3, k4⟩ := addAll_spec ρ bs ⟨setT (.flat (renL ρ q.1) q.2) (path h.n) h.t, h.n + 1, h.lk⟩
    rw [h1]
    refine ⟨by rw [k1]; simp; omega, k2, fun b hb => ?_, fun i q' hq => ?_⟩
    · rw [k3 b (Nat.lt_succ_of_lt hb), Hp.get_set _ _ h.n, if_neg (Nat.ne_of_lt hb)]
    · cases i with
      | zero =>
        simp at hq; subst hq
        show (addAll ρ bs ⟨setT (.flat (renL ρ q.1) q.2) (path h.n) h.t, h.n + 1, h.lk⟩).out.get h.n = _
        rw [k3 h.n (Nat.lt_succ_self _), Hp.get_set _ _ h.n, if_pos rfl]
      | succ i =>
        have := k4 i q' (by simpa using hq)
        rw [show h.n + (i + 1) = h.n + 1 + i by omega]
        exact this

theorem globOK_get {gl : List (Nat × List AV)} {h : Hp} (hg : globOK gl h = true) {b : Nat} {l : List AV} (hm : (b, l) ∈ gl) : h.get b = some (.flat l 3) := by
  have h1 := List.all_eq_true.1 hg _ hm
  simp only at h1
  split at h1
  · rename_i l2 z hget
    rw [Bool.and_eq_true, beq_iff] at h1
    obtain ⟨rfl, h3⟩ := h1
    rw [hget, avEqL_eq h3]
  · cases h1
theorem globHp_n (gl : List (Nat × List AV)) (n : Nat) : (globHp gl n).n = n := by
  have key : ∀ (gl : List (Nat × List AV)) (h : Hp), (gl.foldl (fun h q => (h.put q.1 (.flat q.2 3)).bd fun h => h) h).n = h.n := by
    intro gl
    induction gl with
    | nil => intro h; rfl
    | cons q gl ih =>
      intro h
      rw [List.foldl_cons, ih, Hp.put_eq]; rfl
  exact key gl _

theorem cellsOK_spec {ρ : Nat → Nat × Nat} {b : Blk} {g : Nat} : ∀ {l : List AV} {k : Nat}, cellsOK ρ b g k l = true → ∀ i u, l[i]? = some u → b.read1 g (k + i) = some (u.ren ρ)
  | x :: l, k, h, i, u, hu => by
    have h : and (match b.read1 g k with
      | some v => avEq v (x.ren ρ)
      | none => false) (cellsOK ρ b g (k + 1) l) = true := h
    rw [Bool.and_eq_true] at h
    cases i with
    | zero =>
      simp at hu; subst hu
      have h1 := h.1
      split at h1
      · rename_i v hv
        rw [Nat.add_zero, hv, avEq_eq h1]
      · cases h1
    | succ i =>
      have := cellsOK_spec h.2 i u (by simpa using hu)
      rw [show k + (i + 1) = k + 1 + i by omega]; exact this
theorem blkOK_spec {ρ : Nat → Nat × Nat} {h : Hp} {p : Nat × Nat} {q : List AV × Nat} (hb : blkOK ρ h p q = true) : ∃ b, h.get p.1 = some b ∧ b.isCells ∧ b.fz = q.2 ∧ q.1.length ≤ b.known p.2 ∧ ∀ i u, q.1[i]? = some u → b.read1 p.2 i = some (u.ren ρ) := by
  unfold blkOK at hb
  split at hb
  · rename_i b hget
    simp only [Bool.and_eq_true] at hb
    obtain ⟨h1, h2, h3, h4⟩ := hb
    refine ⟨b, hget, ?_, beq_iff.1 h2, ?_, fun i u hu => ?_⟩
    · cases b <;> first | trivial | cases h1
    · have := Nat.le_of_ble_eq_true h3
      simpa using this
    · have := cellsOK_spec h4 i u hu
      rwa [Nat.zero_add] at this
  · cases hb
theorem blksOK_spec {ρ : Nat → Nat × Nat} {h : Hp} {n : Nat} : ∀ {ps : List (Nat × Nat)} {qs : List (List AV × Nat)}, blksOK ρ h n ps qs = true → ps.length = qs.length ∧ (∀ p ∈ ps, n ≤ p.1) ∧ ps.Pairwise (fun a b => a.1 ≠ b.1) ∧ ∀ (i : Nat) p q, ps[i]? = some p → qs[i]? = some q → blkOK ρ h p q = true
  | [], [], _ => ⟨rfl, fun p hp => (by cases hp), .nil, fun i p q hp => by simp at hp⟩
  | [], _ :: _, hb => by cases hb
  | _ :: _, [], hb => by cases hb
  | p :: ps, q :: qs, hb => by
    have hb : and (and (Nat.ble n p.1) (not (ps.any fun r => Nat.beq p.1 r.1))) (and (blkOK ρ h p q) (blksOK ρ h n ps qs)) = true := hb
    simp only [Bool.and_eq_true, Bool.not_eq_true'] at hb
    obtain ⟨⟨h1, h2⟩, h3, h4⟩ := hb
    obtain ⟨k1, k2, k3, k4⟩ := blksOK_spec h4
    refine ⟨by simp [k1], fun p' hp' => ?_, List.pairwise_cons.2 ⟨fun r hr hh => ?_, k3⟩, fun i p' q' hp' hq' => ?_⟩
    · rcases List.mem_cons.1 hp' with rfl | hp'
      · exact Nat.le_of_ble_eq_true h1
      · exact k2 p' hp'
    · rw [List.any_eq_false] at h2
      exact h2 r hr (beq_iff.2 hh)
    · cases i with
      | zero => simp at hp' hq'; subst hp'; subst hq'; exact h3
      | succ i => exact k4 i p' q' (by simpa using hp') (by simpa using hq')

/-- A block's cells, under other names. -/
theorem BR.ofBlk {e1 e' : Emb} {ρ1 ρ2 : Nat → Nat × Nat} (hk : ∀ i x, e1 (ρ1 i).1 (ρ1 i).2 = some x → e' (ρ2 i).1 (ρ2 i).2 = some x) {h1 : Hp} {p : Nat × Nat} {bq : List AV × Nat} (hb : blkOK ρ1 h1 p bq = true) {blk : Blk} (hget : h1.get p.1 = some blk) {x : Loc} {ob : Option Obj} (m2 : BR e1 blk p.2 x ob) :
    BR e' (.flat (renL ρ2 bq.1) bq.2) 0 x ob := by
  obtain ⟨blk2, j1, j2, j3, j4, j5⟩ := blkOK_spec hb
  rw [hget] at j1; cases j1
  cases m2 with
  | map es es' clock l a _ _ _ _ _ => subst a; exact j2.elim
  | sit s pos a _ => subst a; exact j2.elim
  | iter _ _ _ _ a _ => subst a; exact j2.elim
  | lp q0 fn0 tm0 df0 a => subst a; exact j2.elim
  | busy o0 a => subst a; exact j2.elim
  | dfr a => subst a; exact j2.elim
  | cells c t fr bc =>
    refine .cells c t fr ⟨trivial, bc.lo, bc.sz, Nat.zero_le _, ?_, fun k u hk' hu => ?_, ?_, ?_⟩
    · have : (Blk.flat (renL ρ2 bq.1) bq.2).known 0 = bq.1.length := by
        show lenA (renL ρ2 bq.1) = _
        simp [renL_length]
      rw [this]
      exact Nat.le_trans j4 bc.known
    · have hu : nthA (renL ρ2 bq.1) k = some u := hu
      rw [nthA_eq, renL_get] at hu
      cases hbk : bq.1[k]? with
      | none => rw [hbk] at hu; cases hu
      | some u0 =>
        rw [hbk] at hu
        cases hu
        obtain ⟨n1, y', n2, n3⟩ := bc.at' k _ hk' (j5 k u0 hbk)
        exact ⟨by rw [isCell_ren u0 _ ρ1]; exact n1, y', n2, VR.ren hk u0 n3⟩
    · rw [← j3] at *; exact bc.fz2
    · exact fun hz => bc.fz0 (by rw [j3]; exact hz)

theorem renU_lt {mu : List (Nat × Nat)} {n i : Nat} {p : Nat × Nat} (h : mu[i]? = some p) : renU mu n i = p := by
  unfold renU; rw [nthA_eq, h]; rfl
theorem renU_ge {mu : List (Nat × Nat)} {n i : Nat} (h : mu[i]? = none) : renU mu n i = (n + (i - mu.length), 0) := by
  unfold renU; rw [nthA_eq, h]
  show (n + (i - lenA mu), 0) = _
  simp
theorem renK_lt {mu keep : List (Nat × Nat)} {far i : Nat} {p : Nat × Nat} (h : mu[i]? = some p) : renK mu keep far i = p := by
  unfold renK; rw [nthA_eq, h]; rfl
theorem renK_ge {mu keep : List (Nat × Nat)} {far i : Nat} (h : mu[i]? = none) : renK mu keep far i = (keep[i - mu.length]?).getD (far, 0) := by
  unfold renK; rw [nthA_eq, h, nthA_eq]
  show (keep[i - lenA mu]?).getD (far, 0) = _
  simp
theorem argMu_get {n k i : Nat} : (argMu n k)[i]? = if i < k then some (n + i, 0) else none := by
  unfold argMu
  rw [List.getElem?_map]
  by_cases h : i < k
  · rw [List.getElem?_range h, if_pos h]; rfl
  · rw [List.getElem?_eq_none (by simpa using h), if_neg h]; rfl
theorem argMu_length (n k : Nat) : (argMu n k).length = k := by simp [argMu]
end Go.Ab

/- Calls of which it is known what they come to (second part). -/
namespace Go.Ab
open Go
variable {C : Cx}

/-- What is laid: the blocks of the package-level variables that are known. -/
structure Laid (C : Cx) (gl : List (Nat × List AV)) (n : Nat) : Prop where
  gs : C.gs = gl.map (·.1)
  ok : globOK gl (globHp gl n) = true
  lt : gl.all (fun q => and (Nat.ble (q.1 + 1) n) (closedL q.2)) = true

/-- The names of the package-level variables, and of the arguments' blocks. -/
def baseE (gl : List (Nat × List AV)) (n : Nat) (mu : List (Nat × Nat)) (e : Emb) : Emb := fun b g => if g = 0 then (if b ∈ gl.map (·.1) then e b 0 else if n ≤ b then (match mu[b - n]? with
  | some p => e p.1 p.2
  | none => none) else none) else none
theorem baseE_spec {gl : List (Nat × List AV)} {n : Nat} {mu : List (Nat × Nat)} {e : Emb} {b g : Nat} {x : Loc} (h : baseE gl n mu e b g = some x) : g = 0 ∧ ((b ∈ gl.map (·.1) ∧ e b 0 = some x) ∨ ∃ i p, b = n + i ∧ mu[i]? = some p ∧ e p.1 p.2 = some x) := by
  unfold baseE at h
  by_cases hg : g = 0
  · rw [if_pos hg] at h
    by_cases hb : b ∈ gl.map (·.1)
    · rw [if_pos hb] at h; exact ⟨hg, .inl ⟨hb, h⟩⟩
    · rw [if_neg hb] at h
      by_cases hn : n ≤ b
      · rw [if_pos hn] at h
        cases hm : mu[b - n]? with
        | none => rw [hm] at h; cases h
        | some p => rw [hm] at h; exact ⟨hg, .inr ⟨b - n, p, by omega, hm, h⟩⟩
      · rw [if_neg hn] at h; cases h
  · rw [if_neg hg] at h; cases h

section
variable {gl : List (Nat × List AV)} {n : Nat} {mu : List (Nat × Nat)} {e : Emb} {h : Hp} {w : World} {q : Kn}

theorem Laid.lt' (L : Laid C gl n) {b : Nat} (hb : b ∈ gl.map (·.1)) : b < n := by
  obtain ⟨p, hp, rfl⟩ := List.mem_map.1 hb
  have := List.all_eq_true.1 L.lt _ hp
  rw [Bool.and_eq_true] at this
  exact Nat.le_of_ble_eq_true this.1
theorem baseE_arg (L : Laid C gl n) {i : Nat} {p : Nat × Nat} (hp : mu[i]? = some p) : baseE gl n mu e (n + i) 0 = e p.1 p.2 := by
  unfold baseE
  rw [if_pos rfl, if_neg (fun hh => by have := L.lt' hh; omega), if_pos (by omega), Nat.add_sub_cancel_left, hp]

theorem argHp_spec (gl : List (Nat × List AV)) (n : Nat) (bas : List (List AV × Nat)) : (argHp gl n bas).n = n + bas.length ∧ (argHp gl n bas).lk = ⟨n + bas.length, []⟩ ∧ (∀ b, b < n → (argHp gl n bas).get b = (globHp gl n).get b) ∧
    ∀ i q, bas[i]? = some q → (argHp gl n bas).get (n + i) = some (.flat (renL (renU (argMu n bas.length) 0) q.1) q.2) := by
  have h1 : argHp gl n bas = ⟨(addAll (renU (argMu n bas.length) 0) bas (globHp gl n)).out.t, (addAll (renU (argMu n bas.length) 0) bas (globHp gl n)).out.n, ⟨(addAll (renU (argMu n bas.length) 0) bas (globHp gl n)).out.n, []⟩⟩ := by
    unfold argHp
    rw [lenA_eq, Bx.eta (addAll (renU (argMu n bas.length) 0) bas (globHp gl n)), Bx.bd_mk]
    rfl
  obtain ⟨k1, k2, k3, k4⟩ := addAll_spec (renU (argMu n bas.length) 0) bas (globHp gl n)
  rw [globHp_n] at k1 k3 k4
  rw [h1]
  exact ⟨k1, by rw [k1], k3, k4⟩

theorem base_sim (L : Laid C gl n) (hg : GR C e) (hr : HR e h w) (hgo : globOK gl h = true) (hb : blksOK (renU mu h.n) h n mu q.bas = true) :
    GR C (baseE gl n mu e) ∧ HR (baseE gl n mu e) (argHp gl n q.bas) w ∧ ∀ i x, e (renU mu h.n i).1 (renU mu h.n i).2 = some x → baseE gl n mu e (renU (argMu n q.bas.length) 0 i).1 (renU (argMu n q.bas.length) 0 i).2 = some x := by
  obtain ⟨hlen, hge, hpw, hblk⟩ := blksOK_spec hb
  obtain ⟨a1, a2, a3, a4⟩ := argHp_spec gl n q.bas
  have hmem : ∀ b, b ∈ gl.map (·.1) → ∃ l, (b, l) ∈ gl := fun b hb => by
    obtain ⟨p, hp, rfl⟩ := List.mem_map.1 hb
    exact ⟨p.2, hp⟩
  have hk : ∀ i x, e (renU mu h.n i).1 (renU mu h.n i).2 = some x → baseE gl n mu e (renU (argMu n q.bas.length) 0 i).1 (renU (argMu n q.bas.length) 0 i).2 = some x := fun i x hx => by
    cases hi : mu[i]? with
    | none =>
      rw [renU_ge hi] at hx
      have := (hr.lt _ _ _ hx).2
      exact absurd this (by show ¬ h.n + (i - mu.length) < h.n; omega)
    | some p =>
      rw [renU_lt hi] at hx
      have hil : i < q.bas.length := by have := (List.getElem?_eq_some_iff.1 hi).1; omega
      rw [renU_lt (show (argMu n q.bas.length)[i]? = some (n + i, 0) by rw [argMu_get, if_pos hil])]
      show baseE gl n mu e (n + i) 0 = some x
      rw [baseE_arg L hi]; exact hx
  refine ⟨fun g hgm => ?_, ⟨fun b g x b' g' x' h1 h2 hrr => ?_, fun b g x h1 => ?_, fun b g x h1 => ?_⟩, hk⟩
  · obtain ⟨x, h1, h2⟩ := hg g hgm
    refine ⟨x, ?_, h2⟩
    rw [L.gs] at hgm
    obtain ⟨j, hj, hj2⟩ := List.any_eq_true.1 hgm
    have : g = j := beq_iff.1 hj2
    subst this
    unfold baseE
    rw [if_pos rfl, if_pos hj]; exact h1
  · obtain ⟨rfl, k1⟩ := baseE_spec h1
    obtain ⟨rfl, k2⟩ := baseE_spec h2
    rcases k1 with ⟨k3, k4⟩ | ⟨i, p, rfl, k3, k4⟩ <;> rcases k2 with ⟨j3, j4⟩ | ⟨j, p', rfl, j3, j4⟩
    · exact hr.inj _ _ _ _ _ _ k4 j4 hrr
    · have := (hr.inj _ _ _ _ _ _ k4 j4 hrr).1
      have h3 := L.lt' k3
      have h4 := hge p' (List.mem_of_getElem? j3)
      omega
    · have := (hr.inj _ _ _ _ _ _ k4 j4 hrr).1
      have h3 := L.lt' j3
      have h4 := hge p (List.mem_of_getElem? k3)
      omega
    · have hpp := hr.inj _ _ _ _ _ _ k4 j4 hrr
      have hij : i = j := by
        refine Classical.byContradiction fun hne => ?_
        obtain ⟨hi, hi2⟩ := List.getElem?_eq_some_iff.1 k3
        obtain ⟨hj, hj2⟩ := List.getElem?_eq_some_iff.1 j3
        rcases Nat.lt_or_gt_of_ne hne with hl | hl
        · have := List.pairwise_iff_getElem.1 hpw i j hi hj hl
          rw [hi2, hj2] at this
          exact this hpp.1
        · have := List.pairwise_iff_getElem.1 hpw j i hj hi hl
          rw [hi2, hj2] at this
          exact this hpp.1.symm
      exact ⟨by rw [hij], hpp.2⟩
  · rw [a1]
    obtain ⟨rfl, k1⟩ := baseE_spec h1
    rcases k1 with ⟨k3, k4⟩ | ⟨i, p, rfl, k3, k4⟩
    · have := L.lt' k3
      exact ⟨(hr.lt _ _ _ k4).1, by omega⟩
    · have := (List.getElem?_eq_some_iff.1 k3).1
      exact ⟨(hr.lt _ _ _ k4).1, by omega⟩
  · obtain ⟨rfl, k1⟩ := baseE_spec h1
    rcases k1 with ⟨k3, k4⟩ | ⟨i, p, rfl, k3, k4⟩
    · obtain ⟨l, hl⟩ := hmem b k3
      have hcl := List.all_eq_true.1 L.lt _ hl
      rw [Bool.and_eq_true] at hcl
      obtain ⟨blk, h2, h3⟩ := hr.at' b 0 x k4
      rw [globOK_get hgo hl] at h2; cases h2
      exact ⟨_, by rw [a3 b (L.lt' k3)]; exact globOK_get L.ok hl, h3.closedT hcl.2⟩
    · have hi := (List.getElem?_eq_some_iff.1 k3).1
      have hq : q.bas[i]? = some (q.bas[i]'(by omega)) := List.getElem?_eq_getElem _
      generalize q.bas[i]'(by omega) = bq at hq
      obtain ⟨blk, h2, h3⟩ := hr.at' p.1 p.2 x k4
      exact ⟨_, a4 i bq hq, BR.ofBlk hk (hblk i p bq k3 hq) h2 h3⟩

/-- What was done from the package-level variables and the arguments alone is so here: other names. -/
theorem kn_ext (L : Laid C gl n) (hr : HR e h w) (hbm : blksOK (renU mu h.n) h n mu q.bas = true) {keep : List (Nat × Nat)} {v1 : AV} {h1 : Hp} (hv : v1 = q.v.ren (renK (argMu n q.bas.length) keep h1.n)) (hb : blksOK (renK (argMu n q.bas.length) keep h1.n) h1 (n + q.bas.length) keep q.bs = true)
    {v' : Value} {e1 : Emb} {w' : World} (hvr : VR e1 v1 v') (hext : Ext (baseE gl n mu e) (argHp gl n q.bas) w e1 h1 w') :
    ∃ e', VR e' (q.v.ren (renU mu h.n)) v' ∧ Ext e h w e' (addAll (renU mu h.n) q.bs h).out w' := by
  obtain ⟨hmlen, hmge, _, _⟩ := blksOK_spec hbm
  obtain ⟨hlen, hge, hpw, hblk⟩ := blksOK_spec hb
  obtain ⟨a1, a2, a3, a4⟩ := addAll_spec (renU mu h.n) q.bs h
  obtain ⟨b1, b2, b3, b4⟩ := argHp_spec gl n q.bas
  generalize (addAll (renU mu h.n) q.bs h).out = h' at a1 a2 a3 a4
  let e' : Emb := fun b g => if b < h.n then e b g else match keep[b - h.n]? with
    | some p => if g = 0 then e1 p.1 p.2 else none
    | none => none
  have hold : ∀ b g, b < h.n → e' b g = e b g := fun b g hb => by show (if b < h.n then e b g else _) = _; rw [if_pos hb]
  have hnew : ∀ (i : Nat) (p : Nat × Nat), keep[i]? = some p → e' (h.n + i) 0 = e1 p.1 p.2 := fun i p hp => by
    show (if h.n + i < h.n then e (h.n + i) 0 else match keep[h.n + i - h.n]? with
      | some p => if (0 : Nat) = 0 then e1 p.1 p.2 else none
      | none => none) = _
    rw [if_neg (by omega), Nat.add_sub_cancel_left, hp]
    simp
  have hle : e.le e' := fun b g x hx => by rw [hold b g (hr.lt b g x hx).2]; exact hx
  have hcase : ∀ b g x, e' b g = some x → (b < h.n ∧ e b g = some x) ∨ ∃ i p, b = h.n + i ∧ g = 0 ∧ keep[i]? = some p ∧ e1 p.1 p.2 = some x := fun b g x hx => by
    by_cases hbn : b < h.n
    · rw [hold b g hbn] at hx; exact .inl ⟨hbn, hx⟩
    · right
      have hx : (if b < h.n then e b g else match keep[b - h.n]? with
        | some p => if g = 0 then e1 p.1 p.2 else none
        | none => none) = some x := hx
      rw [if_neg hbn] at hx
      cases hk : keep[b - h.n]? with
      | none => rw [hk] at hx; cases hx
      | some p =>
        rw [hk] at hx
        simp only at hx
        by_cases hg : g = 0
        · rw [if_pos hg] at hx
          exact ⟨b - h.n, p, by omega, hg, hk, hx⟩
        · rw [if_neg hg] at hx; cases hx
  have hk : ∀ i x, e1 (renK (argMu n q.bas.length) keep h1.n i).1 (renK (argMu n q.bas.length) keep h1.n i).2 = some x → e' (renU mu h.n i).1 (renU mu h.n i).2 = some x := fun i x hx => by
    cases hi : mu[i]? with
    | some p =>
      have hil : i < q.bas.length := by have := (List.getElem?_eq_some_iff.1 hi).1; omega
      rw [renK_lt (show (argMu n q.bas.length)[i]? = some (n + i, 0) by rw [argMu_get, if_pos hil])] at hx
      have hx : e1 (n + i) 0 = some x := hx
      rw [renU_lt hi]
      rcases hext.names _ _ _ hx with ⟨g0, x0, h0⟩ | h0
      · obtain ⟨rfl, _⟩ := baseE_spec h0
        have h2 := hext.le _ _ _ h0
        rw [hx] at h2; cases h2
        rw [baseE_arg L hi] at h0
        exact hle _ _ _ h0
      · rw [b1] at h0; omega
    | none =>
      have hil : ¬ i < q.bas.length := by
        intro hh
        rw [List.getElem?_eq_none_iff] at hi
        omega
      rw [renK_ge (show (argMu n q.bas.length)[i]? = none by rw [argMu_get, if_neg hil]), argMu_length] at hx
      rw [renU_ge hi]
      cases hki : keep[i - q.bas.length]? with
      | none =>
        rw [hki] at hx
        have := (hext.hr.lt _ _ _ hx).2
        exact absurd this (Nat.lt_irrefl _)
      | some p =>
        rw [hki] at hx
        show e' (h.n + (i - mu.length)) 0 = some x
        rw [hmlen, hnew _ p hki]; exact hx
  have hro : ∀ r, r < w.heap.size → w'.heap[r]? = w.heap[r]? := fun r hlt => hext.frame r hlt fun b g x hx _ => by
    obtain ⟨rfl, k0⟩ := baseE_spec hx
    rcases k0 with ⟨k3, _⟩ | ⟨i, p, rfl, k3, _⟩
    · obtain ⟨y, hy, rfl⟩ := List.mem_map.1 k3
      have := L.lt' k3
      exact ⟨by rw [b1]; omega, .inl ⟨.flat y.2 3, by rw [b3 _ (L.lt' k3)]; exact globOK_get L.ok hy, show (3 : Nat) = 3 from rfl⟩⟩
    · have := (List.getElem?_eq_some_iff.1 k3).1
      refine ⟨by rw [b1]; omega, .inr ?_⟩
      unfold Hp.okw
      rw [b2]
      have h1 : Nat.ble (n + q.bas.length) (n + i) = false := by
        cases hh : Nat.ble (n + q.bas.length) (n + i) with
        | false => rfl
        | true => have := Nat.le_of_ble_eq_true hh; omega
      show ifb (Nat.ble (n + q.bas.length) (n + i)) true (memN (n + i) []) = false
      rw [h1]; rfl
  have hfresh : ∀ (i : Nat) (p : Nat × Nat) (x : Loc), keep[i]? = some p → e1 p.1 p.2 = some x → w.heap.size ≤ x.r := fun i p x hp hx => by
    rcases hext.blocks _ _ _ hx with ⟨g0, x0, h0, _⟩ | h0
    · obtain ⟨_, k0⟩ := baseE_spec h0
      have h3 := hge p (List.mem_of_getElem? hp)
      rcases k0 with ⟨k3, _⟩ | ⟨j, p', k3, k4, _⟩
      · have := L.lt' k3; omega
      · have := (List.getElem?_eq_some_iff.1 k4).1; omega
    · exact h0
  refine ⟨e', by subst hv; exact VR.ren hk q.v hvr, hle, ⟨?_, ?_, ?_⟩, ?_, ?_, fun r hlt _ => hro r hlt, fun b hb _ => a3 b hb, fun b hb => a3 b hb.1, by omega, hext.size, hext.os, hext.output, a2⟩
  · intro b g x b' g' x' hx hx' hrr
    rcases hcase _ _ _ hx with ⟨k1, k2⟩ | ⟨i, p, k1, k2, k3, k4⟩ <;> rcases hcase _ _ _ hx' with ⟨j1, j2⟩ | ⟨j, p', j1, j2, j3, j4⟩
    · exact hr.inj _ _ _ _ _ _ k2 j2 hrr
    · have := hfresh j p' x' j3 j4
      have := (hr.lt _ _ _ k2).1
      omega
    · have := hfresh i p x k3 k4
      have := (hr.lt _ _ _ j2).1
      omega
    · have hpp := hext.hr.inj _ _ _ _ _ _ k4 j4 hrr
      have hij : i = j := by
        refine Classical.byContradiction fun hne => ?_
        obtain ⟨hi, hi2⟩ := List.getElem?_eq_some_iff.1 k3
        obtain ⟨hj, hj2⟩ := List.getElem?_eq_some_iff.1 j3
        rcases Nat.lt_or_gt_of_ne hne with hl | hl
        · have := List.pairwise_iff_getElem.1 hpw i j hi hj hl
          rw [hi2, hj2] at this
          exact this hpp.1
        · have := List.pairwise_iff_getElem.1 hpw j i hj hi hl
          rw [hi2, hj2] at this
          exact this hpp.1.symm
      exact ⟨by rw [k1, j1, hij], hpp.2⟩
  · intro b g x hx
    rcases hcase _ _ _ hx with ⟨k1, k2⟩ | ⟨i, p, k1, k2, k3, k4⟩
    · have := hr.lt _ _ _ k2
      exact ⟨Nat.lt_of_lt_of_le this.1 hext.size, by omega⟩
    · have := (List.getElem?_eq_some_iff.1 k3).1
      exact ⟨(hext.hr.lt _ _ _ k4).1, by omega⟩
  · intro b g x hx
    rcases hcase _ _ _ hx with ⟨k1, k2⟩ | ⟨i, p, rfl, rfl, k3, k4⟩
    · obtain ⟨blk, j1, j2⟩ := hr.at' _ _ _ k2
      refine ⟨blk, by rw [a3 b k1]; exact j1, ?_⟩
      rw [hro _ (hr.lt _ _ _ k2).1]
      exact j2.mono hle
    · have hi := (List.getElem?_eq_some_iff.1 k3).1
      have hq : q.bs[i]? = some (q.bs[i]'(by omega)) := List.getElem?_eq_getElem _
      generalize q.bs[i]'(by omega) = bq at hq
      obtain ⟨blk2, m1, m2⟩ := hext.hr.at' _ _ _ k4
      exact ⟨_, a4 i bq hq, BR.ofBlk hk (hblk i p bq k3 hq) m1 m2⟩
  · intro b g x hx
    rcases hcase _ _ _ hx with ⟨k1, k2⟩ | ⟨i, p, k1, _⟩
    · exact .inl ⟨g, x, k2⟩
    · exact .inr (by omega)
  · intro b g x hx
    rcases hcase _ _ _ hx with ⟨k1, k2⟩ | ⟨i, p, k1, k2, k3, k4⟩
    · exact .inl ⟨g, x, k2, rfl⟩
    · exact .inr (hfresh i p x k3 k4)
end

/-- A known call. -/
theorem kn_sim {gl : List (Nat × List AV)} {n : Nat} (L : Laid C gl n) {c : CallT} (hc : CallOK C c) {keep : List (Nat × Nat)} {q : Kn} (hok : q.ok c gl n keep = true) {args : List AV} {h h' : Hp} {v : AV} (hu : q.use gl n args h = some (v, h')) : CallOne C q.g args h v h' := by
  unfold Kn.use at hu
  simp only at hu
  generalize muOfK q args h = mu at hu
  cases hg : and (avEqL args (renL (renU mu h.n) q.args)) (and (globOK gl h) (blksOK (renU mu h.n) h n mu q.bas)) with
  | false => rw [hg] at hu; cases hu
  | true =>
  rw [hg, ifb_true, natF_eq, force_eq, Bx.eta (addAll _ q.bs h), Bx.bd_mk] at hu
  cases hu
  simp only [Bool.and_eq_true] at hg
  obtain ⟨hargs, hgo, hbm⟩ := hg
  have hargs := avEqL_eq hargs
  unfold Kn.ok at hok
  rw [lenA_eq] at hok
  rw [Bool.and_eq_true, Bool.not_eq_true'] at hok
  obtain ⟨hy, hok⟩ := hok
  cases hrun : c q.g (renL (renU (argMu n q.bas.length) 0) q.args) (argHp gl n q.bas) with
  | no w => rw [hrun] at hok; cases hok
  | ok v1 h1 =>
    rw [hrun] at hok
    have hok : and (avEq v1 (q.v.ren (renK (argMu n q.bas.length) keep h1.n))) (blksOK (renK (argMu n q.bas.length) keep h1.n) h1 (n + q.bas.length) keep q.bs) = true := hok
    rw [Bool.and_eq_true] at hok
    have hv1 := avEq_eq hok.1
    rcases hc _ _ _ _ _ hrun with ⟨_, hfn, hcall⟩ | ⟨_, hval⟩ | ⟨hh, _⟩
    case inr.inr => rw [hh] at hy; exact absurd hy (by decide)
    · refine .inl ⟨hy, hfn, fun e w args' hg hv hr => ?_⟩
      obtain ⟨k1, k2, k3⟩ := base_sim L hg hr hgo hbm
      rw [hargs] at hv
      refine Calls.mono (hcall (baseE gl n mu e) w args' k1 (VRL.ren k3 q.args hv) k2) fun en w' he => ?_
      obtain ⟨v', e1, rfl, hvr, hext⟩ := he
      obtain ⟨e', m1, m2⟩ := kn_ext L hr hbm hv1 hok.2 hvr hext
      exact ⟨v', e', rfl, m1, m2⟩
    · refine .inr (.inl ⟨hy, fun e w args' hg hv hr => ?_⟩)
      obtain ⟨k1, k2, k3⟩ := base_sim L hg hr hgo hbm
      rw [hargs] at hv
      obtain ⟨v', w', e1, h3, hvr, hext⟩ := hval (baseE gl n mu e) w args' k1 (VRL.ren k3 q.args hv) k2
      obtain ⟨e', m1, m2⟩ := kn_ext L hr hbm hv1 hok.2 hvr hext
      exact ⟨v', w', e', h3, m1, m2⟩

/-- Known calls, one behind the other. -/
theorem knOf_sim {gl : List (Nat × List AV)} {n : Nat} : ∀ {l : List Kn}, (∀ q ∈ l, ∀ args h v h', q.use gl n args h = some (v, h') → CallOne C q.g args h v h') → ∀ {g : Nat} {args : List AV} {h h' : Hp} {v : AV}, knOf gl n g args h l = some (v, h') → CallOne C g args h v h'
  | [], _, _, _, _, _, _, hx => by cases hx
  | q :: l, hl, g, args, h, h', v, hx => by
    have hrest := fun hx => knOf_sim (n := n) (fun q' hq' => hl q' (.tail _ hq')) (g := g) (args := args) (h := h) (h' := h') (v := v) hx
    have hx : ifb (Nat.beq g q.g) (match q.use gl n args h with
      | some r => some r
      | none => knOf gl n g args h l) (knOf gl n g args h l) = some (v, h') := hx
    cases hb : Nat.beq g q.g with
    | false => rw [hb] at hx; exact hrest hx
    | true =>
      rw [hb, ifb_true] at hx
      cases hu : q.use gl n args h with
      | none => rw [hu] at hx; exact hrest hx
      | some r =>
        rw [hu] at hx
        cases hx
        rw [beq_iff.1 hb]
        exact hl q (.head _) args h v h' hu
end Go.Ab

/- What a law's row gives, and what it wants, of calls on named blocks. -/
namespace Go.Ab
open Go
variable {C : Cx}

/-! ### The library's search for a byte -/
theorem idxByte_eq (l : List UInt8) (c : UInt8) : ∀ (n i : Nat), i + n = l.length → idxByte (packB l) c.toNat n i = (if Lib.indexByte (l.drop i) c == -1 then -1 else Lib.indexByte (l.drop i) c + i)
  | 0, i, h => by
    rw [List.drop_of_length_le (by omega)]; rfl
  | n + 1, i, h => by
    have hi : i < l.length := by omega
    have h1 : idxByte (packB l) c.toNat (n + 1) i = ifb (Nat.beq (byteAt (packB l) i) c.toNat) (.ofNat i) (idxByte (packB l) c.toNat n (i + 1)) := rfl
    rw [h1, byteAt_eq l i l[i] (List.getElem?_eq_getElem hi), idxByte_eq l c n (i + 1) (by omega), List.drop_eq_getElem_cons hi]
    have hge := Lib.indexByte_ge (l.drop (i + 1)) c
    rw [show Lib.indexByte (l[i] :: l.drop (i + 1)) c = (if l[i] == c then 0 else if Lib.indexByte (l.drop (i + 1)) c == -1 then -1 else Lib.indexByte (l.drop (i + 1)) c + 1) from rfl]
    generalize Lib.indexByte (l.drop (i + 1)) c = r at hge
    by_cases hb : l[i] = c
    · have h2 : Nat.beq l[i].toNat c.toNat = true := by rw [hb]; exact beq_iff.2 rfl
      rw [h2, ifb_true]
      simp [hb]
    · have h2 : Nat.beq l[i].toNat c.toNat = false := by
        cases hh : Nat.beq l[i].toNat c.toNat with
        | false => rfl
        | true => exact absurd (UInt8.toNat_inj.1 (beq_iff.1 hh)) hb
      have h3 : (l[i] == c) = false := by simpa using hb
      rw [h2, ifb_false, h3]
      by_cases hm : r = -1
      · subst hm; rfl
      · have h4 : (r == -1) = false := by simpa using hm
        have h5 : (r + 1 == -1) = false := by rw [beq_eq_false_iff_ne]; omega
        simp only [h4, h5, Bool.false_eq_true, if_false]
        omega

theorem spIndexByte_ok {g : Nat} {fn : Func} (hgy : Nat.ble yF g = false) (hf : C.P.funcs[g]? = some fn) (hname : (fn.name == "runtime.NumGoroutine") = false) (hb : fn.body.isNone = true) (hn : Extern.findNext fn = Option.none) (he : Extern.find fn = some Extern.BytealgIndexByte.indexByte)
    {args : List AV} {v : AV} (hx : spIndexByte args = some v) (h : Hp) : CallOne C g args h v h := by
  refine .inr (.inl ⟨hgy, fun e w args' hg hv hr => ?_⟩)
  unfold spIndexByte at hx
  split at hx
  · rename_i n a c
    cases hc : Nat.ble c 255 with
    | false => rw [hc] at hx; cases hx
    | true =>
      rw [hc, ifb_true] at hx
      have hc := Nat.le_of_ble_eq_true hc
      generalize hu : AV.str n a = u at hv
      cases hv with
      | cons _ v1 _ l1 hv1 hv2 =>
        cases hv2 with
        | cons _ v2 _ l2 hv2 hv3 =>
          cases hv3
          cases hv2
          cases hv1 <;> first | (cases hu; done) | skip
          case str s =>
            cases hu
            have hcu : c = c.toUInt8.toNat := by
              simp
              omega
            have hi : idxByte (packB s.data.toList) c s.size 0 = Lib.indexByte s.data.toList c.toUInt8 := by
              have := idxByte_eq s.data.toList c.toUInt8 s.size 0 (by rw [Nat.zero_add]; rfl)
              rw [← hcu] at this
              rw [this, List.drop_zero]
              split
              · rename_i hm; simpa using (beq_iff_eq.1 hm).symm
              · simp
            refine ⟨.int .i64 (Lib.indexByte s.data.toList c.toUInt8), w, e, ?_, ?_, .refl hr⟩
            · have h1 := run_callFunc_extern (P := C.P) hf hname hb hn he #[.string s, .int .u8 (c : Int)] w
              rw [Lib.run_indexByteString] at h1
              exact h1
            · have hx : intF (idxByte (packB s.data.toList) c s.size 0) (fun i => some (AV.int .i64 i)) = some v := hx
              rw [hi] at hx
              have hx2 : some (AV.int .i64 (Lib.indexByte s.data.toList c.toUInt8)) = some v := by
                rw [← hx]
                cases Lib.indexByte s.data.toList c.toUInt8 with
                | ofNat m => cases m <;> rfl
                | negSucc m => cases m <;> rfl
              cases hx2
              exact .int _ _
  · cases hx

/-! ### The package-level variables -/
def initE (gl : List (Nat × List AV)) : Emb := fun b g => if g = 0 then (match gl.find? fun q => q.1 == b with
  | some q => some ⟨b, 0, 0, q.2.length⟩
  | Option.none => Option.none) else Option.none
theorem initE_spec {gl : List (Nat × List AV)} {b g : Nat} {x : Loc} (h : initE gl b g = some x) : g = 0 ∧ ∃ q ∈ gl, q.1 = b ∧ x = ⟨b, 0, 0, q.2.length⟩ := by
  unfold initE at h
  by_cases hg : g = 0
  · rw [if_pos hg] at h
    cases hf : gl.find? fun q => q.1 == b with
    | none => rw [hf] at h; cases h
    | some q =>
      rw [hf] at h
      cases h
      have := List.find?_some hf
      exact ⟨hg, q, List.mem_of_find?_eq_some hf, by simpa using this, rfl⟩
  · rw [if_neg hg] at h; cases h

/-- The variables hold what is laid. -/
def Holds (gl : List (Nat × List AV)) (w : World) : Prop := ∀ q ∈ gl, (∀ v ∈ q.2, v.isCell = true) ∧ ∃ c t, w.heap[q.1]? = some (.cells c t (0, 0)) ∧ VRL (fun _ _ => Option.none) q.2 c.toList

theorem init_sim {gl : List (Nat × List AV)} {n : Nat} (L : Laid C gl n) {w : World} (hw : Holds gl w) : HR (initE gl) (globHp gl n) w ∧ GR C (initE gl) := by
  have hget : ∀ q ∈ gl, (globHp gl n).get q.1 = some (.flat q.2 3) := by
    intro q hq
    have h1 := List.all_eq_true.1 (show gl.all _ = true from L.ok) q hq
    split at h1
    · rename_i l z hh
      rw [Bool.and_eq_true] at h1
      have hz := beq_iff.1 h1.1
      subst hz
      rw [hh, avEqL_eq h1.2]
    · cases h1
  refine ⟨⟨fun b g x b' g' x' h1 h2 hr => ?_, fun b g x h1 => ?_, fun b g x h1 => ?_⟩, fun g hg => ?_⟩
  · obtain ⟨_, q, _, rfl, rfl⟩ := initE_spec h1
    obtain ⟨_, q', _, rfl, rfl⟩ := initE_spec h2
    exact ⟨hr, rfl⟩
  · obtain ⟨_, q, hq, rfl, rfl⟩ := initE_spec h1
    obtain ⟨_, c, t, hc, _⟩ := hw q hq
    obtain ⟨hlt, _⟩ := Array.getElem?_eq_some_iff.1 hc
    exact ⟨hlt, by rw [globHp_n]; exact L.lt' (List.mem_map_of_mem hq)⟩
  · obtain ⟨rfl, q, hq, rfl, rfl⟩ := initE_spec h1
    obtain ⟨hcell, c, t, hc, hv⟩ := hw q hq
    refine ⟨_, hget q hq, ?_⟩
    show BR (initE gl) (.flat q.2 3) 0 ⟨q.1, 0, 0, q.2.length⟩ w.heap[q.1]?
    rw [hc]
    have hlen := hv.length
    have hsz : c.size = q.2.length := by rw [← hlen]; simp
    refine .cells c t (0, 0) ⟨trivial, Nat.le_refl _, hsz, Nat.le_refl _, ?_, fun i v hi hr => ?_, fun _ i _ hh => by simp at hh, fun _ i hh => by simp at hh⟩
    · show (Blk.flat q.2 3).known 0 ≤ 0 + c.size
      rw [hsz, Nat.zero_add]
      show lenA q.2 ≤ q.2.length
      rw [lenA_eq]; exact Nat.le_refl _
    · have hr : ifb (Nat.beq 0 0) (nthA q.2 i) Option.none = some v := hr
      rw [show Nat.beq 0 0 = true from rfl, ifb_true, nthA_eq] at hr
      obtain ⟨v', k1, k2⟩ := hv.get hr
      exact ⟨hcell v (List.mem_of_getElem? hr), v', by rw [Nat.sub_zero]; simpa using k1, k2.mono fun _ _ _ hh => by cases hh⟩
  · rw [L.gs] at hg
    obtain ⟨j, hj, hj2⟩ := List.any_eq_true.1 hg
    have : g = j := beq_iff.1 hj2
    subst this
    obtain ⟨q, hq, hqg⟩ := List.mem_map.1 hj
    cases hf : gl.find? (fun q => q.1 == g) with
    | none =>
      have := List.find?_eq_none.1 hf q hq
      simp [hqg] at this
    | some q2 =>
      refine ⟨⟨g, 0, 0, q2.2.length⟩, ?_, rfl, rfl, rfl⟩
      unfold initE
      rw [if_pos rfl, hf]

/-- A variable that is an array of numbers, of the row's list. -/
theorem holds_tab {P : Program} {w : World} {laid : List (String × DataW Unit)} (h : laidMet P laid w) {name : String} {k : IntKind} {zs : List Int} (hm : (name, Lib.tabData k zs) ∈ laid) {g t e : Nat} {n : Nat}
    (hg : P.globalNamed name = some g) (hy : (P.globals[g]?).map (·.type) = some t) (ht : P.underlying t = some (.array n e)) (he : P.underlying e = some (.int k)) (hce : P.cellsOf e = 1) (hct : P.cellsOf t = n) (hn : 0 < zs.length) :
    ∃ c ty, w.heap[g]? = some (.cells c ty (0, 0)) ∧ c.toList = zs.map fun z => Value.int k z := by
  obtain ⟨ps, hv, _, hz⟩ := h
  have hall : ∀ {l : List (String × DataW Unit)} {ps : List MemPlace}, DataW.LaidVars P w l ps → (name, Lib.tabData k zs) ∈ l → ∃ cs : Array Value, w.var? P name = some cs ∧ cs.toList = (zs.map fun z => Value.int k z) ∧ ∀ p ∈ MemPlace.row ⟨g, 0, Option.none⟩ cs.size, p ∈ ps := by
    intro l
    induction l with
    | nil => intro ps _ hm; cases hm
    | cons y r ih =>
      intro ps h hm
      obtain ⟨n', d'⟩ := y
      obtain ⟨g', t', cs, fuel, p, q, h1, h2, h3, h4, h5, h6⟩ := h
      rcases List.mem_cons.1 hm with e1 | e1
      · cases e1
        obtain rfl := Option.some.inj (hg.symm.trans h1)
        obtain rfl := Option.some.inj (hy.symm.trans h2)
        refine ⟨cs, h3, Lib.cells_of_tab ht he hce hct h4, fun p hp => ?_⟩
        rw [h6]
        exact List.mem_append_left _ (List.mem_append_left _ hp)
      · obtain ⟨cs, k1, k2, k3⟩ := ih h5 e1
        exact ⟨cs, k1, k2, fun p hp => by rw [h6]; exact List.mem_append_right _ (k3 p hp)⟩
  obtain ⟨cs, k1, k2, k3⟩ := hall hv hm
  have hs : 0 < cs.size := by
    have := congrArg List.length k2
    simp at this
    omega
  obtain ⟨⟨c, ty, hc⟩, _⟩ := hz g 0 (k3 _ (by unfold MemPlace.row; exact List.mem_map.2 ⟨0, List.mem_range.2 hs, rfl⟩))
  refine ⟨c, ty, hc, ?_⟩
  simp only [World.var?, hg, Option.bind_some, hc, Option.some.injEq] at k1
  rw [k1]; exact k2

/-! ### A law's call -/
theorem law_calls2 {gl : List (Nat × List AV)} {n : Nat} (L : Laid C gl n) {c : CallT} (hc : CallOK C c) {g : Nat} {fn : Func} {b : Code} (hgy : Nat.ble yF g = false) (hf : C.P.funcs[g]? = some fn) (hname : (fn.name == "runtime.NumGoroutine") = false) (hb : fn.body = some b)
    {args : List AV} (hx : R2.rec (motive := fun _ => Bool) (fun v _ => avEq v (.bool true)) (fun _ => false) (c g args (globHp gl n)) = true) {w : World} (hw : Holds gl w) {args' : List Value} (hv : VRL (initE gl) args args') :
    Calls C.P g args'.toArray w fun en w' => en = .returned (.bool true) ∧ w'.os = w.os ∧ w'.output = w.output ∧ ∀ i, i < w.heap.size → w'.heap[i]? = w.heap[i]? := by
  obtain ⟨hr, hg⟩ := init_sim L hw
  cases hrun : c g args (globHp gl n) with
  | no q => rw [hrun] at hx; cases hx
  | ok v h' =>
    rw [hrun] at hx
    have hv1 := avEq_eq (show avEq v (.bool true) = true from hx)
    subst hv1
    rcases hc _ _ _ _ _ hrun with ⟨_, _, hcall⟩ | ⟨_, hval⟩ | ⟨hh, _⟩
    case inr.inr => rw [hh] at hgy; exact absurd hgy (by decide)
    · refine Calls.mono (hcall _ w args' hg hv hr) fun en w' he => ?_
      obtain ⟨v', e', rfl, hvr, hext⟩ := he
      cases hvr
      refine ⟨rfl, hext.os, hext.output, fun i hi => ?_⟩
      have := hext.frame i hi fun b g x hb hxr => by
        obtain ⟨_, q, hq, rfl, rfl⟩ := initE_spec hb
        have h1 := List.all_eq_true.1 (show gl.all _ = true from L.ok) q hq
        refine ⟨by rw [globHp_n]; exact L.lt' (List.mem_map_of_mem hq), .inl ?_⟩
        split at h1
        · rename_i l z hh
          rw [Bool.and_eq_true] at h1
          have hz := beq_iff.1 h1.1
          subst hz
          exact ⟨.flat l 3, hh, show (3 : Nat) = 3 from rfl⟩
        · cases h1
      exact this
    · obtain ⟨v', w', e', h1, _⟩ := hval _ w args' hg hv hr
      rw [run_callFunc hf hname hb] at h1
      cases h1

theorem law_calls {gl : List (Nat × List AV)} {n : Nat} (L : Laid C gl n) {c : CallT} (hc : CallOK C c) {g : Nat} {fn : Func} {b : Code} (hgy : Nat.ble yF g = false) (hf : C.P.funcs[g]? = some fn) (hname : (fn.name == "runtime.NumGoroutine") = false) (hb : fn.body = some b)
    {args : List AV} (hx : R2.rec (motive := fun _ => Bool) (fun v _ => avEq v (.bool true)) (fun _ => false) (c g args (globHp gl n)) = true) {w : World} (hw : Holds gl w) {args' : List Value} (hv : VRL (initE gl) args args') :
    Calls C.P g args'.toArray w fun en w' => en = .returned (.bool true) ∧ w.keptBut w' fun _ => False := by
  refine Calls.mono (law_calls2 L hc hgy hf hname hb hx hw hv) fun en w' ⟨h1, h2, h3, h4⟩ => ⟨h1, h2, h3, fun i hi => ?_⟩
  rw [h4 i hi]
  cases w.heap[i]? with
  | none => rfl
  | some o => cases o <;> first | rfl | exact ⟨rfl, rfl, rfl, fun _ _ => rfl⟩ | exact .inr ⟨rfl, rfl⟩

/-- A number below 256, by what is left of it. -/
theorem VR.rest {e : Emb} {a : Int} (m : Nat) (hm : 0 < m) (hm2 : m < 256) (h0 : 0 ≤ a) (h1 : a < 256) : VR e (.nil (10 + 2 * (a.toNat % m + 256 * m))) (.int .u8 a) := by
  obtain ⟨n, rfl⟩ := Int.eq_ofNat_of_zero_le h0
  have hr := Nat.mod_lt n hm
  have e0 : (n : Int).toNat = n := rfl
  rw [e0]
  generalize hq : n % m = r at hr
  have d1 : Nat.div (10 + 2 * (r + 256 * m)) 2 = 5 + (r + 256 * m) := by
    show (10 + 2 * (r + 256 * m)) / 2 = _
    omega
  have d2 : Nat.mod (10 + 2 * (r + 256 * m)) 2 = 0 := by
    show (10 + 2 * (r + 256 * m)) % 2 = _
    omega
  have a1 : modM (10 + 2 * (r + 256 * m)) = m := by
    unfold modM; rw [d1]
    show (5 + (r + 256 * m) - 5) / 256 = m
    omega
  have a2 : modR (10 + 2 * (r + 256 * m)) = r := by
    unfold modR; rw [d1]
    show (5 + (r + 256 * m) - 5) % 256 = r
    omega
  have a3 : modK (10 + 2 * (r + 256 * m)) = .u8 := by unfold modK; rw [d2]; rfl
  have := VR.modv (e := e) (10 + 2 * (r + 256 * m)) n (by omega) (by omega) (by rw [a1]; exact hm) (by rw [a1, a2]; exact hq) (by omega)
  rw [a3] at this
  exact this
/-- A number, by what is left of it (as Go divides). -/
theorem VR.left {e : Emb} (n : Int) (m : Nat) (r : Nat) (hr : r < 512) (h : n.tmod m = (r : Int) - 256) : VR e (.nil (1048576 + (r + 512 * m))) (.int .i64 n) := by
  have d1 : Nat.div (Nat.sub (1048576 + (r + 512 * m)) 1048576) 512 = m := by
    show (1048576 + (r + 512 * m) - 1048576) / 512 = m
    omega
  have d2 : Nat.mod (Nat.sub (1048576 + (r + 512 * m)) 1048576) 512 = r := by
    show (1048576 + (r + 512 * m) - 1048576) % 512 = r
    omega
  refine .remv _ n (by omega) ?_
  unfold remM remR
  rw [d1, d2, subA_eq]
  exact h
end Go.Ab

/- Arguments of which nothing is known but what they are. -/
namespace Go.Ab
open Go

theorem okWide_one {P : Program} {w : World} {r : Reach} {b : Nat} {t : TypeId} {v : Value} (h : Cell.okWide P w r b t v) : v.oneCell' = true := by
  unfold Cell.okWide at h
  split at h <;> first | rfl | skip
  unfold Cell.ok at h
  split at h <;> first | rfl | exact h.elim
theorem row_one {P : Program} {w : World} {r : Reach} {b : Nat} {t : TypeId} {cs : Array Value} (h : Row.okWide P w r b t cs) : ∀ v ∈ cs.toList, v.oneCell' = true := by
  intro v hv
  obtain ⟨i, hi⟩ := List.mem_iff_getElem?.1 hv
  obtain ⟨ts, _, _, h3⟩ := h
  obtain ⟨u, _, h4⟩ := h3 i v (by rw [← Array.getElem?_toList]; exact hi)
  exact okWide_one h4
theorem VRL_opq (e : Emb) : ∀ l : List Value, (∀ v ∈ l, v.oneCell' = true) → VRL e (List.replicate l.length (.nil 8)) l
  | [], _ => .nil
  | v :: l, h => .cons _ _ _ _ (.opq v (h v (.head _))) (VRL_opq e l fun u hu => h u (.tail _ hu))
/-- What lies where it lay is read as it was. -/
theorem sameAt_kept {w w' : World} (h : ∀ i, i < w.heap.size → w'.heap[i]? = w.heap[i]?) {p : MemPlace} (hp : p.block < w.heap.size) : w.sameAt w' p := by
  cases p with
  | cell b off =>
    have h1 := h b hp
    simp only [World.sameAt, World.cell?, h1]
  | map b => exact h b hp
end Go.Ab

/- Calls of the library's own that have no body: two rows of bytes compared; do two slices overlap; a map's copy. -/
namespace Go.Ab
open Go
variable {C : Cx}

noncomputable section
/-- The bytes of a slice. -/
def bytesIn (v : AV) (h : Hp) : Option (Nat × Nat) := v.onSl (fun _ => none) (some (0, 0)) fun b g o n _ => match h.readN b g o n with
  | .ok l => match packA l with
    | some a => some (n, a)
    | none => none
  | .no _ => none
def spCompare (args : List AV) (h : Hp) : Option AV := match args with
  | [x, y] => match bytesIn x h, bytesIn y h with
    | some p, some q => some (.int .i64 (ifb (eqStr p.1 p.2 q.1 q.2) 0 (ifb (lessB p.1 q.1 p.2 q.2) (.negSucc 0) (.ofNat 1))))
    | _, _ => none
  | _ => none
/-- Of two blocks, of which nothing is frozen. -/
def spOverlaps (args : List AV) (h : Hp) : Option AV := match args with
  | [.nil 1, .nil 1] => some (.bool false)
  | [.nil 1, .sl _ _ _ _ _] => some (.bool false)
  | [.sl _ _ _ _ _, .nil 1] => some (.bool false)
  | [.sl b _ _ n _, .sl c _ _ m _] => ifb (or (Nat.beq n 0) (Nat.beq m 0)) (some (.bool false)) (ifb (and (not (Nat.beq b c)) (and (okEq (h.fz b)) (okEq (h.fz c)))) (some (.bool false)) none)
  | _ => none
def spClone (args : List AV) (h : Hp) : Option (AV × Hp) := match args with
  | [.ifc t (.map r)] => h.onMap r none fun es => (h.add (.map es)).bd fun h2 => natF h.n fun n => some (.ifc t (.map n), h2)
  | _ => none
end

theorem bytesIn_spec {e : Emb} {h : Hp} {w : World} {v : AV} {v' : Value} (hr : HR e h w) (hv : VR e v v') {n a : Nat} (hx : bytesIn v h = some (n, a)) :
    ∃ bs : List UInt8, n = bs.length ∧ a = packB bs ∧ ∀ P : Program, (Extern.Bytes.bytesOf v').run P w = .ok ⟨bs.toArray⟩ w := by
  unfold bytesIn at hx
  rcases hv.onSl (no := fun _ => (none : Option (Nat × Nat))) (nil := some (0, 0)) (k := fun b g o n _ => match h.readN b g o n with
    | .ok l => match packA l with
      | some a => some (n, a)
      | none => none
    | .no _ => none) with ⟨_, h2, h3⟩ | ⟨b, g, o, n2, c, cap, x, ad, _, p1, p2, p3, p4, p5, p6, p7, p8, h3⟩ | ⟨q, h3⟩
  · rw [h3] at hx
    cases hx
    exact ⟨[], rfl, rfl, fun P => by rw [h2]; rfl⟩
  · rw [h3] at hx
    cases hl : h.readN b g o n2 with
    | no q => rw [hl] at hx; cases hx
    | ok l =>
      rw [hl] at hx
      simp only at hx
      cases hp : packA l with
      | none => rw [hp] at hx; cases hx
      | some a2 =>
        rw [hp] at hx
        cases hx
        obtain ⟨bs, b1, b2⟩ := packA_spec l a hp
        have hl0 := hl
        unfold Hp.readN at hl
        cases hg : h.get b with
        | none => rw [hg] at hl; cases hl
        | some blk =>
          rw [hg] at hl
          have hl := Res.of_ok hl
          obtain ⟨k1, k2⟩ := readN_get hl
          have hlen : bs.length = n := by rw [← k1, b1]; simp
          refine ⟨bs, hlen.symm, b2, fun P => ?_⟩
          rw [p7]
          have hcells : ∀ j (y : Int), (bs.map fun b => (b.toNat : Int))[j]? = some y → w.cell? (ad.add j) = some (.int .u8 y) := by
            intro j y hj
            rw [List.getElem?_map] at hj
            cases hbj : bs[j]? with
            | none => rw [hbj] at hj; cases hj
            | some u =>
              rw [hbj] at hj
              cases hj
              have hlj : l[j]? = some (.int .u8 (.ofNat u.toNat)) := by rw [b1, List.getElem?_map, hbj]; rfl
              have hjn : j < n := by rw [← hlen]; exact (List.getElem?_eq_some_iff.1 hbj).1
              have hr1 : h.read1 b g (o + j) = .ok (.int .u8 (.ofNat u.toNat)) := by
                unfold Hp.read1
                rw [hg]
                show Res.of "read" (blk.read1 g (o + j)) = _
                rw [k2 j _ hlj]; rfl
              obtain ⟨v2, j1, j2, _⟩ := hr.read1 p1 (Nat.le_trans p3 (Nat.le_add_right _ _)) hr1
              rcases p8 with rfl | ⟨hn, _⟩
              · rw [Addr.add_mk, show o - x.base + j = o + j - x.base by omega, j1]
                cases j2
                rfl
              · omega
          have := Lib.run_loadBytesX (P := P) w (bs.map fun b => (b.toNat : Int)) ad .empty hcells
          rw [List.length_map, hlen] at this
          show (Extern.Bytes.loadBytes ad n .empty).run P w = _
          rw [this]
          congr 2
          show (#[] : Array UInt8) ++ _ = _
          rw [Array.empty_append]
          congr 1
          unfold Lib.bytesOf
          rw [List.map_map]
          conv => rhs; rw [← List.map_id bs]
          refine List.map_congr_left fun u _ => ?_
          simp
  · rw [h3] at hx; cases hx

theorem compare_less : ∀ a b : List UInt8, Lib.compareBytes a b = if a = b then 0 else if Op.bytesLess a b = true then -1 else 1
  | [], [] => rfl
  | [], _ :: _ => rfl
  | _ :: _, [] => rfl
  | x :: a, y :: b => by
    have ih := compare_less a b
    unfold Lib.compareBytes
    rw [show Op.bytesLess (x :: a) (y :: b) = (decide (x < y) || (x == y && Op.bytesLess a b)) from rfl]
    by_cases h1 : x < y
    · have hne : x ≠ y := fun hh => by subst hh; exact absurd h1 (UInt8.lt_irrefl _)
      simp [h1, hne]
    · by_cases h2 : y < x
      · have hne : x ≠ y := fun hh => by subst hh; exact absurd h2 (UInt8.lt_irrefl _)
        simp [h1, h2, hne]
      · have heq : x = y := by
          apply UInt8.toNat_inj.1
          have h3 : ¬ x.toNat < y.toNat := h1
          have h4 : ¬ y.toNat < x.toNat := h2
          omega
        subst heq
        simp [h1, ih]

theorem spCompare_ok {g : Nat} {fn : Func} (hgy : Nat.ble yF g = false) (hf : C.P.funcs[g]? = some fn) (hname : (fn.name == "runtime.NumGoroutine") = false) (hb : fn.body.isNone = true) (hn : Extern.findNext fn = Option.none) (he : Extern.find fn = some Extern.BytealgCompare.compare)
    {args : List AV} {v : AV} {h : Hp} (hx : spCompare args h = some v) : CallOne C g args h v h := by
  refine .inr (.inl ⟨hgy, fun e w args' hg hv hr => ?_⟩)
  unfold spCompare at hx
  split at hx
  · rename_i x y
    cases hv with
    | cons _ x' _ l1 hv1 hv2 =>
      cases hv2 with
      | cons _ y' _ l2 hv2 hv3 =>
        cases hv3
        split at hx
        · rename_i p q hp hq
          obtain ⟨a, a1, a2, a3⟩ := bytesIn_spec hr hv1 (n := p.1) (a := p.2) hp
          obtain ⟨b, b1, b2, b3⟩ := bytesIn_spec hr hv2 (n := q.1) (a := q.2) hq
          rw [a1, a2, b1, b2, eqStr_eq, lessB_eq] at hx
          cases hx
          refine ⟨.int .i64 (Lib.compareBytes a b), w, e, ?_, ?_, .refl hr⟩
          · have h1 := run_callFunc_extern (P := C.P) hf hname hb hn he #[x', y'] w
            rw [show [x', y'].toArray = #[x', y'] from rfl, h1]
            show Result.andThen ((do pure (goInt (Extern.BytealgCompare.cmp (← Extern.Bytes.bytesOf x') (← Extern.Bytes.bytesOf y'))) : Sem Value).run C.P w) _ = _
            simp only [Sem.run_bind, a3, b3, Result.andThen_ok, Sem.run_pure]
            rw [Lib.cmp_eq]
            rfl
          · rw [compare_less]
            by_cases hab : a = b
            · rw [if_pos hab, decide_eq_true hab]; exact .int _ _
            · rw [if_neg hab, decide_eq_false hab]
              cases Op.bytesLess a b
              · exact .int _ _
              · exact .int _ _
        · cases hx
  · cases hx

theorem run_overlaps_two {P : Program} {w : World} {tS tR el : TypeId} {size : Nat} (ht : P.underlying tS = some (.slice el)) (hz : ∀ w, (sizeOf el).run P w = .ok size w) {a b : Addr} {la ca lb cb : Nat} (h0 : (la = 0 ∨ lb = 0) ∨ (a.block ≠ b.block ∧
    ∃ c t fr c' t' fr', w.heap[a.block]? = some (.cells c t fr) ∧ w.heap[b.block]? = some (.cells c' t' fr') ∧ (∀ i, ¬ (fr.1 ≤ i ∧ i < fr.2)) ∧ (∀ i, ¬ (fr'.1 ≤ i ∧ i < fr'.2)))) :
    (Extern.SlicesOverlaps.overlaps #[tS, tS] #[tR] #[.slice (some a) la ca, .slice (some b) lb cb]).run P w = .ok (.bool false) w := by
  change Sem.run P (α := Value) (do
    let some t := (#[tS, tS] : Array TypeId)[0]? | stuck "slices.overlaps: no parameter types"
    let .slice elem ← underlying t | stuck "slices.overlaps: slice type expected"
    let size ← sizeOf elem
    match (some a : Option Addr), (some b : Option Addr) with
    | some a, some b =>
      if la = 0 ∨ lb = 0 ∨ size = 0 then pure (Value.bool false)
      else if a.block != b.block && (← frozen a) && (← frozen b) then unsupported .addressObserved
      else do
        if a.block != b.block then do
          noView a; noView b
          if ← mayBeOne a b then return Value.bool ((← choose (.extern "sameAddr.stringBytes" 2)) == 1)
        pure (Value.bool (a.block == b.block && a.off < b.off + lb * size && b.off < a.off + la * size))
    | _, _ => pure (Value.bool false)) w = _
  by_cases h1 : la = 0 ∨ lb = 0 ∨ size = 0
  · simp [run_underlying ht, hz, h1]
  · rcases h0 with h0 | ⟨hne, c, t, fr, c', t', fr', k1, k2, f1, f2⟩
    · exact absurd (by rcases h0 with h0 | h0; exact .inl h0; exact .inr (.inl h0)) h1
    · have e1 : ∀ i s, w.frozen? ⟨a.block, i, s⟩ = false := fun i s => by simp only [World.frozen?, k1]; simpa using f1 i
      have e2 : ∀ i s, w.frozen? ⟨b.block, i, s⟩ = false := fun i s => by simp only [World.frozen?, k2]; simpa using f2 i
      have s1 : w.shape? a.block = some (t, c.size) := by simp [World.shape?, k1]
      have s2 : w.shape? b.block = some (t', c'.size) := by simp [World.shape?, k2]
      have e1' : w.frozen? a = false := e1 a.off a.spot
      have e2' : w.frozen? b = false := e2 b.off b.spot
      have hb : (a.block == b.block) = false := by simpa using hne
      have hb2 : (a.block != b.block) = true := by simpa using hne
      have st1 : (stringish a).run P w = .ok false w := by simp [stringish, e1', s1, e1]
      have st2 : (stringish b).run P w = .ok false w := by simp [stringish, e2', s2, e2]
      have nv1 : (noView a).run P w = .ok () w := by simp [noView, viewAt, s1]
      have nv2 : (noView b).run P w = .ok () w := by simp [noView, viewAt, s2]
      simp [run_underlying ht, hz, h1, hb, hb2, e1', nv1, nv2, mayBeOne, st1, st2]

theorem run_overlaps_nil {P : Program} {w : World} {tS tR el : TypeId} {size : Nat} (ht : P.underlying tS = some (.slice el)) (hz : ∀ w, (sizeOf el).run P w = .ok size w) {a b : Option Addr} {la ca lb cb : Nat} (h0 : a = none ∨ b = none) :
    (Extern.SlicesOverlaps.overlaps #[tS, tS] #[tR] #[.slice a la ca, .slice b lb cb]).run P w = .ok (.bool false) w := by
  change Sem.run P (α := Value) (do
    let some t := (#[tS, tS] : Array TypeId)[0]? | stuck "slices.overlaps: no parameter types"
    let .slice elem ← underlying t | stuck "slices.overlaps: slice type expected"
    let size ← sizeOf elem
    match a, b with
    | some a, some b =>
      if la = 0 ∨ lb = 0 ∨ size = 0 then pure (Value.bool false)
      else if a.block != b.block && (← frozen a) && (← frozen b) then unsupported .addressObserved
      else do
        if a.block != b.block then do
          noView a; noView b
          if ← mayBeOne a b then return Value.bool ((← choose (.extern "sameAddr.stringBytes" 2)) == 1)
        pure (Value.bool (a.block == b.block && a.off < b.off + lb * size && b.off < a.off + la * size))
    | _, _ => pure (Value.bool false)) w = _
  rcases h0 with rfl | rfl
  · cases b <;> simp [run_underlying ht, hz]
  · cases a <;> simp [run_underlying ht, hz]

theorem spOverlaps_ok {g : Nat} {fn : Func} {tS tR el : TypeId} {size : Nat} (hgy : Nat.ble yF g = false) (hf : C.P.funcs[g]? = some fn) (hname : (fn.name == "runtime.NumGoroutine") = false) (hb : fn.body.isNone = true) (hn : Extern.findNext fn = Option.none) (he : Extern.find fn = some (Extern.SlicesOverlaps.overlaps #[tS, tS] #[tR]))
    (ht : C.P.underlying tS = some (.slice el)) (hz : ∀ w, (sizeOf el).run C.P w = .ok size w) {args : List AV} {v : AV} {h : Hp} (hx : spOverlaps args h = some v) : CallOne C g args h v h := by
  refine .inr (.inl ⟨hgy, fun e w args' hg hv hr => ?_⟩)
  have key : ∀ x' y', args' = [x', y'] → (Extern.SlicesOverlaps.overlaps #[tS, tS] #[tR] #[x', y']).run C.P w = .ok (.bool false) w → v = .bool false → ∃ v' w' e', (callFunc g args'.toArray).run C.P w = .ok (.value v') w' ∧ VR e' v v' ∧ Ext e h w e' h w' := by
    intro x' y' h1 h2 h3
    subst h1 h3
    refine ⟨.bool false, w, e, ?_, .bool false, .refl hr⟩
    have h4 := run_callFunc_extern (P := C.P) hf hname hb hn he #[x', y'] w
    rw [show [x', y'].toArray = #[x', y'] from rfl, h4, h2]; rfl
  unfold spOverlaps at hx
  split at hx
  · cases hx
    cases hv with
    | cons _ x' _ l1 hv1 hv2 => cases hv2 with
      | cons _ y' _ l2 hv2 hv3 =>
        cases hv3
        cases hv1 with
        | modv _ _ h1 => omega
        | remv _ _ h1 => omega
        | nils => cases hv2 with
          | modv _ _ h1 => omega
          | remv _ _ h1 => omega
          | nils => exact key _ _ rfl (run_overlaps_nil ht hz (.inl rfl)) rfl
  · cases hx
    cases hv with
    | cons _ x' _ l1 hv1 hv2 => cases hv2 with
      | cons _ y' _ l2 hv2 hv3 =>
        cases hv3
        cases hv1 with
        | modv _ _ h1 => omega
        | remv _ _ h1 => omega
        | nils => cases hv2 with
          | slc => exact key _ _ rfl (run_overlaps_nil ht hz (.inl rfl)) rfl
  · cases hx
    cases hv with
    | cons _ x' _ l1 hv1 hv2 => cases hv2 with
      | cons _ y' _ l2 hv2 hv3 =>
        cases hv3
        cases hv2 with
        | modv _ _ h1 => omega
        | remv _ _ h1 => omega
        | nils => cases hv1 with
          | slc => exact key _ _ rfl (run_overlaps_nil ht hz (.inr rfl)) rfl
  · rename_i b gb ob n cb c gc oc m cc
    cases hv with
    | cons _ x' _ l1 hv1 hv2 => cases hv2 with
      | cons _ y' _ l2 hv2 hv3 =>
        cases hv3
        cases hv1 with
        | slc _ _ _ _ _ cap x ad p1 p2 p3 p4 p5 p6 p7 => cases hv2 with
          | slc _ _ _ _ _ cap2 y ad2 q1 q2 q3 q4 q5 q6 q7 =>
            cases h0 : or (Nat.beq n 0) (Nat.beq m 0) with
            | true =>
              rw [h0] at hx
              cases hx
              rw [Bool.or_eq_true] at h0
              exact key _ _ rfl (run_overlaps_two ht hz (.inl (h0.imp (fun hh => beq_iff.1 hh) fun hh => beq_iff.1 hh))) rfl
            | false =>
              rw [h0, ifb_false] at hx
              cases h1 : and (not (Nat.beq b c)) (and (okEq (h.fz b)) (okEq (h.fz c))) with
              | false => rw [h1] at hx; cases hx
              | true =>
                rw [h1] at hx
                cases hx
                rw [Bool.and_eq_true, Bool.and_eq_true, Bool.not_eq_true'] at h1
                rw [Bool.or_eq_false_iff] at h0
                obtain ⟨cs, t, fr, k1, k2⟩ := hr.quiet p1 h1.2.1
                obtain ⟨cs', t', fr', k3, k4⟩ := hr.quiet q1 h1.2.2
                have a1 : ad.block = x.r := by
                  rcases p7 with rfl | ⟨hh, _⟩
                  · rfl
                  · rw [hh] at h0; exact absurd h0.1 (by decide)
                have a2 : ad2.block = y.r := by
                  rcases q7 with rfl | ⟨hh, _⟩
                  · rfl
                  · rw [hh] at h0; exact absurd h0.2 (by decide)
                refine key _ _ rfl (run_overlaps_two ht hz (.inr ⟨?_, cs, t, fr, cs', t', fr', by rw [a1]; exact k1, by rw [a2]; exact k3, k2, k4⟩)) rfl
                rw [a1, a2]
                intro hh
                have := (hr.inj _ _ _ _ _ _ p1 q1 hh).1
                rw [this] at h1
                rw [beq_iff.2 rfl] at h1
                cases h1.1
  · cases hx

theorem spClone_ok {g : Nat} {fn : Func} (hgy : Nat.ble yF g = false) (hf : C.P.funcs[g]? = some fn) (hname : (fn.name == "runtime.NumGoroutine") = false) (hb : fn.body.isNone = true) (hn : Extern.findNext fn = Option.none) (he : Extern.find fn = some Extern.MapsClone.clone)
    {args : List AV} {v : AV} {h h' : Hp} (hx : spClone args h = some (v, h')) : CallOne C g args h v h' := by
  refine .inr (.inl ⟨hgy, fun e w args' hg hv hr => ?_⟩)
  unfold spClone at hx
  split at hx
  · rename_i t r
    cases hv with
    | cons _ x' _ l1 hv1 hv2 =>
      cases hv2
      cases hv1 with
      | ifc _ _ u' hu =>
        cases hu with
        | map _ x p1 p2 =>
          obtain ⟨blk, k1, k2⟩ := hr.at' _ _ _ p1
          have hx : (match h.get r with
            | some b => b.onMap (none : Option (AV × Hp)) fun es => (h.add (.map es)).bd fun h2 => natF h.n fun n => some (.ifc t (.map n), h2)
            | none => none) = some (v, h') := by
            unfold Hp.onMap at hx
            cases hgr : h.get r with
            | none => rw [hgr] at hx; cases hx
            | some b => rw [hgr] at hx; exact hx
          rw [k1] at hx
          simp only at hx
          cases blk with
          | flat _ _ => cases hx
          | grown _ _ _ _ => cases hx
          | sit _ _ _ => cases hx
          | lp _ => cases hx
          | map es =>
            have hx : (h.add (.map es)).bd (fun h2 => natF h.n fun n => some (AV.ifc t (.map n), h2)) = some (v, h') := hx
            rw [Hp.add_eq, Bx.bd_mk, natF_eq] at hx
            cases hx
            generalize hob : w.heap[x.r]? = ob at k2
            cases k2 with
            | cells _ _ _ q => exact q.cells.elim
            | sit _ _ hh => cases hh
            | iter _ _ _ _ hh => cases hh
            | lp _ _ _ _ hh => cases hh
            | busy _ hh => cases hh
            | dfr hh => cases hh
            | map es2 es' clock l a b c d f k mb =>
              cases a
              obtain ⟨e', n1, n2⟩ := hr.alloc (.map es) (.map es' clock) ⟨w.heap.size, 0, 0, 0⟩ rfl (fun e' hle _ => .map es es' clock l rfl rfl (c.mono hle) d f k (Nat.le_refl _))
              refine ⟨.iface t (.map (some w.heap.size)), w.alloc (.map es' clock), e', ?_, .ifc t _ _ (.map h.n _ n1 (Nat.le_refl _)), n2⟩
              have h4 := run_callFunc_extern (P := C.P) hf hname hb hn he #[.iface t (.map (some x.r))] w
              rw [show [Value.iface t (.map (some x.r))].toArray = #[.iface t (.map (some x.r))] from rfl, h4]
              have h5 : (Extern.MapsClone.clone #[.iface t (.map (some x.r))]).run C.P w = .ok (.iface t (.map (some w.heap.size))) (w.alloc (.map es' clock)) := by
                change Sem.run C.P (α := Value) (do
                  let .map entries clock ← getObj x.r | stuck "maps.clone: a map expected"
                  pure (Value.iface t (.map (some (← newObj (.map entries clock)))))) w = _
                simp only [Sem.run_bind, MapKept.run_getObj_map hob, Result.andThen_ok, run_newObj_alloc, Sem.run_pure]
              rw [h5]; rfl
  · cases hx
end Go.Ab

