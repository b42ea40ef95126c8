/-
  An executable reading of the model's code on named blocks, and the proof that what it comes to is what the model does, in any order that is free: part 5.
-/
import Derived.Test.YtkpaphoeldcakaaDoorAbL4
import Derived.RangeFuncRecord
import Derived.Scope
/- A loop over a map that fills another one. -/
namespace Go.Ab
open Go
variable {C : Cx} {R : Option Nat → Prop} {b0 : Nat}

abbrev FQ := List CS × Nat × List Bool × List Bool × List Bool
abbrev Fe := Nat × AV × AV × List (List AV × Nat)

theorem onMap_ok {α : Type} {v : AV} {no : String → Res α} {nil : Res α} {k : Nat → Res α} {r : α} (hn : ∀ w r, no w ≠ .ok r) (hnil : ∀ r, nil ≠ .ok r) (hx : v.onMap no nil k = .ok r) : ∃ t, v = .map t ∧ k t = .ok r := by
  cases v with
  | map t => exact ⟨t, rfl, hx⟩
  | nil t =>
    have hx : Bool.rec (motive := fun _ => Res α) (no "map") nil (Nat.beq t 2) = .ok r := hx
    cases hb : Nat.beq t 2 with
    | true => rw [hb] at hx; exact (hnil _ hx).elim
    | false => rw [hb] at hx; exact (hn _ _ hx).elim
  | _ => exact (hn _ _ hx).elim

theorem fillE_spec {q : FQ} {N : Nat} {f : Fr} {h : Hp} {r : Nat × AV × AV × List (List AV × Nat)} (hx : fillE q N f h = .ok r) :
    ev f (.t q.2.2.1) = .map r.1 ∧ r.2.1 = ev f (.t q.2.2.2.1) ∧ keyIs q.2.1 r.2.1 = true ∧ ev f (.t q.2.2.2.2) = r.2.2.1.ren (fun j => (N + j, 0)) ∧ blksOK (fun j => (N + j, 0)) h N (argMu N (h.n - N)) r.2.2.2 = true := by
  unfold fillE at hx
  obtain ⟨t, ht, hx⟩ := onMap_ok (fun _ _ hh => by cases hh) (fun _ hh => by cases hh) hx
  rw [force_eq, force_eq] at hx
  cases hk : keyIs q.2.1 (ev f (.t q.2.2.2.1)) with
  | false => rw [hk] at hx; cases hx
  | true =>
  rw [hk, ifb_true, natF_eq, force_eq] at hx
  cases hb : and (avEq (ev f (.t q.2.2.2.2)) (((ev f (.t q.2.2.2.2)).ren fun b => (Nat.sub b N, 0)).ren fun j => (Nat.add N j, 0))) (blksOK (fun j => (Nat.add N j, 0)) h N (argMu N (Nat.sub h.n N)) (relBs h N (Nat.sub h.n N))) with
  | false => rw [hb] at hx; cases hx
  | true =>
  rw [hb, ifb_true] at hx
  cases hx
  rw [Bool.and_eq_true] at hb
  exact ⟨ht, rfl, hk, avEq_eq hb.1, hb.2⟩

theorem fillR_spec {m : ML} {q : FQ} {c : CallT} {fa : Fr} {H : Hp} {kv : AV × AV} {r : Nat × AV × AV × List (List AV × Nat)} (hx : fillR m q c fa H kv = .ok r) :
    ∃ f3 h3 f4 h4, runR m.ent c (entF m.pr kv fa).out H = .norm f3 h3 ∧ runR q.1 c f3 h3 = .norm f4 h4 ∧ fillE q H.n f4 h4 = .ok r := by
  unfold fillR at hx
  rw [Bx.eta (entF m.pr kv fa), Bx.bd_mk] at hx
  cases h1 : runR m.ent c (entF m.pr kv fa).out H with
  | norm f3 h3 =>
    rw [h1] at hx
    simp only at hx
    cases h2 : runR q.1 c f3 h3 with
    | norm f4 h4 => rw [h2] at hx; exact ⟨f3, h3, f4, h4, rfl, h2, hx⟩
    | exit _ _ _ => rw [h2] at hx; cases hx
    | ret _ _ => rw [h2] at hx; cases hx
    | no _ => rw [h2] at hx; cases hx
  | exit _ _ _ => rw [h1] at hx; cases hx
  | ret _ _ => rw [h1] at hx; cases hx
  | no _ => rw [h1] at hx; cases hx

structure FAll (m : ML) (q : FQ) (c : CallT) (fa : Fr) (H : Hp) (rt : Nat) (es : Es) (hA hB : Hp) (rs : List Fe) : Prop where
  n : hA.n ≤ hB.n
  lk : hB.lk = hA.lk
  old : ∀ b, b < hA.n → hB.get b = hA.get b
  len : rs.length = es.length
  run : ∀ (i : Nat) kv, (es : List (AV × AV))[i]? = some kv → ∃ r, rs[i]? = some r ∧ fillR m q c fa H kv = .ok (rt, r.2.1, r.2.2.1, r.2.2.2)
  lo : ∀ r ∈ rs, hA.n ≤ r.1 ∧ r.1 + r.2.2.2.length ≤ hB.n
  at' : ∀ r ∈ rs, ∀ (j : Nat) bq, r.2.2.2[j]? = some bq → hB.get (r.1 + j) = some (.flat (renL (fun j => (r.1 + j, 0)) bq.1) bq.2)
  dis : rs.Pairwise fun a b => a.1 + a.2.2.2.length ≤ b.1

theorem fillAll_spec {m : ML} {q : FQ} {c : CallT} {fa : Fr} {H : Hp} {rt : Nat} : ∀ (es : Es) (hA hB : Hp) (rs : List Fe), fillAll m q c fa H rt es hA = .ok (hB, rs) → FAll m q c fa H rt es hA hB rs
  | [], hA, hB, rs, hx => by
    cases hx
    exact ⟨Nat.le_refl _, rfl, fun _ _ => rfl, rfl, (fun i kv hi => by simp at hi), (fun r hr => by cases hr), (fun r hr => by cases hr), .nil⟩
  | kv :: l, hA, hB, rs, hx => by
    unfold fillAll at hx
    split at hx
    · cases hx
    · rename_i r hr
      cases hb : Nat.beq r.1 rt with
      | false => rw [hb] at hx; cases hx
      | true =>
      rw [hb, ifb_true, natF_eq] at hx
      rw [Bx.eta (addAll _ _ _), Bx.bd_mk] at hx
      obtain ⟨a1, a2, a3, a4⟩ := addAll_spec (fun j => (Nat.add hA.n j, 0)) r.2.2.2 hA
      generalize (addAll (fun j => (Nat.add hA.n j, 0)) r.2.2.2 hA).out = hA2 at hx a1 a2 a3 a4
      split at hx
      · cases hx
      · rename_i p hp
        cases hx
        have ih := fillAll_spec l hA2 p.1 p.2 hp
        have hn := ih.n
        refine ⟨by omega, ih.lk.trans a2, fun b hb => (ih.old b (by omega)).trans (a3 b hb), by simp [ih.len], fun i kv' hi => ?_, fun r' hr' => ?_, fun r' hr' j bq hj => ?_, ?_⟩
        · cases i with
          | zero =>
            simp at hi; subst hi
            refine ⟨_, rfl, ?_⟩
            rw [hr, ← beq_iff.1 hb]
          | succ i => simpa using ih.run i kv' (by simpa using hi)
        · rcases List.mem_cons.1 hr' with rfl | hr'
          · exact ⟨Nat.le_refl _, by show hA.n + r.2.2.2.length ≤ p.1.n; omega⟩
          · have := ih.lo r' hr'
            exact ⟨by omega, this.2⟩
        · rcases List.mem_cons.1 hr' with rfl | hr'
          · have hj : r.2.2.2[j]? = some bq := hj
            have hlt := (List.getElem?_eq_some_iff.1 hj).1
            show p.1.get (hA.n + j) = _
            rw [ih.old _ (by omega)]
            exact a4 j bq hj
          · exact ih.at' r' hr' j bq hj
        · refine List.pairwise_cons.2 ⟨fun r' hr' => ?_, ih.dis⟩
          have := (ih.lo r' hr').1
          show hA.n + r.2.2.2.length ≤ r'.1
          omega

/-- The entry that a round puts. -/
noncomputable def entA (r : Fe) : AV × AV := (r.2.1, r.2.2.1.ren fun j => (r.1 + j, 0))
theorem entsB_eq : ∀ rs : List Fe, entsB rs = .mk (rs.map entA)
  | [] => rfl
  | e :: l => by
    unfold entsB
    rw [force_eq, entsB_eq l]
    rfl
theorem okKs_spec : ∀ {es : Es}, okKs es = true → keysOk es
  | [], _ => .nil
  | e :: l, h => by
    unfold okKs at h
    rw [Bool.and_eq_true, List.all_eq_true] at h
    refine List.pairwise_cons.2 ⟨fun x hx => ?_, okKs_spec h.2⟩
    have h1 := h.1 x hx
    rw [Bool.and_eq_true] at h1
    have key : ∀ o : Option Bool, okF o = true → o = some false := fun o ho => by
      cases o with
      | none => cases ho
      | some b => cases b with
        | false => rfl
        | true => cases ho
    exact ⟨key _ h1.1, key _ h1.2⟩

theorem hasMap_path {rt : Nat} : ∀ {f : Fr}, hasMap rt f = true → ∃ p, getP p f = some (.map rt)
  | .e, h => by cases h
  | .n l r v, h => by
    have e : ∀ v : Option AV, hasMap rt (.n l r v) = or (match v with
      | some (.map b) => Nat.beq b rt
      | _ => false) (or (hasMap rt l) (hasMap rt r)) := fun _ => rfl
    rw [e, Bool.or_eq_true, Bool.or_eq_true] at h
    rcases h with h | h | h
    · split at h
      · rename_i b
        exact ⟨[], by rw [← beq_iff.1 h]; rfl⟩
      · cases h
    · obtain ⟨p, hp⟩ := hasMap_path h
      exact ⟨true :: p, hp⟩
    · obtain ⟨p, hp⟩ := hasMap_path h
      exact ⟨false :: p, hp⟩
theorem hasMap_spec {rt : Nat} {f : Fr} (h : hasMap rt f = true) : ∃ t, slot f t = .map rt := by
  obtain ⟨p, hp⟩ := hasMap_path h
  exact ⟨unpath p, by rw [slot_path, hp]; rfl⟩

theorem fillEs_spec {m : ML} {q : FQ} {c : CallT} {f : Fr} {h : Hp} {r : Nat} {es : Es} : (∃ w, fillEs m q c f h r es = .no w) ∨
    ∃ rt est hA rs, (∃ t, slot f t = .map rt) ∧ h.get rt = some (.map est) ∧ h.okw rt = true ∧ rt ≠ r ∧ FAll m q c (anyAll m.ds f).out ⟨setT (.sit 0 0 8) (path rt) h.t, h.n, ⟨h.n, []⟩⟩ rt es ⟨setT (.sit 0 0 8) (path rt) h.t, h.n, h.lk⟩ hA rs ∧
      keysOk (est ++ rs.map entA) ∧ fillEs m q c f h r es = .norm (anyAll m.ds f).out ⟨setT (.map (est ++ rs.map entA)) (path rt) hA.t, hA.n, hA.lk⟩ := by
  generalize ho : fillEs m q c f h r es = o
  unfold fillEs at ho
  rw [Bx.eta (anyAll m.ds f), Bx.bd_mk] at ho
  split at ho
  · exact .inl ⟨_, ho.symm⟩
  · rename_i kv l
    split at ho
    · exact .inl ⟨_, ho.symm⟩
    · rename_i r0 hr0
      unfold Hp.onMap at ho
      cases hg : h.get r0.1 with
      | none => rw [hg] at ho; exact .inl ⟨_, ho.symm⟩
      | some blk =>
      rw [hg] at ho
      cases blk with
      | flat _ _ => exact .inl ⟨_, ho.symm⟩
      | grown _ _ _ _ => exact .inl ⟨_, ho.symm⟩
      | sit _ _ _ => exact .inl ⟨_, ho.symm⟩
      | lp _ => exact .inl ⟨_, ho.symm⟩
      | map est =>
      have ho : ifb (and (hasMap r0.1 f) (and (h.okw r0.1) (not (Nat.beq r0.1 r)))) ((h.put r0.1 (.sit 0 0 8)).bd fun hb =>
          match fillAll m q c (anyAll m.ds f).out ⟨hb.t, hb.n, ⟨hb.n, []⟩⟩ r0.1 (kv :: l) hb with
          | .no w => .no w
          | .ok p => (entsB p.2).bd fun ens => (appS est ens).bd fun esn => ifb (okKs esn) ((p.1.put r0.1 (.map esn)).bd fun hf => .norm (anyAll m.ds f).out hf) (.no "fill: keys")) (.no "fill: locked") = o := ho
      cases hc : and (hasMap r0.1 f) (and (h.okw r0.1) (not (Nat.beq r0.1 r))) with
      | false => rw [hc] at ho; exact .inl ⟨_, ho.symm⟩
      | true =>
      rw [hc, ifb_true, Hp.put_eq, Bx.bd_mk] at ho
      simp only at ho
      rw [Bool.and_eq_true, Bool.and_eq_true, Bool.not_eq_true'] at hc
      split at ho
      · exact .inl ⟨_, ho.symm⟩
      · rename_i p hp
        rw [entsB_eq, Bx.bd_mk, appS_eq, Bx.bd_mk] at ho
        cases hk : okKs (est ++ p.2.map entA) with
        | false => rw [hk] at ho; exact .inl ⟨_, ho.symm⟩
        | true =>
        rw [hk, ifb_true, Hp.put_eq, Bx.bd_mk] at ho
        exact .inr ⟨r0.1, est, p.1, p.2, hasMap_spec hc.1, hg, hc.2.1, (fun hh => by rw [beq_iff.2 hh] at hc; cases hc.2.2), fillAll_spec _ _ _ _ hp, okKs_spec hk, ho.symm⟩


/-! ### What a round comes to -/
theorem BR.sitAny {e e' : Emb} {n k p g : Nat} {x : Loc} {ob : Option Obj} (h : BR e (.sit n k p) g x ob) : BR e' (.sit n k p) g x ob := by
  cases h with
  | cells c t fr q => exact q.cells.elim
  | map es es' clock l a _ _ _ _ _ => cases a
  | sit s pos a b c => exact .sit s pos a b c
  | iter m since seen stepped a b c => exact .iter m since seen stepped a b c
  | lp q0 fn0 tm0 df0 a => cases a
  | busy o a b c => exact .busy o a b c
  | dfr a b c => exact .dfr a b c

theorem keyPrim_closed {k : AV} (h : keyPrim k = true) : k.closed = true := by
  cases k <;> first | rfl | (exact absurd h (by decide)) | skip
  all_goals (first | (have h : false = true := h; cases h) | rfl)

theorem findK_miss {k : AV} : ∀ {es : Es} {i : Nat}, (∀ x ∈ es, keyEq k x.1 = some false) → findK k es i = some none
  | [], _, _ => rfl
  | x :: l, i, h => by
    show Option.rec (motive := fun _ => Option (Option (Nat × AV))) none (fun b => ifb b (some (some (i, x.2))) (findK k l (Nat.succ i))) (keyEq k x.1) = _
    rw [h x (.head _)]
    exact findK_miss fun y hy => h y (.tail _ hy)

/-- An entry is put into a map that has no such key. -/
theorem put_new {o : Oper} {t : TypeId} {x y z : Operand} (ho : o.op = .mapUpdate t x y z) (hd : o.dst = none) {kd : Nat} (hkd : keyKd C t = some kd) {a : Act} {w : World} {bt : Nat} {esw : Array MapEntry} {clk : Nat} (hm : a.eval x = .map (some bt)) (hb : w.heap[bt]? = some (.map esw clk))
    {e1 e2 : Emb} {k : AV} (hk : VR e1 k (a.eval y)) (hki : keyIs kd k = true) {es : Es} {l : List (Value × Value)} (hl : ERL e2 es l) (hp : l.Perm (esw.toList.map fun m => (m.key, m.val))) (hok : keysOk es) (hn : ∀ x ∈ es, keyEq k x.1 = some false) {K : Act → World → Prop} {Q : Exit → Act → World → Prop}
    (hK : K a { w with heap := w.heap.setIfInBounds bt (.map (esw.push { key := a.eval y, val := a.eval z, born := clk }) (clk + 1)) }) : o.ow C.P a w K Q := by
  obtain ⟨kt, el, d, u1, u2, kdd⟩ := keyKd_spec hkd
  obtain ⟨kv, kp⟩ := keyIs_spec hk kdd hki
  rcases find_sim hl hp hok kv (findK_miss hn (i := 0)) with ⟨_, f1, f2, _⟩ | ⟨i, v0, j, m, hh, _⟩
  · refine wp_skp (w' := { w with heap := w.heap.setIfInBounds bt (.map (esw.push { key := a.eval y, val := a.eval z, born := clk }) (clk + 1)) }) ?_ (by rw [hd]; exact hK)
    simp only [execOp, ho, Instr.mapUpdate, Sem.run_bind, run_und u1, hm, MapKept.run_getObj_map hb, run_checkKeyA u2 kdd, run_findKey u2 f1, Result.andThen_ok, MapKept.run_setObj_map _ hb, Sem.run_pure]
  · cases hh

/-- A heap in which so much is put. -/
noncomputable def hSt (rt : Nat) (est : Es) (hA : Hp) (S : List Fe) : Hp := ⟨setT (.map (est ++ S.map entA)) (path rt) hA.t, hA.n, hA.lk⟩
theorem hSt_get (rt : Nat) (est : Es) (hA : Hp) (S : List Fe) (b : Nat) : (hSt rt est hA S).get b = if b = rt then some (.map (est ++ S.map entA)) else hA.get b := Hp.get_set _ _ hA.n _ _ _

/-- What stays the same. -/
structure FillAt (C : Cx) (n : Nat) (m : ML) (q : FQ) (c : CallT) (e : Emb) (h : Hp) (w1 : World) (f : Fr) (es : Es) (rt : Nat) (xt : Loc) (est : Es) (hA : Hp) (rs : List Fe) (bm : Nat) : Prop where
  hr : HR e h w1
  ht : e rt 0 = some xt
  gt : h.get rt = some (.map est)
  okt : h.okw rt = true
  ne : xt.r ≠ bm
  all : FAll m q c (anyAll m.ds f).out ⟨setT (.sit 0 0 8) (path rt) h.t, h.n, ⟨h.n, []⟩⟩ rt es ⟨setT (.sit 0 0 8) (path rt) h.t, h.n, h.lk⟩ hA rs
  keys : keysOk (est ++ rs.map entA)
  own : ∀ p ∈ setsR q.1, p ∈ m.ds

/-- Between two rounds. -/
structure Fd (ds : List Deferred) (n : Nat) (m : ML) (e : Emb) (h : Hp) (w1 : World) (f : Fr) (N I bm clock : Nat) (es : Es) (l : List (Value × Value)) (es' : Array MapEntry) (rt : Nat) (est : Es) (hA : Hp) (rs : List Fe) (S : List Fe) (L : List Nat) (eS : Emb) (a : Act) (w : World) : Prop where
  ext : Ext e h w1 eS (hSt rt est hA S) w
  base : ∀ b g x, e b g = some x → b ≠ rt → b ≠ N → w.heap[x.r]? = w1.heap[x.r]?
  dom : ∀ b g x, eS b g = some x → b < h.n ∨ ∃ r ∈ S, r.1 ≤ b ∧ b < r.1 + r.2.2.2.length
  fn : FN ds n e (anyAll m.ds f).out a
  map : w.heap[bm]? = some (.map es' clock)
  iter : ∃ seen, w.heap[I]? = some (.mapIter (some bm) clock seen clock) ∧ (L.map fun i => l[i]?).Perm ((leftOf es' seen).toList.map fun m => some (m.key, m.val))
  lt : ∀ i ∈ L, i < es.length
  perm : (S.map some ++ L.map fun i => rs[i]?).Perm (rs.map some)

section
variable {n : Nat} {m : ML} {q : FQ} {c : CallT} {e : Emb} {h : Hp} {w1 : World} {f : Fr} {es : Es} {rt : Nat} {xt : Loc} {est : Es} {hA : Hp} {rs : List Fe} {bm : Nat}

/-- Ahead of a round: what was there, with the map that is filled left out. -/
theorem fill_base (F : FillAt C n m q c e h w1 f es rt xt est hA rs bm) {N : Nat} {xN : Loc} (hN : e N 0 = some xN) (bN : h.get N = some (.sit 0 0 7)) {S : List Fe} {eS : Emb} {w2 : World} (x2 : Ext e h w1 eS (hSt rt est hA S) w2)
    (base : ∀ b g x, e b g = some x → b ≠ rt → b ≠ N → w2.heap[x.r]? = w1.heap[x.r]?) : HR e (⟨setT (.sit 0 0 8) (path rt) h.t, h.n, ⟨h.n, []⟩⟩ : Hp) w2 := by
  have hget : ∀ b, (⟨setT (.sit 0 0 8) (path rt) h.t, h.n, ⟨h.n, []⟩⟩ : Hp).get b = if b = rt then some (.sit 0 0 8) else h.get b := fun b => Hp.get_set _ _ h.n _ _ _
  refine ⟨fun b g x b' g' x' h1 h2 hh => x2.hr.inj _ _ _ _ _ _ (x2.le _ _ _ h1) (x2.le _ _ _ h2) hh, fun b g x hx => ⟨(x2.hr.lt _ _ _ (x2.le _ _ _ hx)).1, (F.hr.lt _ _ _ hx).2⟩, fun b g x hx => ?_⟩
  obtain ⟨blk, k1, k2⟩ := F.hr.at' b g x hx
  by_cases hb : b = rt
  · subst hb
    refine ⟨_, by rw [hget, if_pos rfl], ?_⟩
    have hlt := (x2.hr.lt _ _ _ (x2.le _ _ _ hx)).1
    rw [Array.getElem?_eq_getElem hlt]
    rw [F.gt] at k1; cases k1
    generalize w1.heap[x.r]? = ob at k2
    cases k2 with
    | cells c t fr q => exact q.cells.elim
    | map es es' clock l a g0 _ _ _ _ mb => exact .busy _ rfl g0 mb
    | sit s pos a b c => cases a
    | iter _ _ _ _ a _ _ => cases a
    | lp q0 fn0 tm0 df0 a => cases a
    | busy o a b c => cases a
    | dfr a b c => cases a
  · by_cases hb2 : b = N
    · subst hb2
      obtain ⟨blk2, j1, j2⟩ := x2.hr.at' b g x (x2.le _ _ _ hx)
      refine ⟨.sit 0 0 7, by rw [hget, if_neg hb]; exact bN, ?_⟩
      rw [hSt_get, if_neg hb] at j1
      have hlt := (F.hr.lt _ _ _ hx).2
      rw [F.all.old b hlt, show (⟨setT (.sit 0 0 8) (path rt) h.t, h.n, h.lk⟩ : Hp).get b = h.get b from (Hp.get_set _ _ h.n _ _ _).trans (if_neg hb), bN] at j1
      cases j1
      exact j2.sitAny
    · refine ⟨blk, by rw [hget, if_neg hb]; exact k1, ?_⟩
      rw [base b g x hx hb hb2]
      exact k2

/-- Names of a round's own blocks. -/
noncomputable def embR (hn : Nat) (r : Fe) (eS e1 : Emb) : Emb := fun b g => if r.1 ≤ b ∧ b < r.1 + r.2.2.2.length then (if g = 0 then e1 (hn + (b - r.1)) 0 else none) else eS b g

/-- Behind a round's operations, ahead of what it puts. -/
theorem fill_after (F : FillAt C n m q c e h w1 f es rt xt est hA rs bm) {S : List Fe} {eS : Emb} {w2 : World} (x2 : Ext e h w1 eS (hSt rt est hA S) w2) (dom : ∀ b g x, eS b g = some x → b < h.n ∨ ∃ r ∈ S, r.1 ≤ b ∧ b < r.1 + r.2.2.2.length)
    {r : Fe} (hrs : r ∈ rs) (hdis : ∀ r' ∈ S, r.1 + r.2.2.2.length ≤ r'.1 ∨ r'.1 + r'.2.2.2.length ≤ r.1)
    {e1 : Emb} {h4 : Hp} {w4 : World} (x4 : Ext e (⟨setT (.sit 0 0 8) (path rt) h.t, h.n, ⟨h.n, []⟩⟩ : Hp) w2 e1 h4 w4) (hbs : blksOK (fun j => (h.n + j, 0)) h4 h.n (argMu h.n (h4.n - h.n)) r.2.2.2 = true) :
    (∀ k, k < w2.heap.size → w4.heap[k]? = w2.heap[k]?) ∧ (∀ i x, e1 (h.n + i) 0 = some x → embR h.n r eS e1 (r.1 + i) 0 = some x) ∧ eS.le (embR h.n r eS e1) ∧ Ext e h w1 (embR h.n r eS e1) (hSt rt est hA S) w4 := by
  obtain ⟨l1, l2, l3, l4⟩ := blksOK_spec hbs
  rw [argMu_length] at l1
  have hlo := F.all.lo r hrs
  have hlo : h.n ≤ r.1 ∧ r.1 + r.2.2.2.length ≤ hA.n := hlo
  have hrt := (F.hr.lt _ _ _ F.ht).2
  have hsame : ∀ k, k < w2.heap.size → w4.heap[k]? = w2.heap[k]? := fun k hk => x4.frame k hk fun b g x hx _ => lock_ro (hm := ⟨setT (.sit 0 0 8) (path rt) h.t, h.n, ⟨h.n, []⟩⟩) (F.hr.lt _ _ _ hx).2 (fun hh => by cases hh)
  have hnone : ∀ b g x, eS b g = some x → ¬ (r.1 ≤ b ∧ b < r.1 + r.2.2.2.length) := fun b g x hx hh => by
    rcases dom b g x hx with hb | ⟨r', hr', hb⟩
    · omega
    · have := hdis r' hr'
      omega
  have hnew : ∀ b g x, r.1 ≤ b → b < r.1 + r.2.2.2.length → embR h.n r eS e1 b g = some x → g = 0 ∧ e1 (h.n + (b - r.1)) 0 = some x := fun b g x h1 h2 hx => by
    unfold embR at hx
    rw [if_pos ⟨h1, h2⟩] at hx
    by_cases hg : g = 0
    · rw [if_pos hg] at hx; exact ⟨hg, hx⟩
    · rw [if_neg hg] at hx; cases hx
  have hold : ∀ b g, ¬ (r.1 ≤ b ∧ b < r.1 + r.2.2.2.length) → embR h.n r eS e1 b g = eS b g := fun b g hh => by unfold embR; rw [if_neg hh]
  have hk : ∀ i x, e1 (h.n + i) 0 = some x → embR h.n r eS e1 (r.1 + i) 0 = some x := fun i x hx => by
    have h1 := (x4.hr.lt _ _ _ hx).2
    unfold embR
    rw [if_pos ⟨by omega, by omega⟩, if_pos rfl, Nat.add_sub_cancel_left]
    exact hx
  have hle : eS.le (embR h.n r eS e1) := fun b g x hx => by rw [hold b g (hnone b g x hx)]; exact hx
  have hfresh : ∀ i x, e1 (h.n + i) 0 = some x → w2.heap.size ≤ x.r := fun i x hx => by
    rcases x4.blocks _ _ _ hx with ⟨g0, x0, h0, _⟩ | h0
    · have := (F.hr.lt _ _ _ h0).2
      omega
    · exact h0
  have hcase : ∀ b g x, embR h.n r eS e1 b g = some x → (¬ (r.1 ≤ b ∧ b < r.1 + r.2.2.2.length) ∧ eS b g = some x) ∨ ((r.1 ≤ b ∧ b < r.1 + r.2.2.2.length) ∧ g = 0 ∧ e1 (h.n + (b - r.1)) 0 = some x) := fun b g x hx => by
    by_cases hh : r.1 ≤ b ∧ b < r.1 + r.2.2.2.length
    · exact .inr ⟨hh, hnew b g x hh.1 hh.2 hx⟩
    · exact .inl ⟨hh, by rw [← hold b g hh]; exact hx⟩
  refine ⟨hsame, hk, hle, x2.le.trans hle, ⟨?_, ?_, ?_⟩, ?_, ?_, ?_, x2.ours, x2.ro, x2.n, Nat.le_trans x2.size x4.size, x4.os.trans x2.os, x4.output.trans x2.output, x2.lk⟩
  · intro b g x b' g' x' hx hx' hrr
    rcases hcase _ _ _ hx with ⟨k1, k2⟩ | ⟨k1, rfl, k2⟩ <;> rcases hcase _ _ _ hx' with ⟨j1, j2⟩ | ⟨j1, rfl, j2⟩
    · exact x2.hr.inj _ _ _ _ _ _ k2 j2 hrr
    · have := hfresh _ _ j2
      have := (x2.hr.lt _ _ _ k2).1
      omega
    · have := hfresh _ _ k2
      have := (x2.hr.lt _ _ _ j2).1
      omega
    · have := x4.hr.inj _ _ _ _ _ _ k2 j2 hrr
      exact ⟨by omega, this.2⟩
  · intro b g x hx
    rcases hcase _ _ _ hx with ⟨k1, k2⟩ | ⟨k1, rfl, k2⟩
    · have := x2.hr.lt _ _ _ k2
      exact ⟨Nat.lt_of_lt_of_le this.1 x4.size, this.2⟩
    · exact ⟨(x4.hr.lt _ _ _ k2).1, by show b < hA.n; omega⟩
  · intro b g x hx
    rcases hcase _ _ _ hx with ⟨k1, k2⟩ | ⟨k1, rfl, k2⟩
    · obtain ⟨blk, j1, j2⟩ := x2.hr.at' _ _ _ k2
      refine ⟨blk, j1, ?_⟩
      rw [hsame _ (x2.hr.lt _ _ _ k2).1]
      exact j2.mono hle
    · obtain ⟨blk, j1, j2⟩ := x4.hr.at' _ _ _ k2
      have hlt := (x4.hr.lt _ _ _ k2).2
      have hq : r.2.2.2[b - r.1]? = some (r.2.2.2[b - r.1]'(by omega)) := List.getElem?_eq_getElem _
      generalize r.2.2.2[b - r.1]'(by omega) = bq at hq
      have hp : (argMu h.n (h4.n - h.n))[b - r.1]? = some (h.n + (b - r.1), 0) := by rw [argMu_get, if_pos (by omega)]
      have hblk := l4 _ _ _ hp hq
      refine ⟨.flat (renL (fun j => (r.1 + j, 0)) bq.1) bq.2, ?_, BR.ofBlk (ρ1 := fun j => (h.n + j, 0)) (ρ2 := fun j => (r.1 + j, 0)) hk hblk j1 j2⟩
      rw [hSt_get, if_neg (by omega)]
      have := F.all.at' r hrs _ _ hq
      rwa [show r.1 + (b - r.1) = b by omega] at this
  · intro b g x hx
    rcases hcase _ _ _ hx with ⟨k1, k2⟩ | ⟨k1, _⟩
    · exact x2.names _ _ _ k2
    · exact .inr (by omega)
  · intro b g x hx
    rcases hcase _ _ _ hx with ⟨k1, k2⟩ | ⟨k1, rfl, k2⟩
    · exact x2.blocks _ _ _ k2
    · exact .inr (Nat.le_trans x2.size (hfresh _ _ k2))
  · intro k hk2 hro
    rw [hsame k (Nat.lt_of_lt_of_le hk2 x2.size)]
    exact x2.frame k hk2 hro
end

theorem ERL.permF {e : Emb} {es es2 : Es} {l : List (Value × Value)} (h : ERL e es l) (hp : (es : List (AV × AV)).Perm es2) : ∃ l2, ERL e es2 l2 ∧ l.Perm l2 := by
  induction hp generalizing l with
  | nil => exact ⟨l, h, .refl _⟩
  | cons x _ ih =>
    cases h with
    | cons k v k' v' _ l' a b c d =>
      obtain ⟨l2, h1, h2⟩ := ih d
      exact ⟨_ :: l2, .cons _ _ _ _ _ _ a b c h1, h2.cons _⟩
  | swap x y _ =>
    cases h with
    | cons k v k' v' _ l' a b c d =>
      cases d with
      | cons k2 v2 k2' v2' _ l2 a2 b2 c2 d2 => exact ⟨_, .cons _ _ _ _ _ _ a2 b2 c2 (.cons _ _ _ _ _ _ a b c d2), .swap _ _ _⟩
  | trans _ _ ih1 ih2 =>
    obtain ⟨l2, h1, h2⟩ := ih1 h
    obtain ⟨l3, h3, h4⟩ := ih2 h1
    exact ⟨l3, h3, h2.trans h4⟩
theorem keys_sym (a b : AV × AV) (h : keyEq a.1 b.1 = some false ∧ keyEq b.1 a.1 = some false) : keyEq b.1 a.1 = some false ∧ keyEq a.1 b.1 = some false := ⟨h.2, h.1⟩

/-- The list that is left, and what comes of it. -/
theorem perm_take {rs S : List Fe} {L : List Nat} (hp : (S.map some ++ L.map fun i => rs[i]?).Perm (rs.map some)) {i : Nat} (hi : i ∈ L) {r : Fe} (hr : rs[i]? = some r) :
    ((S ++ [r]).map some ++ (L.erase i).map fun i => rs[i]?).Perm (rs.map some) ∧ ∃ T : List Fe, (S ++ (r :: T)).Perm rs := by
  have h1 : (L.map fun i => rs[i]?).Perm (rs[i]? :: (L.erase i).map fun i => rs[i]?) := (List.perm_cons_erase hi).map fun i => rs[i]?
  have h2 : ((S ++ [r]).map some ++ (L.erase i).map fun i => rs[i]?).Perm (rs.map some) := by
    rw [List.map_append, List.append_assoc]
    refine List.Perm.trans (List.Perm.append_left _ ?_) hp
    rw [hr] at h1
    exact h1.symm
  refine ⟨h2, ?_⟩
  have h3 : ∀ (A : List (Option Fe)) (B : List Fe), A.Perm (B.map some) → ∃ A' : List Fe, A = A'.map some := by
    intro A B hAB
    refine ⟨A.filterMap id, ?_⟩
    have hall : ∀ o ∈ A, ∃ x, o = some x := fun o ho => by
      obtain ⟨x, _, hx⟩ := List.mem_map.1 (hAB.mem_iff.1 ho)
      exact ⟨x, hx.symm⟩
    clear hAB
    induction A with
    | nil => rfl
    | cons o A ih =>
      obtain ⟨x, rfl⟩ := hall _ (.head _)
      simp only [List.filterMap_cons_some (show id (some x) = some x from rfl), List.map_cons]
      rw [← ih fun o ho => hall o (.tail _ ho)]
  obtain ⟨A', hA'⟩ := h3 _ _ h2
  have h4 : (A'.map some).Perm (rs.map some) := hA' ▸ h2
  have h5 : A'.Perm rs := by
    have := h4.filterMap id
    have hid : ∀ l : List Fe, (l.map some).filterMap id = l := fun l => by
      induction l with
      | nil => rfl
      | cons x l ih => simp only [List.map_cons, List.filterMap_cons_some (show id (some x) = some x from rfl), ih]
    rwa [hid, hid] at this
  have h6 : ∃ T, A' = (S ++ [r]) ++ T := by
    have hlen : ((S ++ [r]).map some).length = (S ++ [r]).length := List.length_map ..
    refine ⟨A'.drop (S ++ [r]).length, ?_⟩
    have hinj : ∀ {a b : List Fe}, a.map some = b.map some → a = b := fun {a b} hab => by
      have := congrArg (List.filterMap id) hab
      have hid : ∀ l : List Fe, (l.map some).filterMap id = l := fun l => by
        induction l with
        | nil => rfl
        | cons x l ih => simp only [List.map_cons, List.filterMap_cons_some (show id (some x) = some x from rfl), ih]
      rwa [hid, hid] at this
    have htake : A'.take (S ++ [r]).length = S ++ [r] := hinj (by
      rw [List.map_take, ← hA', ← hlen, List.take_left])
    conv => lhs; rw [← List.take_append_drop (S ++ [r]).length A', htake]
  obtain ⟨T, rfl⟩ := h6
  exact ⟨T, by simpa using h5⟩

section
variable {ds : List Deferred} {n : Nat} {m : ML} {b : CC} {q : FQ} {c : CallT} {it nx mr : Nat} {e : Emb} {h : Hp} {w1 : World} {f : Fr} {N I rm bm clock : Nat} {xN xm xt : Loc} {es : Es} {l : List (Value × Value)} {es' : Array MapEntry} {rt : Nat} {est : Es} {hA : Hp} {rs : List Fe}

/-- What a round looks like that ends by putting an entry. -/
structure FillBody (C : Cx) (n : Nat) (m : ML) (q : FQ) (it : Nat) (body : Code) (pr id2 id3 : Nat) (ops2 ops3 : Array Oper) (oe oU : Oper) (ents pre : List Oper) (t : TypeId) (x y z : Nat) : Prop where
  hbody : body = .seq (.region id2 ops2 false) (.region id3 ops3 false)
  ops2' : ops2.toList = oe :: ents
  oe' : oe.op = .entry (.tmp it)
  sl : slotOK n oe = some pr
  mpr : m.pr = some (path pr)
  ment : m.ent = mkSeq C n ops2.toList ents
  ops3' : ops3.toList = pre ++ [oU]
  oU' : oU.op = .mapUpdate t (.tmp x) (.tmp y) (.tmp z)
  gU : oU.guard = none
  dU : oU.dst = none
  kd : keyKd C t = some q.2.1
  q1 : q.1 = mkSeq C n ops3.toList pre
  qx : q.2.2.1 = path x
  qy : q.2.2.2.1 = path y
  qz : q.2.2.2.2 = path z

theorem fill_round {R : Option Nat → Prop} {body : Code} {pr id2 id3 : Nat} {ops2 ops3 : Array Oper} {oe oU : Oper} {ents pre : List Oper} {t : TypeId} {x y z : Nat} (B : FillBody C n m q it body pr id2 id3 ops2 ops3 oe oU ents pre t x y z) (hc : CallOK C c) {kv : AV × AV} {fs f3 f4 : Fr} {hl h3 h4 : Hp} {e : Emb} {a : Act} {w : World} {I bm clock : Nat} {seen : Array Nat} {es' : Array MapEntry} {en : MapEntry} {Q : Exit → Act → World → Prop}
    (hg : GR C e) (hf : FN ds n e fs a) (hr : HR e hl w) (hit : a.eval (.tmp it) = .pointer (some ⟨I, 0, none⟩)) (hI : w.heap[I]? = some (.mapIter (some bm) clock (seen.push en.born) clock)) (hbm : w.heap[bm]? = some (.map es' clock)) (hen : en ∈ es'.toList) (hnd : (es'.toList.map (·.born)).Nodup) (v1 : VR e kv.1 en.key) (v2 : VR e kv.2 en.val)
    (hx : runR m.ent c (entF m.pr kv fs).out hl = .norm f3 h3) (hx2 : runR q.1 c f3 h3 = .norm f4 h4)
    (hk : ∀ (e' : Emb) (a' : Act) (w' : World), Ext e hl w e' h4 w' → FN ds n e' f4 a' → oU.ow C.P a' w' (fun a w => Q .normal a w) Q) : body.ow R C.P Q a w := by
  obtain ⟨g1, g2, g3⟩ := slotOK_spec B.sl
  have hops := B.ops2'
  have ho : ops2[0]? = some oe := by rw [← Array.getElem?_toList, hops]; rfl
  have hsz : ops2.size = ents.length + 1 := by rw [← Array.length_toList, hops]; rfl
  rw [B.hbody]
  refine ow_seq (ow_region ?_)
  rw [hsz, List.range_eq_range']
  show owOps C.P ops2 _ (0 :: List.range' 1 ents.length) a w
  rw [owOps_cons]
  refine owOp_val (v := .tuple #[en.key, en.val]) (w' := w) ho g1 ?_ ?_
  · have := run_entryM (P := C.P) w hI hbm hen hnd
    simp only [execOp, B.oe', hit, this, Sem.run_bind, Result.andThen_ok, Sem.run_pure]
  · rw [g2]
    have hfn : FN ds n e (entF m.pr kv fs).out (a.put (some pr) (.tuple #[en.key, en.val])) := by
      rw [B.mpr]
      show FN ds n e (setP (.tup [kv.1, kv.2]) (path pr) fs).out _
      rw [setP_eq]
      exact hf.put g3 (.tup _ [en.key, en.val] (.cons _ _ _ _ v1 (.cons _ _ _ _ v2 .nil)))
    have hl' : ∀ (i : Nat) (o : Oper), ents[i]? = some o → ops2[1 + i]? = some o := by
      intro i o hi
      rw [← Array.getElem?_toList, hops, Nat.add_comm 1 i]
      simpa using hi
    rw [B.ment] at hx
    have := seq_simK (C := C) hc (Q := Exit.then ((Code.region id3 ops3 false).ow R C.P Q) Q) (js := []) ents 1 hl' _ hl e _ w f3 h3 hg hfn hr hx fun e' a' w' hext hfn' => ?_
    · rw [List.append_nil] at this
      exact this
    · show (Code.region id3 ops3 false).ow R C.P Q a' w'
      refine ow_region ?_
      have hsz3 : ops3.size = pre.length + 1 := by rw [← Array.length_toList, B.ops3']; simp
      have hlast : ops3[pre.length]? = some oU := by rw [← Array.getElem?_toList, B.ops3']; simp
      have hpre : ∀ (i : Nat) (o' : Oper), pre[i]? = some o' → ops3[0 + i]? = some o' := by
        intro i o' hi
        rw [← Array.getElem?_toList, B.ops3', Nat.zero_add, List.getElem?_append_left (List.getElem?_eq_some_iff.1 hi).1]
        exact hi
      have hrange : List.range ops3.size = List.range' 0 pre.length ++ [pre.length] := by
        rw [hsz3, List.range_succ, List.range_eq_range']
      rw [hrange]
      rw [B.q1] at hx2
      refine seq_simK hc pre 0 hpre f3 h3 e' a' w' f4 h4 (hg.mono hext.le) hfn' hext.hr hx2 fun e2 a2 w2 x2 fn2 => ?_
      rw [owOps_cons]
      unfold owOp
      simp only [hlast]
      rw [if_pos (by simp [Region.wanted, B.gU])]
      exact .inl (hk e2 a2 w2 (hext.trans x2) fn2)

/-- All rounds, in whatever order. -/
theorem rounds_fill {R : Option Nat → Prop} (M : MapAt C n m b it nx mr e h w1 f [] [] N I rm bm clock xN xm es l es') (F : FillAt C n m q c e h w1 f es rt xt est hA rs bm) (hc : CallOK C c) {body : Code}
    {pr id2 id3 : Nat} {ops2 ops3 : Array Oper} {oe oU : Oper} {ents pre : List Oper} {t : TypeId} {x y z : Nat} (B : FillBody C n m q it body pr id2 id3 ops2 ops3 oe oU ents pre t x y z)
    {id1 out nxt : Nat} {ops1 : Array Oper} {o1 o2 : Oper} (hops : ops1.toList = [o1, o2]) (ho1 : o1.op = .next (.tmp it) false) (hs1 : slotOK n o1 = some nx) (ho2 : o2.op = .extract (.tmp nx) 0) (hs2 : slotOK n o2 = some mr)
    {Q : Exit → Act → World → Prop} (hQ : ∀ eS a w, Ext e h w1 eS (hSt rt est hA rs) w → FN ds n eS (anyAll m.ds f).out a → Q (.exit out) a w) :
    ∀ (k : Nat) (L : List Nat), L.length = k → ∀ (S : List Fe) (eS : Emb) (a : Act) (w : World), Fd ds n m e h w1 f N I bm clock es l es' rt est hA rs S L eS a w → owL R C.P (.seq (.region id1 ops1 false) (.seq (.cond (.tmp mr) .skip (.exit out)) (.block nxt body))) Q a w := by
  intro k
  induction k using Nat.strongRecOn with
  | ind k ih =>
    intro L hL S eS a w D
    obtain ⟨g1, g2, g3⟩ := slotOK_spec hs1
    obtain ⟨i1, i2, i3⟩ := slotOK_spec hs2
    have e1 : ops1[0]? = some o1 := by rw [← Array.getElem?_toList, hops]; rfl
    have e2 : ops1[1]? = some o2 := by rw [← Array.getElem?_toList, hops]; rfl
    have hsz : ops1.size = 2 := by rw [← Array.length_toList, hops]; rfl
    have hit := iter_slot M (vs := []) D.fn
    obtain ⟨seen, hI, hperm⟩ := D.iter
    have hold : ∀ x ∈ es'.toList, x.born < clock := fun x hx => M.born.1 _ (List.mem_map.2 ⟨x, hx, rfl⟩)
    have hnd : (es'.toList.map (·.born)).Nodup := M.born.2
    have hslot : ∀ d : Nat, path d ∈ m.ds → slot (anyAll m.ds f).out d = anyA := fun d h1 => by rw [anyAll_slot, if_pos h1]
    have hNrt : N ≠ rt := fun hh => by have := M.bN; rw [hh, F.gt] at this; cases this
    have hNlt := (F.hr.lt _ _ _ M.hN).2
    have hrtlt := (F.hr.lt _ _ _ F.ht).2
    have hgetN : ∀ S, (hSt rt est hA S).get N = some (.sit 0 0 7) := fun S => by
      rw [hSt_get, if_neg hNrt, F.all.old N hNlt]
      exact (Hp.get_set _ _ h.n _ _ _).trans ((if_neg hNrt).trans M.bN)
    refine owL_step (ow_seq (ow_region ?_))
    rw [hsz]
    show owOps C.P ops1 _ [0, 1] a w
    rw [owOps_cons]
    rcases run_nextM (P := C.P) w o1.type hI D.map hold with ⟨h0, hrun⟩ | ⟨en, hen, w1', u1, u2, u3, hrun⟩
    · -- nothing is left
      refine owOp_val (v := .tuple #[.bool false]) (w' := w) e1 g1 (by simp only [execOp, ho1, hit, hrun, Sem.run_bind, Result.andThen_ok, Sem.run_pure]) ?_
      rw [g2, owOps_cons]
      have hf1 := D.fn.putAny (hslot nx M.nxds) (.tuple #[.bool false])
      have hev : (a.put (some nx) (.tuple #[.bool false])).eval (.tmp nx) = .tuple #[.bool false] := put_get (Nat.lt_of_lt_of_le g3 D.fn.2.1)
      refine owOp_val (v := .bool false) (w' := w) e2 i1 (by simp [execOp, ho2, hev, Instr.extract]) ?_
      rw [i2]
      have hf2 := hf1.putAny (hslot mr M.mrds) (.bool false)
      have hLn : L = [] := by
        have h1 := hperm.length_eq
        simp at h1
        have : L.length = 0 := by omega
        exact List.eq_nil_of_length_eq_zero this
      refine ow_seq (ow_cond_false (put_get (Nat.lt_of_lt_of_le i3 hf1.2.1)) (ow_exit ?_))
      -- the entries, in our order
      have hp : S.Perm rs := by
        have := D.perm
        rw [hLn, List.map_nil, List.append_nil] at this
        have := this.filterMap id
        have hid : ∀ l : List Fe, (l.map some).filterMap id = l := fun l => by
          induction l with
          | nil => rfl
          | cons x l ih => simp only [List.map_cons, List.filterMap_cons_some (show id (some x) = some x from rfl), ih]
        rwa [hid, hid] at this
      refine hQ eS _ w ?_ (hf2.mono D.ext.le)
      have hx := D.ext
      have hgr : ∀ b, b ≠ rt → (hSt rt est hA rs).get b = (hSt rt est hA S).get b := fun b hb => by rw [hSt_get, hSt_get, if_neg hb, if_neg hb]
      have hnro : ∀ b, h.ro b → b ≠ rt := fun b hb hh => by
        subst hh
        rcases hb.2 with ⟨l, hl, hl2⟩ | hl
        · rw [F.gt] at hl; cases hl; exact hl2.elim
        · rw [F.okt] at hl; cases hl
      refine ⟨hx.le, ⟨hx.hr.inj, hx.hr.lt, fun b g y hy => ?_⟩, hx.names, hx.blocks, hx.frame, fun b hb hno => ?_, fun b hb => ?_, hx.n, hx.size, hx.os, hx.output, hx.lk⟩
      · by_cases hb : b = rt
        · subst hb
          obtain ⟨blk, j1, j2⟩ := hx.hr.at' _ _ _ hy
          rw [hSt_get, if_pos rfl] at j1
          cases j1
          refine ⟨_, by rw [hSt_get, if_pos rfl], ?_⟩
          generalize w.heap[y.r]? = ob at j2
          cases j2 with
          | cells c t fr q => exact q.cells.elim
          | sit s pos a _ => cases a
          | iter _ _ _ _ a _ => cases a
          | lp q0 fn0 tm0 df0 a => cases a
          | busy o0 a => cases a
          | dfr a => cases a
          | map es2 es3 clk l2 a0 g0 q1 q2 q3 q4 q5 =>
            cases a0
            obtain ⟨l3, r1, r2⟩ := q1.permF ((hp.map entA).append_left est)
            exact .map _ _ _ l3 rfl g0 r1 (r2.symm.trans q2) F.keys q4 q5
        · obtain ⟨blk, j1, j2⟩ := hx.hr.at' _ _ _ hy
          exact ⟨blk, by rw [hgr b hb]; exact j1, j2⟩
      · by_cases hbr : b = rt
        · subst hbr
          have := hno 0
          rw [F.ht] at this; cases this
        · rw [hgr b hbr]; exact hx.ours b hb hno
      · rw [hgr b (hnro b hb)]; exact hx.ro b hb
    · -- an entry comes out
      have hx2 : Ext e h w1 eS (hSt rt est hA S) { w1' with heap := w1'.heap.setIfInBounds I (.mapIter (some bm) clock (seen.push en.born) clock) } :=
        D.ext.setIter M.hN (D.ext.le _ _ _ M.hN) (by rw [M.hNI]) M.bN (hgetN S) M.okN hI (by show w1'.heap.setIfInBounds I _ = _; rw [u1]) u2 u3
      refine owOp_val (v := .tuple #[.bool true, en.key, en.val]) (w' := { w1' with heap := w1'.heap.setIfInBounds I (.mapIter (some bm) clock (seen.push en.born) clock) }) e1 g1 (by simp only [execOp, ho1, hit, hrun, Sem.run_bind, Result.andThen_ok, Sem.run_pure]) ?_
      have hIlt : I < w.heap.size := (Array.getElem?_eq_some_iff.1 hI).1
      have hI2 : ({ w1' with heap := w1'.heap.setIfInBounds I (.mapIter (some bm) clock (seen.push en.born) clock) } : World).heap[I]? = some (.mapIter (some bm) clock (seen.push en.born) clock) := by
        show (w1'.heap.setIfInBounds I _)[I]? = _
        rw [u1]; simp [hIlt]
      have hbI : bm ≠ I := by
        intro hh
        have := D.map
        rw [hh, hI] at this; cases this
      have hm2 : ({ w1' with heap := w1'.heap.setIfInBounds I (.mapIter (some bm) clock (seen.push en.born) clock) } : World).heap[bm]? = some (.map es' clock) := by
        show (w1'.heap.setIfInBounds I _)[bm]? = _
        rw [u1, Array.getElem?_setIfInBounds_ne (Ne.symm hbI)]; exact D.map
      have hNI : xN.r = I := by rw [M.hNI]
      have base2 : ∀ b g x, e b g = some x → b ≠ rt → b ≠ N → ({ w1' with heap := w1'.heap.setIfInBounds I (.mapIter (some bm) clock (seen.push en.born) clock) } : World).heap[x.r]? = w1.heap[x.r]? := by
        intro b g x hx h1 h2
        show (w1'.heap.setIfInBounds I _)[x.r]? = _
        rw [u1, Array.getElem?_setIfInBounds_ne (fun hh => h2 (F.hr.inj _ _ _ _ _ _ hx M.hN (hh.symm.trans hNI.symm)).1)]
        exact D.base b g x hx h1 h2
      generalize ({ w1' with heap := w1'.heap.setIfInBounds I (.mapIter (some bm) clock (seen.push en.born) clock) } : World) = w2 at hx2 hI2 hm2 base2
      rw [g2, owOps_cons]
      have hf1 := D.fn.putAny (hslot nx M.nxds) (.tuple #[.bool true, en.key, en.val])
      have hev : (a.put (some nx) (.tuple #[.bool true, en.key, en.val])).eval (.tmp nx) = .tuple #[.bool true, en.key, en.val] := put_get (Nat.lt_of_lt_of_le g3 D.fn.2.1)
      refine owOp_val (v := .bool true) (w' := w2) e2 i1 (by simp [execOp, ho2, hev, Instr.extract]) ?_
      rw [i2]
      have hf2 := hf1.putAny (hslot mr M.mrds) (.bool true)
      refine ow_seq (ow_cond_true (put_get (Nat.lt_of_lt_of_le i3 hf1.2.1)) (ow_skip (ow_block ?_)))
      have hit2 := iter_slot M (vs := []) hf2
      -- which entry
      have hmem : some (en.key, en.val) ∈ (leftOf es' seen).toList.map fun m => some (m.key, m.val) := List.mem_map.2 ⟨en, hen, rfl⟩
      obtain ⟨i, hiL, hil⟩ := List.mem_map.1 (hperm.mem_iff.2 hmem)
      obtain ⟨kv, hkv, v1, v2⟩ := M.erl.getM hil
      have hpe : L.Perm (i :: L.erase i) := List.perm_cons_erase hiL
      have hen2 : en ∈ es'.toList := by
        unfold leftOf at hen
        rw [Array.toList_filter] at hen
        exact (List.mem_filter.1 hen).1
      obtain ⟨r, hri, hrunr⟩ := F.all.run i kv hkv
      obtain ⟨f3, h3, f4, h4, q1, q2, q3⟩ := fillR_spec hrunr
      obtain ⟨s1, s2, s3, s4, s5⟩ := fillE_spec q3
      have hHR := fill_base F M.hN M.bN hx2 base2
      refine fill_round B hc M.gr hf2 hHR hit2 hI2 hm2 hen2 hnd v1 v2 q1 q2 fun ea a4 w4 x4 fn4 => ?_
      have hrs : r ∈ rs := List.mem_of_getElem? hri
      obtain ⟨hp2, T, hT⟩ := perm_take D.perm hiL hri
      have hdis : ∀ r' ∈ S, r.1 + r.2.2.2.length ≤ r'.1 ∨ r'.1 + r'.2.2.2.length ≤ r.1 := fun r' hr' => by
        have h1 : (S ++ r :: T).Pairwise fun a b : Fe => a.1 + a.2.2.2.length ≤ b.1 ∨ b.1 + b.2.2.2.length ≤ a.1 := (hT.pairwise_iff fun {a b} hh => hh.symm).2 (F.all.dis.imp fun hh => .inl hh)
        exact ((List.pairwise_append.1 h1).2.2 r' hr' r (.head _)).symm
      obtain ⟨hsame, hk, hle, x5⟩ := fill_after F hx2 D.dom hrs hdis x4 s5
      have hF := x5.le _ _ _ F.ht
      obtain ⟨blk, j1, j2⟩ := x5.hr.at' rt 0 xt hF
      rw [hSt_get, if_pos rfl] at j1
      cases j1
      cases hob : w4.heap[xt.r]? with
      | none => rw [hob] at j2; cases j2
      | some ob =>
      rw [hob] at j2
      cases j2 with
      | cells c t fr q => exact q.cells.elim
      | sit s pos a _ => cases a
      | iter _ _ _ _ a _ => cases a
      | lp q0 fn0 tm0 df0 a => cases a
      | busy o0 a => cases a
      | dfr a => cases a
      | map es2 esw clk l2 a0 g0 p1 p2 p3 p4 mb =>
      cases a0
      have hev4 : ∀ d : Nat, a4.eval (.tmp d) = a4.tmps.getD d undef := fun d => by simp [Act.eval]
      have vx := fn4.1.1 x
      have vy := fn4.1.1 y
      have vz := fn4.1.1 z
      rw [← hev4] at vx vy vz
      rw [B.qx] at s1
      rw [B.qy] at s2
      rw [B.qz] at s4
      rw [show slot f4 x = AV.map rt from s1] at vx
      rw [show slot f4 y = r.2.1 from s2.symm] at vy
      rw [show slot f4 z = r.2.2.1.ren (fun j => (h.n + j, 0)) from s4] at vz
      have hmx : a4.eval (.tmp x) = .map (some xt.r) := by
        generalize a4.eval (.tmp x) = u at vx
        cases vx with
        | map _ yl k1 k2 =>
          have := x4.le _ _ _ F.ht
          rw [k1] at this; cases this; rfl
      obtain ⟨kt, el, d, _, _, kdd⟩ := keyKd_spec B.kd
      obtain ⟨_, kp⟩ := keyIs_spec vy kdd s3
      have vk : VR (embR h.n r eS ea) r.2.1 (a4.eval (.tmp y)) := vy.closedT (keyPrim_closed kp)
      have vv : VR (embR h.n r eS ea) (entA r).2 (a4.eval (.tmp z)) := VR.ren (ρ1 := fun j => (h.n + j, 0)) (ρ2 := fun j => (r.1 + j, 0)) hk r.2.2.1 vz
      have hn : ∀ p ∈ est ++ S.map entA, keyEq r.2.1 p.1 = some false := fun p hp => by
        have h1 : keysOk (est ++ (S ++ r :: T).map entA) := (((hT.map entA).append_left est).pairwise_iff fun {a b} hh => ⟨hh.2, hh.1⟩).2 F.keys
        rw [List.map_append, List.map_cons, ← List.append_assoc] at h1
        exact ((List.pairwise_append.1 h1).2.2 p hp (entA r) (.head _)).2
      refine put_new B.oU' B.dU B.kd hmx hob vy s3 p1 p2 p3 hn ?_
      have hok : (hSt rt est hA S).okw rt = true := (okw_lk (h := h) (h' := hSt rt est hA S) F.all.lk rt).trans F.okt
      have hext5 := x5.hr.setObj (blk' := .map (est ++ S.map entA ++ [entA r])) (ob' := .map (esw.push { key := a4.eval (.tmp y), val := a4.eval (.tmp z), born := clk }) (clk + 1)) hF (by rw [hSt_get, if_pos rfl]) id id
        (.map _ _ _ (l2 ++ [(a4.eval (.tmp y), a4.eval (.tmp z))]) rfl rfl (p1.push vk vv kp) (by simpa using p2.append_right _) (keysOk_push p3 hn) (p4.push _ _) mb) hok
      have hgr : (⟨setT (.map (est ++ S.map entA ++ [entA r])) (path rt) (hSt rt est hA S).t, (hSt rt est hA S).n, (hSt rt est hA S).lk⟩ : Hp).grew (hSt rt est hA (S ++ [r])) := by
        refine ⟨Nat.le_refl _, fun b _ => ?_, rfl⟩
        rw [hSt_get]
        refine Eq.symm ((Hp.get_set _ _ (hSt rt est hA S).n _ _ _).trans ?_)
        by_cases hb : b = rt
        · rw [if_pos hb, if_pos hb]; simp
        · rw [if_neg hb, if_neg hb]
          exact (hSt_get rt est hA S b).trans (if_neg hb)
      have x6 := (x5.trans hext5).grow hgr
      have hne : ∀ b g x, e b g = some x → b ≠ rt → xt.r ≠ x.r := fun b g x hx hb hh => hb (F.hr.inj _ _ _ _ _ _ F.ht hx hh).1.symm
      generalize hw5 : ({ w4 with heap := w4.heap.setIfInBounds xt.r (.map (esw.push { key := a4.eval (.tmp y), val := a4.eval (.tmp z), born := clk }) (clk + 1)) } : World) = w5 at x6
      have h5 : ∀ j, xt.r ≠ j → j < w2.heap.size → w5.heap[j]? = w2.heap[j]? := fun j hj hlt => by
        rw [← hw5]
        show (w4.heap.setIfInBounds xt.r _)[j]? = _
        rw [Array.getElem?_setIfInBounds_ne hj]
        exact hsame j hlt
      have hlen : (L.erase i).length < k := by
        have := hpe.length_eq
        simp only [List.length_cons] at this
        omega
      have hleft : ((L.erase i).map fun i => l[i]?).Perm ((leftOf es' (seen.push en.born)).toList.map fun m => some (m.key, m.val)) := by
        have p1 := (hpe.map fun i => l[i]?).symm.trans (hperm.trans ((leftOf_push hnd hen).map fun m => some (m.key, m.val)))
        simp only [List.map_cons, hil] at p1
        exact p1.cons_inv
      have hxtI : xt.r ≠ I := fun hh => hNrt ((F.hr.inj _ _ _ _ _ _ F.ht M.hN (hh.trans hNI.symm)).1).symm
      refine ih (L.erase i).length hlen (L.erase i) rfl (S ++ [r]) _ a4 w5 ⟨x6, fun b g x hx h1 h2 => ?_, fun b g x hx => ?_, ⟨⟨fun d => ?_, ?_⟩, fn4.2⟩, ?_, ⟨seen.push en.born, ?_, hleft⟩, fun j hj => D.lt j (List.mem_of_mem_erase hj), hp2⟩
      · rw [h5 _ (hne b g x hx h1) (hx2.hr.lt _ _ _ (hx2.le _ _ _ hx)).1]
        exact base2 b g x hx h1 h2
      · unfold embR at hx
        by_cases hh : r.1 ≤ b ∧ b < r.1 + r.2.2.2.length
        · exact .inr ⟨r, by simp, hh⟩
        · rw [if_neg hh] at hx
          rcases D.dom b g x hx with h1 | ⟨r', hr', h1⟩
          · exact .inl h1
          · exact .inr ⟨r', by simp [hr'], h1⟩
      · rw [anyAll_slot]
        by_cases hd : path d ∈ m.ds
        · rw [if_pos hd]; exact .any _
        · rw [if_neg hd]
          have k1 : slot f4 d = slot f3 d := runR_keep q2 fun hh => hd (F.own _ hh)
          have k2 : slot f3 d = slot (entF m.pr kv (anyAll m.ds f).out).out d := runR_keep q1 fun hh => hd (M.ent _ hh)
          have k3 : slot (entF m.pr kv (anyAll m.ds f).out).out d = slot (anyAll m.ds f).out d := by
            unfold entF
            cases hp : m.pr with
            | none => rfl
            | some p =>
              simp only
              rw [slot_put, if_neg (fun hh => hd (by rw [hh]; exact M.prds p hp))]
          have k4 : slot (anyAll m.ds f).out d = slot f d := by rw [anyAll_slot, if_neg hd]
          have k5 := hf2.1.1 d
          rw [k4] at k5
          have k6 := fn4.1.1 d
          rw [k1, k2, k3, k4] at k6
          exact k5.back x4.le k6
      · exact fn4.1.2
      · rw [h5 bm F.ne (Array.getElem?_eq_some_iff.1 hm2).1]; exact hm2
      · rw [h5 I hxtI (Array.getElem?_eq_some_iff.1 hI2).1]; exact hI2
end
end Go.Ab

/- A map that a region makes, fills and keeps: what fills it, in whatever order. -/
namespace Go.Ab
open Go
variable {C : Cx} {ds : List Deferred}

theorem litSeq_get (n : Nat) (ops : List Oper) (t0 last : Nat) : ∀ (l : List Oper) (k i : Nat), (litSeq C n ops t0 last k l)[i]? = (l[i]?).map (litS C n ops t0 last (k + i))
  | [], k, i => by simp [litSeq]
  | o :: l, k, 0 => by simp [litSeq]
  | o :: l, k, i + 1 => by
    rw [show k + (i + 1) = k + 1 + i by omega]
    simp [litSeq, litSeq_get n ops t0 last l (k + 1) i]
theorem litSeq_length (n : Nat) (ops : List Oper) (t0 last : Nat) : ∀ (l : List Oper) (k : Nat), (litSeq C n ops t0 last k l).length = l.length
  | [], k => rfl
  | o :: l, k => by simp [litSeq, litSeq_length n ops t0 last l (k + 1)]

/-- Beside what is known. -/
theorem Ext.aside {e0 e : Emb} {h0 H : Hp} {w0 w w2 : World} (x : Ext e0 h0 w0 e H w) (hsz : w.heap.size ≤ w2.heap.size) (hsame : ∀ r, r < w.heap.size → (r < w0.heap.size ∨ ∃ b g y, e b g = some y ∧ y.r = r) → w2.heap[r]? = w.heap[r]?) (h2 : w2.os = w.os) (h3 : w2.output = w.output) : Ext e0 h0 w0 e H w2 := by
  refine ⟨x.le, ⟨x.hr.inj, fun b g y hy => ⟨Nat.lt_of_lt_of_le (x.hr.lt b g y hy).1 hsz, (x.hr.lt b g y hy).2⟩, fun b g y hy => ?_⟩, x.names, x.blocks, fun r hr hro => ?_, x.ours, x.ro, x.n, Nat.le_trans x.size hsz, h2.trans x.os, h3.trans x.output, x.lk⟩
  · obtain ⟨blk, k1, k2⟩ := x.hr.at' b g y hy
    exact ⟨blk, k1, by rw [hsame y.r (x.hr.lt b g y hy).1 (.inr ⟨b, g, y, hy, rfl⟩)]; exact k2⟩
  · rw [hsame r (Nat.lt_of_lt_of_le hr x.size) (.inl hr)]
    exact x.frame r hr hro

theorem insOf_spec {t0 : Nat} {o : Oper} {q : AV × Sx} (h : insOf C t0 o = some q) : ∃ t k z, o.op = .insert t (.tmp t0) (.const k) z ∧ o.guard = none ∧ o.dst = none ∧ conv k = some q.1 ∧ sx C z = some q.2 := by
  unfold insOf at h
  split at h
  · rename_i t m k z hop hg hd
    cases hm : Nat.beq m t0 with
    | false => rw [hm] at h; cases h
    | true =>
      rw [hm, ifb_true] at h
      have := beq_iff.1 hm
      subst this
      split at h
      · rename_i k' x hk hx
        cases h
        exact ⟨t, k, z, hop, hg, hd, hk, hx⟩
      · cases h
  · cases h

/-- What filling needs. -/
def InsF (C : Cx) (t0 : Nat) (o : Oper) (q : AV × Sx) : Prop := ∃ t k z kd, o.op = .insert t (.tmp t0) (.const k) z ∧ o.guard = none ∧ o.dst = none ∧ conv k = some q.1 ∧ sx C z = some q.2 ∧ keyKd C t = some kd ∧ keyIs kd q.1 = true

theorem keysB_spec : ∀ {l : List (AV × Sx)}, keysB l = true → l.Pairwise fun a b => keyEq a.1 b.1 = some false ∧ keyEq b.1 a.1 = some false
  | [], _ => .nil
  | k :: l, h => by
    have h : and (l.all fun q => match keyEq k.1 q.1, keyEq q.1 k.1 with
      | some false, some false => true
      | _, _ => false) (keysB l) = true := h
    rw [Bool.and_eq_true] at h
    refine List.pairwise_cons.2 ⟨fun q hq => ?_, keysB_spec h.2⟩
    have := List.all_eq_true.1 h.1 q hq
    split at this
    · rename_i h1 h2; exact ⟨h1, h2⟩
    · cases this


theorem findK_no {k : AV} : ∀ {es : Es} (i : Nat), (∀ q ∈ (es : List (AV × AV)), keyEq k q.1 = some false) → findK k es i = some none
  | [], i, _ => rfl
  | q :: es, i, h => by
    show Option.rec (motive := fun _ => Option (Option (Nat × AV))) none (fun b => ifb b (some (some (i, q.2))) (findK k es (Nat.succ i))) (keyEq k q.1) = some none
    rw [h q (.head _)]
    exact findK_no (Nat.succ i) fun q' hq' => h q' (.tail _ hq')

section
variable {n t0 last : Nat} {ops : Array Oper}
theorem lit_length : (Rgn.lit C n ops t0 last).ss.length = ops.size := by
  show (litSeq C n ops.toList t0 last 0 ops.toList).length = _
  rw [litSeq_length]; simp
theorem lit_s {i : Nat} {o : Oper} (ho : ops[i]? = some o) : (Rgn.lit C n ops t0 last).s i = litS C n ops.toList t0 last i o := by
  show (nthA (litSeq C n ops.toList t0 last 0 ops.toList) i).getD _ = _
  rw [nthA_eq, litSeq_get, Array.getElem?_toList, ho, Nat.zero_add]; rfl
theorem lit_far {i : Nat} (h : ¬ i < (Rgn.lit C n ops t0 last).ss.length) : (Rgn.lit C n ops t0 last).s i = ⟨.bad "region", none, none, false⟩ := by
  show (nthA (Rgn.lit C n ops t0 last).ss i).getD _ = _
  rw [nthA_eq, List.getElem?_eq_none (by omega)]; rfl
theorem litS_ord {i : Nat} {o : Oper} (h0 : i ≠ 0) (hl : i < last) (hi : insOf C t0 o = none) : litS C n ops.toList t0 last i o = mkS C n ops.toList o := by
  unfold litS
  have h1 : Nat.beq i 0 = false := by
    cases h : Nat.beq i 0 with
    | false => rfl
    | true => exact absurd (beq_iff.1 h) h0
  have h2 : Nat.ble last i = false := by
    cases h : Nat.ble last i with
    | false => rfl
    | true => have := Nat.le_of_ble_eq_true h; omega
  rw [h1, h2, hi]; rfl
theorem litS_zero {o : Oper} : litS C n ops.toList t0 last 0 o = ⟨.mv (.c anyA), none, some (path t0), false⟩ := rfl
theorem litS_ins {i : Nat} {o : Oper} {q : AV × Sx} (h0 : i ≠ 0) (hi : insOf C t0 o = some q) : litS C n ops.toList t0 last i o = noCS := by
  unfold litS
  have h1 : Nat.beq i 0 = false := by
    cases h : Nat.beq i 0 with
    | false => rfl
    | true => exact absurd (beq_iff.1 h) h0
  rw [h1, hi]
  cases Nat.ble last i <;> rfl
theorem litS_tail {i : Nat} {o : Oper} (h0 : i ≠ 0) (hl : last ≤ i) : litS C n ops.toList t0 last i o = noCS := by
  unfold litS
  have h1 : Nat.beq i 0 = false := by
    cases h : Nat.beq i 0 with
    | false => rfl
    | true => exact absurd (beq_iff.1 h) h0
  rw [h1, ble_iff.2 hl]; rfl
theorem lit_ord {i : Nat} {o : Oper} (ho : ops[i]? = some o) (h0 : i ≠ 0) (hl : i < last) (hi : insOf C t0 o = none) : (Rgn.lit C n ops t0 last).s i = (Rgn.of C n ops).s i := by
  rw [lit_s ho, litS_ord h0 hl hi, of_s ho]
theorem lit_again (i : Nat) : ((Rgn.lit C n ops t0 last).s i).again = false := by
  cases ho : ops[i]? with
  | none =>
    have hlt : ¬ i < (Rgn.lit C n ops t0 last).ss.length := by
      rw [lit_length]
      intro h
      rw [Array.getElem?_eq_getElem h] at ho; cases ho
    rw [lit_far hlt]
  | some o =>
    by_cases h0 : i = 0
    · subst h0; rw [lit_s ho]; rfl
    · cases hi : insOf C t0 o with
      | some q => rw [lit_s ho, litS_ins h0 hi]; rfl
      | none =>
        by_cases hl : i < last
        · rw [lit_ord ho h0 hl hi]; exact of_again i
        · rw [lit_s ho, litS_tail h0 (by omega)]; rfl

/-- The entries that are put, in an order. -/
noncomputable def kvAt (C : Cx) (t0 : Nat) (ops : Array Oper) (F : Fr) (i : Nat) : AV × AV := match (ops[i]?).bind (insOf C t0) with
  | some q => (q.1, ev F q.2)
  | none => (undefA, undefA)
def IsIns (C : Cx) (t0 last : Nat) (ops : Array Oper) (i : Nat) : Prop := i < last ∧ ∃ o q, ops[i]? = some o ∧ insOf C t0 o = some q
/-- The map, as the model has it. -/
def Zm (C : Cx) (t0 last : Nat) (ops : Array Oper) (F : Fr) (w0 : World) (D : Nat → Prop) (e : Emb) (a : Act) (w : World) : Prop :=
  D 0 → ∃ (rm : Nat) (P : List Nat), a.tmps.getD t0 undef = .map (some rm) ∧ w0.heap.size ≤ rm ∧ rm < w.heap.size ∧ (∀ b g x, e b g = some x → x.r ≠ rm) ∧ BR e (.map (P.map (kvAt C t0 ops F))) 0 ⟨rm, 0, 0, 0⟩ w.heap[rm]? ∧ P.Nodup ∧ ∀ i, i ∈ P ↔ (D i ∧ IsIns C t0 last ops i)

theorem Zm.keep {F : Fr} {w0 : World} {D D' : Nat → Prop} {e e' : Emb} {a a' : Act} {w w' : World} (z : Zm C t0 last ops F w0 D e a w) (hle : e.le e') (hb : ∀ b g x, e' b g = some x → (∃ b0 g0 x0, e b0 g0 = some x0 ∧ x0.r = x.r) ∨ w.heap.size ≤ x.r)
    (hf : ∀ r, r < w.heap.size → (∀ b g x, e b g = some x → x.r ≠ r) → w'.heap[r]? = w.heap[r]?) (hs : w.heap.size ≤ w'.heap.size) (ht : a'.tmps.getD t0 undef = a.tmps.getD t0 undef) (h0 : D' 0 → D 0) (hD : ∀ i, IsIns C t0 last ops i → (D' i ↔ D i)) : Zm C t0 last ops F w0 D' e' a' w' := by
  intro hd
  obtain ⟨rm, P, z1, z2, z3, z4, z5, z6, z7⟩ := z (h0 hd)
  refine ⟨rm, P, ht.trans z1, z2, Nat.lt_of_lt_of_le z3 hs, fun b g x hx hr => ?_, ?_, z6, fun i => ?_⟩
  · rcases hb b g x hx with ⟨b0, g0, x0, h1, h2⟩ | h1
    · exact z4 b0 g0 x0 h1 (h2.trans hr)
    · omega
  · rw [hf rm z3 z4]; exact z5.mono hle
  · rw [z7 i]
    constructor
    · rintro ⟨h1, h2⟩; exact ⟨(hD i h2).2 h1, h2⟩
    · rintro ⟨h1, h2⟩; exact ⟨(hD i h2).1 h1, h2⟩
theorem put_other {a : Act} {d : Option Nat} {v : Value} {t0 : Nat} (h : d ≠ some t0) : (a.put d v).tmps.getD t0 undef = a.tmps.getD t0 undef := by
  cases d with
  | none => rfl
  | some d =>
    have hne : d ≠ t0 := fun hh => h (by rw [hh])
    simp [Act.put, Array.getElem?_setIfInBounds_ne hne]

/-- Between two steps. -/
def InvZ (C : Cx) (ds : List Deferred) (r : Rgn) (F f0 : Fr) (c : CallT) (He : Hp) (n : Nat) (e0 : Emb) (h0 : Hp) (w0 : World) (t0 last : Nat) (ops : Array Oper) (D : Nat → Prop) (a : Act) (w : World) : Prop :=
  ∃ dn ld last' rest fj H nm e f, Inv ds r F f0 c He n e0 h0 w0 D a w dn ld last' rest fj H nm e f ∧ Zm C t0 last ops F w0 D e a w
end
end Go.Ab

/- A map that a region makes, fills and keeps: the steps. -/
namespace Go.Ab
open Go
variable {C : Cx} {ds : List Deferred}

section
variable {n t0 last : Nat} {ops : Array Oper} {r : Rgn} {F f0 : Fr} {c : CallT} {He : Hp} {e0 : Emb} {h0 : Hp} {w0 : World} {D : Nat → Prop} {a : Act} {w : World} {dn : Nat → Prop} {ld : List Nat} {last' : Option Nat} {rest : List Ep} {fj : Fr} {H : Hp} {nm : Nat → Option Nat} {e : Emb} {f : Fr} {Q : Exit → Act → World → Prop}

/-- A step that is no deed, and has nothing to do with the map. -/
theorem light_stepZ (hP : Plan r) (hg : GR C e0) (hc : CallOK C c) (I : Inv ds r F f0 c He n e0 h0 w0 D a w dn ld last' rest fj H nm e f) (Z : Zm C t0 last ops F w0 D e a w) {i : Nat} {o : Oper} (hi : ops[i]? = some o) (hsi : r.s i = (Rgn.of C n ops).s i) (hmi : r.m i = (Rgn.of C n ops).m i)
    (hi0 : i ≠ 0) (hni : ¬ IsIns C t0 last ops i) (hdst : o.dst ≠ some t0) (hd : dn i) (hn : ¬ D i)
    (hanc : ∀ p, (r.a i).testBit p = true → D p) (hW : Whole r D) : owOp C.P ops Q i (InvZ C ds r F f0 c He n e0 h0 w0 t0 last ops fun j => D j ∨ j = i) a w := by
  have hlen := I.mid.lt2 i hd
  have hview : View r F f0 i f := I.slots.view (hP.use i hlen) hP.once hanc fun _ p _ hor hD => hor.elim (fun h => hn (h ▸ hD)) fun hb => hn (hW p hD i hb)
  obtain ⟨v, hv, hcase⟩ := I.facts i hd hn
  have hgr : GR C e := hg.mono I.ext.le
  have fin : ∀ (e' : Emb) (v' : Value) (w' : World), e.le e' → Ext e0 h0 w0 e' H w' → VR e' v v' → (∀ j b, ¬ D j → j ≠ i → nm j = some b → ∀ g, e' b g = none) → ((r.s i).d = o.dst.map path ∧ ∀ t, o.dst = some t → t < n) →
      (∀ b g x, e' b g = some x → (∃ b0 g0 x0, e b0 g0 = some x0 ∧ x0.r = x.r) ∨ w.heap.size ≤ x.r) → (∀ q, q < w.heap.size → (∀ b g x, e b g = some x → x.r ≠ q) → w'.heap[q]? = w.heap[q]?) → w.heap.size ≤ w'.heap.size →
      InvZ C ds r F f0 c He n e0 h0 w0 t0 last ops (fun j => D j ∨ j = i) (a.put o.dst v') w' := by
    intro e' v' w' hle hext hvr hnone ⟨hd1, hd2⟩ hb hfr hs
    refine ⟨dn, ld, last', rest, fj, H, nm, e', (putD (r.s i).d v f).out, ⟨I.mid, hext, ?_, I.slots.step hlen hv, ?_, fun j h1 h2 => .inl (I.deeds j h1 h2), fun j h1 h2 => I.facts j h1 fun h => h2 (.inl h), ?_, ?_⟩, ?_⟩
    · rw [hd1]; exact (I.fn.mono hle).putO hd2 hvr
    · rintro j (h | rfl)
      · exact I.sub j h
      · exact hd
    · intro j b h1 h2
      have h3 := I.names j b (fun h => h1 (.inl h)) h2
      exact ⟨h3.1, h3.2.1, hnone j b (fun h => h1 (.inl h)) (fun h => h1 (.inr h)) h2⟩
    · exact fun j k b h1 h2 => I.inj j k b (fun h => h1 (.inl h)) fun h => h2 (.inl h)
    · refine Z.keep hle hb hfr hs (put_other hdst) (fun h => h.resolve_right (fun hh => hi0 hh.symm)) fun j hj => ⟨fun h => h.resolve_right (fun hh => hni (hh ▸ hj)), .inl⟩
  have viaExt : ∀ (e' : Emb) (v' : Value) (w' : World), Ext e H w e' H w' → VR e' v v' → ((r.s i).d = o.dst.map path ∧ ∀ t, o.dst = some t → t < n) → InvZ C ds r F f0 c He n e0 h0 w0 t0 last ops (fun j => D j ∨ j = i) (a.put o.dst v') w' := by
    intro e' v' w' hext hvr hd
    exact fin e' v' w' hext.le (I.ext.trans hext) hvr (fun j b h1 _ h2 => hext.none (I.names j b h1 h2).2.1 (I.names j b h1 h2).2.2) hd
      (fun b g x hx => (hext.blocks b g x hx).imp (fun ⟨g0, x0, k1, k2⟩ => ⟨b, g0, x0, k1, k2⟩) id) (fun q hq hno => hext.frame q hq fun b g x hx hxr => absurd hxr (hno b g x hx)) hext.size
  rcases hcase with ⟨_, hx⟩ | ⟨_, hx⟩ | ⟨hk, ht, ht', hx, hmade⟩
  · have hx := hx f H hview
    have hx2 := hx
    rw [hsi] at hx2
    exact stepS_sim hc hi hx2 hgr I.fn I.ext.hr fun e' v' w' hext hvr => viaExt e' v' w' hext hvr (by rw [hsi]; exact of_d hi hx2)
  · have hx := hx f hview
    have hx2 := hx
    rw [hsi] at hx2
    exact stepS_sim hc hi hx2 hgr I.fn I.ext.hr fun e' v' w' hext hvr => viaExt e' v' w' hext hvr (by rw [hsi]; exact of_d hi hx2)
  · have hx := hx f hview
    have hm : isMkOp o = true := by rw [← of_m (C := C) (n := n) hi, ← hmi]; exact hP.make i hlen hk
    have hk2 : ((Rgn.of C n ops).s i).o.kd = 2 := by rw [← hsi]; exact hk
    have hx2 := hx
    rw [hsi] at hx2
    refine makeS_sim hi hm hk2 hx2 hgr I.fn (fun hu _ => ?_) fun v' w' B ob sz made => ?_
    · subst hu
      exact fin e undef w (.refl e) I.ext (undef_VR e) (fun j b h1 _ h2 => (I.names j b h1 h2).2.2) (by rw [hsi]; exact of_d hi hx2) (fun b g x hx => .inl ⟨b, g, x, hx, rfl⟩) (fun _ _ _ => rfl) (Nat.le_refl _)
    · rcases hmade with hh | ⟨B2, hB2, hnm, hlt, hget⟩
      · have h1 := made.ours
        rw [hh] at h1
        have h2 : ht.n = ht.n + 1 := congrArg Hp.n h1
        omega
      · have hB : B = B2 := by
          have h1 := made.ours
          rw [hB2] at h1
          have h2 : Hp.get ⟨setT B2 (path ht.n) ht.t, ht.n + 1, ht.lk⟩ ht.n = Hp.get ⟨setT B (path ht.n) ht.t, ht.n + 1, ht.lk⟩ ht.n := by rw [h1]
          rw [Hp.get_set _ _ ht.n, Hp.get_set _ _ ht.n, if_pos rfl, if_pos rfl] at h2
          exact (Option.some.inj h2).symm
        subst hB
        obtain ⟨n1, n2, n3⟩ := I.names i _ hn hnm
        obtain ⟨e', hle, hnew, hoth, hall, hext⟩ := I.ext.late n1 n2 n3 hget made.heap made.os made.output made.br
        refine fin e' v' w' hle hext (made.vr e' hle hnew) (fun j b h1 h2 h3 g => ?_) (by rw [hsi]; exact of_d hi hx2) (fun b g x hx => ?_) (fun q hq _ => by rw [made.heap, Array.getElem?_push, if_neg (by omega)]) (by rw [made.heap, Array.size_push]; omega)
        · have hne : b ≠ ht.n := fun hh => h2 (I.inj j i b h1 hn h3 (hh ▸ hnm))
          rw [hoth b g hne]
          exact (I.names j b h1 h3).2.2 g
        · rcases hall b g x hx with h1 | h1
          · exact .inl ⟨b, g, x, h1, rfl⟩
          · exact .inr (Nat.le_of_eq h1.symm)

/-- A step beside what is known: nothing of ours changes. -/
theorem aside_stepZ (I : Inv ds r F f0 c He n e0 h0 w0 D a w dn ld last' rest fj H nm e f) {i : Nat} {o : Oper} (hd : dn i) {v : AV} (hlen : i < r.ss.length) (hv : VF r F i v) {v' : Value} {w' : World} (hext : Ext e0 h0 w0 e H w') (hdst : (r.s i).d = o.dst.map path) (hdn : ∀ t, o.dst = some t → t < n) (hvr : VR e v v')
    (Z : Zm C t0 last ops F w0 (fun j => D j ∨ j = i) e (a.put o.dst v') w') : InvZ C ds r F f0 c He n e0 h0 w0 t0 last ops (fun j => D j ∨ j = i) (a.put o.dst v') w' := by
  refine ⟨dn, ld, last', rest, fj, H, nm, e, (putD (r.s i).d v f).out, ⟨I.mid, hext, ?_, I.slots.step hlen hv, ?_, fun j h1 h2 => .inl (I.deeds j h1 h2), fun j h1 h2 => I.facts j h1 fun h => h2 (.inl h), ?_, ?_⟩, Z⟩
  · rw [hdst]; exact I.fn.putO hdn hvr
  · rintro j (h | rfl)
    · exact I.sub j h
    · exact hd
  · exact fun j b h1 h2 => I.names j b (fun h => h1 (.inl h)) h2
  · exact fun j k b h1 h2 => I.inj j k b (fun h => h1 (.inl h)) fun h => h2 (.inl h)
/-- The next deed. -/
theorem heavy_stepZ (hP : Plan r) (hg : GR C e0) (hc : CallOK C c) (hrl : r.ss.length = ops.size) (I : Inv ds r F f0 c He n e0 h0 w0 D a w dn ld last' rest fj H nm e f) (Z : Zm C t0 last ops F w0 D e a w) {i : Nat} {o : Oper} (hi : ops[i]? = some o) (hsi : r.s i = (Rgn.of C n ops).s i) (hi0 : i ≠ 0) (hni : ¬ IsIns C t0 last ops i) (hdst : o.dst ≠ some t0) (hnd : ¬ dn i)
    (hanc : ∀ p, (r.a i).testBit p = true → D p) (hW : Whole r D) : owOp C.P ops Q i (InvZ C ds r F f0 c He n e0 h0 w0 t0 last ops fun j => D j ∨ j = i) a w := by
  have hlen : i < r.ss.length := by rw [hrl]; exact (Array.getElem?_eq_some_iff.1 hi).1
  have hmem : i ∈ rest.flatMap Ep.order := (I.mid.order.all i hlen).resolve_left hnd
  have hout := I.mid.order.out
  have hfirst : ∃ ep rest', rest = ep :: rest' ∧ ep.hv = some i := by
    cases hr : rest with
    | nil => rw [hr] at hmem; cases hmem
    | cons ep rest' =>
      refine ⟨ep, rest', rfl, ?_⟩
      rw [hr] at hmem hout
      obtain ⟨d, hd⟩ := Option.isSome_iff_exists.1 (I.mid.isSome ep (by rw [hr]; exact .head _))
      have heps := I.mid.eps
      rw [hr] at heps
      obtain ⟨h1, h2, _, _, h5⟩ := heps
      have hno : ∀ x, x ∈ (ep :: rest').flatMap Ep.order → ¬ (r.a i).testBit x = true := fun x hx hb => hout x hx (I.sub x (hanc x hb))
      have hdm : d ∈ (ep :: rest').flatMap Ep.order := by
        rw [List.flatMap_cons]
        refine List.mem_append_left _ ?_
        unfold Ep.order; rw [hd]; exact .head _
      by_cases hid : i = d
      · rw [hd, hid]
      · exfalso
        rw [List.flatMap_cons, List.mem_append] at hmem
        rcases hmem with hmem | hmem
        · unfold Ep.order at hmem
          rw [hd] at hmem
          have hmem : i ∈ d :: ep.ls := hmem
          rcases List.mem_cons.1 hmem with hh | hh
          · exact hid hh
          · exact hno d hdm ((h2 i hh).2 d hd)
        · rw [hd] at h5
          obtain ⟨x, hx, hx2⟩ := eps_behind h5 (fun e' he' => I.mid.isSome e' (by rw [hr]; exact .tail _ he')) i hmem
          rcases hx with rfl | hx
          · exact hno x hdm hx2
          · exact hno x (by rw [List.flatMap_cons]; exact List.mem_append_right _ hx) hx2
  obtain ⟨ep, rest', rfl, hep⟩ := hfirst
  have heps := I.mid.eps
  obtain ⟨h1, h2, h3, h4, h5⟩ := heps
  rw [hep] at h5
  have horder : ep.order = i :: ep.ls := by unfold Ep.order; rw [hep]; rfl
  have hord := I.mid.order
  rw [List.flatMap_cons, horder] at hord hout
  obtain ⟨_, hord1, hord2⟩ := hord
  have hrun := I.mid.run
  rw [List.flatMap_cons, Ep.out, horder, List.append_assoc, List.map_cons, List.cons_append] at hrun
  obtain ⟨v, H1, hst, hrun⟩ := runR_once (hP.again i) hrun
  have hviewj : View r F f0 i fj := I.mid.slots.view (hP.use i hlen) hP.once hord1 fun _ p _ hor hD => hor.elim (fun h => hnd (h ▸ hD)) fun hb => hnd (I.mid.whole p hD i hb)
  have hviewf : View r F f0 i f := I.slots.view (hP.use i hlen) hP.once hanc fun _ p _ hor hD => hor.elim (fun h => hnd (h ▸ I.sub p hD)) fun hb => hnd (I.sub i (hW p hD i hb))
  have hst' : stepS (r.s i) c f H = .ok v H1 := by rw [stepS_agree (hviewf.agree hviewj)]; exact hst
  have hlt : ∀ j ∈ ep.ls ++ rest'.flatMap Ep.order, j < r.ss.length := fun j hj => I.mid.lt j (by rw [List.flatMap_cons, horder]; exact List.mem_cons_of_mem _ hj)
  have hne : ∀ j ∈ ep.ls ++ rest'.flatMap Ep.order, j ≠ i := fun j hj hh => hord2.out j hj (.inr hh)
  have hVF : VF r F i v := by
    intro t ht
    rw [runR_slot hrun, slot_putD, if_pos ht]
    intro s hs hsa hsd
    have hj : ∃ j, j ∈ ep.ls ++ rest'.flatMap Ep.order ∧ s = r.s j := by
      rcases List.mem_append.1 hs with hs | hs
      · obtain ⟨j, hj, rfl⟩ := List.mem_map.1 hs
        exact ⟨j, List.mem_append_left _ hj, rfl⟩
      · rcases List.mem_append.1 hs with hs | hs
        · obtain ⟨j, _, rfl⟩ := List.mem_map.1 hs
          cases hsa
        · obtain ⟨j, hj, rfl⟩ := out_once hs hsa
          exact ⟨j, List.mem_append_right _ hj, rfl⟩
    obtain ⟨j, hj, rfl⟩ := hj
    exact hne j hj (hP.once j i t (hlt j hj) hlen hsd ht)
  obtain ⟨f2, H2, nm2, mid2, hgrew, hls, hck, hnm, hinj⟩ := epoch_rest hP.use hP.once (fun i _ => hP.again i) (dn := fun j => dn j ∨ j = i) (ld := ld) (ls := ep.ls) (ck := ep.ck) (last := some i) (rest := rest') hrun
    (I.mid.slots.step hlen hVF) (I.mid.whole.step hord1) h5 hord2 (fun e' he' => I.mid.isSome e' (.tail _ he')) (fun j hj => hj.elim (I.mid.lights j) fun hh => .inr (hh ▸ (h1 i hep).1)) (fun j hj => .inl (I.mid.ldn j hj)) hlt (fun j hj => (h2 j hj).1) h4
    (fun j hj => hj.elim (I.mid.lt2 j) fun hh => hh ▸ hlen)
  have hgr : GR C e := hg.mono I.ext.le
  have hst2 := hst'
  rw [hsi] at hst2
  refine stepS_sim hc hi hst2 hgr I.fn I.ext.hr fun e' v' w' hext hvr => ?_
  have hlsn : ∀ j ∈ ep.ls, ¬ dn j := fun j hj hd => hord2.out j (List.mem_append_left _ hj) (.inl hd)
  refine ⟨_, _, _, _, f2, H2, fun j => if j ∈ ep.ls then nm2 j else nm j, e', (putD (r.s i).d v f).out, ⟨mid2, (I.ext.trans hext).grow hgrew, ?_, I.slots.step hlen hVF, ?_, ?_, ?_, ?_, ?_⟩, ?_⟩
  · obtain ⟨hd1, hd2⟩ := (by rw [hsi]; exact of_d hi hst2 : (r.s i).d = o.dst.map path ∧ ∀ t, o.dst = some t → t < n)
    rw [hd1]; exact (I.fn.mono hext.le).putO hd2 hvr
  · rintro j (h | rfl)
    · exact .inl (.inl (I.sub j h))
    · exact .inl (.inr rfl)
  · rintro j ((h | rfl) | h) hk
    · exact .inl (I.deeds j h hk)
    · exact .inr rfl
    · exact absurd hk (h2 j h).1
  · rintro j ((hj | hj) | hj) hjn
    · have hjl : j ∉ ep.ls := fun h => hlsn j h hj
      have hjD : ¬ D j := fun h => hjn (.inl h)
      have hcase := I.facts j hj hjD
      by_cases hk1 : r.k j = 1
      · rcases I.mid.lights j hj with hld | hk3
        · rcases h3 j (.inl hld) hk1 with ⟨d, hd, hb⟩ | hc
          · rw [hep] at hd; cases hd
            exact absurd (hanc j hb) hjD
          · exact hck j hc _
        · rw [hk1] at hk3; cases hk3
      · obtain ⟨u, hu, hcase⟩ := hcase
        refine ⟨u, hu, ?_⟩
        simp only [if_neg hjl]
        rcases hcase with hcase | hcase | ⟨hk, ht, ht', hx, hmade⟩
        · exact .inl hcase
        · exact absurd hcase.1 hk1
        · refine .inr (.inr ⟨hk, ht, ht', hx, hmade.imp id ?_⟩)
          rintro ⟨B, hB, hnmj, hlt', hget⟩
          obtain ⟨n1, n2, n3⟩ := I.names j _ hjD hnmj
          refine ⟨B, hB, hnmj, Nat.lt_of_lt_of_le hlt' (Nat.le_trans hext.n hgrew.1), ?_⟩
          rw [hgrew.2.1 _ (Nat.lt_of_lt_of_le hlt' hext.n), hext.ours _ hlt' n3, hget]
    · exact absurd (.inr hj) hjn
    · have hbase : LFact r F f0 c H2 nm2 j := by
        by_cases hcond : r.k j = 1 → ∀ q ∈ ep.ls, r.k q ≠ 2
        · exact hls j hj hcond
        · have hk1 : r.k j = 1 := Classical.byContradiction fun h => hcond fun h' => absurd h' h
          have hmk : ∃ q ∈ ep.ls, r.k q = 2 := Classical.byContradiction fun h => hcond fun _ q hq hq2 => h ⟨q, hq, hq2⟩
          rcases h3 j (.inr ⟨hj, hmk⟩) hk1 with ⟨d, hd, hb⟩ | hc
          · rw [hep] at hd; cases hd
            exact absurd (I.sub j (hanc j hb)) (hlsn j hj)
          · exact hck j hc _
      exact hbase.nm (if_pos hj)
  · intro j b hjn hb
    have hb : (if j ∈ ep.ls then nm2 j else nm j) = some b := hb
    by_cases hj : j ∈ ep.ls
    · rw [if_pos hj] at hb
      obtain ⟨_, k1, k2⟩ := hnm j b hb
      refine ⟨Nat.le_trans I.ext.n (Nat.le_trans hext.n k1), k2, fun g => ?_⟩
      cases hx : e' b g with
      | none => rfl
      | some y => have := (hext.hr.lt b g y hx).2; omega
    · rw [if_neg hj] at hb
      obtain ⟨n1, n2, n3⟩ := I.names j b (fun h => hjn (.inl h)) hb
      exact ⟨n1, Nat.lt_of_lt_of_le n2 (Nat.le_trans hext.n hgrew.1), hext.none n2 n3⟩
  · intro j q b hjn hqn hb hb'
    have hb : (if j ∈ ep.ls then nm2 j else nm j) = some b := hb
    have hb' : (if q ∈ ep.ls then nm2 q else nm q) = some b := hb'
    by_cases hj : j ∈ ep.ls
    · rw [if_pos hj] at hb
      by_cases hq : q ∈ ep.ls
      · rw [if_pos hq] at hb'; exact hinj j q b hb hb'
      · rw [if_neg hq] at hb'
        have k1 := (hnm j b hb).2.1
        have k2 := (I.names q b (fun h => hqn (.inl h)) hb').2.1
        have := hext.n
        omega
    · rw [if_neg hj] at hb
      by_cases hq : q ∈ ep.ls
      · rw [if_pos hq] at hb'
        have k1 := (hnm q b hb').2.1
        have k2 := (I.names j b (fun h => hjn (.inl h)) hb).2.1
        have := hext.n
        omega
      · rw [if_neg hq] at hb'
        exact I.inj j q b (fun h => hjn (.inl h)) (fun h => hqn (.inl h)) hb hb'
  · exact Z.keep hext.le (fun b g x hx => (hext.blocks b g x hx).imp (fun ⟨g0, x0, k1, k2⟩ => ⟨b, g0, x0, k1, k2⟩) id) (fun q hq hno => hext.frame q hq fun b g x hx hxr => absurd hxr (hno b g x hx)) hext.size (put_other hdst) (fun h => h.resolve_right (fun hh => hi0 hh.symm)) fun j hj => ⟨fun h => h.resolve_right (fun hh => hni (hh ▸ hj)), .inl⟩

/-- The map is made. -/
theorem make_stepZ (I : Inv ds r F f0 c He n e0 h0 w0 D a w dn ld last' rest fj H nm e f) {o : Oper} {t : TypeId} (hi : ops[0]? = some o) (ho : o.op = .makeMap t none) (hsl : slotOK n o = some t0) (hs0 : r.s 0 = ⟨.mv (.c anyA), none, some (path t0), false⟩) (hlen : 0 < r.ss.length) (hd : dn 0) (_hn : ¬ D 0)
    (hv : slot F t0 = anyA) (hu : ∃ kt el, C.P.underlying t = some (.map kt el)) (hins : ∀ i, D i → ¬ IsIns C t0 last ops i) (hi0 : ¬ IsIns C t0 last ops 0) : owOp C.P ops Q 0 (InvZ C ds r F f0 c He n e0 h0 w0 t0 last ops fun j => D j ∨ j = 0) a w := by
  obtain ⟨g1, g2, g3⟩ := slotOK_spec hsl
  obtain ⟨kt, el, hu⟩ := hu
  refine owOp_val (v := .map (some w.heap.size)) (w' := w.alloc (.map #[] 0)) hi g1 (by simp [execOp, ho, Instr.makeMap]) ?_
  have hext : Ext e0 h0 w0 e H (w.alloc (.map #[] 0)) := I.ext.aside (by simp) (fun q hq _ => by show (w.heap.push (Obj.map #[] 0))[q]? = _; rw [Array.getElem?_push, if_neg (by omega)]) rfl rfl
  refine aside_stepZ I hd hlen (v := anyA) (fun q hq => ?_) hext (by rw [hs0, g2]; rfl) (fun q hq => by rw [g2] at hq; cases hq; exact g3) (.any _) fun _ => ?_
  · rw [hs0] at hq
    have : q = t0 := (path_inj _ _ (Option.some.inj hq)).symm
    rw [this]; exact hv
  · refine ⟨w.heap.size, [], ?_, I.ext.size, by simp, fun b g x hx hr => ?_, ?_, .nil, fun i => ⟨fun h => (by cases h), ?_⟩⟩
    · rw [g2]
      have : t0 < a.tmps.size := Nat.lt_of_lt_of_le g3 I.fn.2.1
      simp [Act.put, this]
    · have := (I.ext.hr.lt b g x hx).1
      omega
    · rw [heap_alloc_new]
      exact .map [] #[] 0 [] rfl rfl .nil (by simp) .nil .nil (Nat.le_refl _)
    · rintro ⟨h1 | h1, h2⟩
      · exact absurd h2 (hins i h1)
      · rw [h1] at h2; exact absurd h2 hi0

/-- An entry is put. -/
theorem ins_stepZ (hg : GR C e0) (I : Inv ds r F f0 c He n e0 h0 w0 D a w dn ld last' rest fj H nm e f) (Z : Zm C t0 last ops F w0 D e a w) {i : Nat} {o : Oper} {q : AV × Sx} (hi : ops[i]? = some o) (hq : insOf C t0 o = some q) (hil : i < last) (hF : InsF C t0 o q) (hsi : r.s i = noCS) (hlen : i < r.ss.length) (hd : dn i) (hn : ¬ D i) (h0D : D 0)
    (hval : ev f q.2 = ev F q.2) (hkeys : ∀ j oj qj, j ≠ i → j < last → ops[j]? = some oj → insOf C t0 oj = some qj → keyEq q.1 qj.1 = some false) : owOp C.P ops Q i (InvZ C ds r F f0 c He n e0 h0 w0 t0 last ops fun j => D j ∨ j = i) a w := by
  obtain ⟨rm, P, z1, z2, z3, z4, z5, z6, z7⟩ := Z h0D
  obtain ⟨t, k, z, kd, f1, f2, f3, f4, f5, f6, f7⟩ := hF
  obtain ⟨kt, el, d, u1, u2, kdd⟩ := keyKd_spec f6
  have hgr : GR C e := hg.mono I.ext.le
  have vk : VR e q.1 k := conv_VR e k q.1 f4
  have vv := sx_VR hgr I.fn.1 f5
  obtain ⟨kv, kp⟩ := keyIs_spec vk kdd f7
  have hki : kvAt C t0 ops F i = (q.1, ev F q.2) := by unfold kvAt; rw [hi]; simp only [Option.bind_some, hq]
  generalize hob : w.heap[rm]? = ob at z5
  cases z5 with
  | cells cc tt fr qq => exact qq.cells.elim
  | sit s pos hh _ => cases hh
  | iter _ _ _ _ hh _ => cases hh
  | lp q0 fn0 tm0 df0 hh => cases hh
  | busy o0 hh => cases hh
  | dfr hh => cases hh
  | map es es' clock l hes _ q1 q2 q3 q4 mb =>
    cases hes
    have hfk : findK q.1 (P.map (kvAt C t0 ops F)) 0 = some none := by
      refine Go.Ab.findK_no 0 fun x hx => ?_
      obtain ⟨j, hj, rfl⟩ := List.mem_map.1 hx
      obtain ⟨hj1, hj2, oj, qj, hj3, hj4⟩ := (z7 j).1 hj
      have : kvAt C t0 ops F j = (qj.1, ev F qj.2) := by unfold kvAt; rw [hj3]; simp only [Option.bind_some, hj4]
      rw [this]
      exact hkeys j oj qj (fun hh => hn (hh ▸ hj1)) hj2 hj3 hj4
    rcases find_sim q1 q2 q3 kv hfk with ⟨_, g1, g2, _⟩ | ⟨_, _, _, _, hh, _⟩
    case inr => cases hh
    have m1 : a.eval (.tmp t0) = .map (some rm) := by rw [← z1]; simp [Act.eval]
    have hk : a.eval (.const k) = k := rfl
    have hrun : (execOp a.eval o).run C.P w = .ok .skip { w with heap := w.heap.setIfInBounds rm (.map (es'.push ⟨k, a.eval z, clock⟩) (clock + 1)) } := by
      simp only [execOp, f1, Instr.mapUpdate, Sem.run_bind, run_und u1, m1, hk, MapKept.run_getObj_map hob, run_checkKeyA u2 kdd, run_findKey u2 g1, Result.andThen_ok, MapKept.run_setObj_map _ hob, Sem.run_pure]
    unfold owOp
    simp only [hi]
    rw [if_pos (by simp [Region.wanted, f2])]
    refine .inl (wp_skp hrun ?_)
    have hne : ∀ q', q' ≠ rm → (w.heap.setIfInBounds rm (.map (es'.push ⟨k, a.eval z, clock⟩) (clock + 1)))[q']? = w.heap[q']? := fun q' hq' => Array.getElem?_setIfInBounds_ne (Ne.symm hq')
    have hext : Ext e0 h0 w0 e H { w with heap := w.heap.setIfInBounds rm (.map (es'.push ⟨k, a.eval z, clock⟩) (clock + 1)) } := I.ext.aside (by show w.heap.size ≤ (w.heap.setIfInBounds rm _).size; simp) (fun q' hq' hor => hne q' (by
      rcases hor with h1 | ⟨b, g, y, h1, h2⟩
      · omega
      · exact fun hh => z4 b g y h1 (h2.trans hh))) rfl rfl
    refine aside_stepZ I hd hlen (v := undefA) (fun t' ht' => by rw [hsi] at ht'; cases ht') hext (by rw [hsi, f3]; rfl) (fun t' ht' => by rw [f3] at ht'; cases ht') (undef_VR e) fun _ => ?_
    refine ⟨rm, P ++ [i], ?_, z2, by show rm < (w.heap.setIfInBounds rm _).size; simpa using z3, z4, ?_, ?_, fun j => ?_⟩
    · rw [f3]; exact z1
    · have hob2 : (w.heap.setIfInBounds rm (.map (es'.push ⟨k, a.eval z, clock⟩) (clock + 1)))[rm]? = some (.map (es'.push ⟨k, a.eval z, clock⟩) (clock + 1)) := by simp [z3]
      show BR e _ 0 _ (w.heap.setIfInBounds rm _)[rm]?
      rw [hob2, List.map_append, List.map_cons, List.map_nil, hki, ← hval]
      exact .map _ _ _ (l ++ [(k, a.eval z)]) rfl rfl (q1.push vk vv kp) (by simpa using q2.append_right _) (keysOk_push q3 g2) (q4.push _ _) mb
    · rw [List.nodup_append]
      refine ⟨z6, by simp, fun x hx y hy => ?_⟩
      simp at hy
      subst hy
      exact fun hh => hn ((z7 y).1 (hh ▸ hx)).1
    · rw [List.mem_append, List.mem_singleton, z7 j]
      constructor
      · rintro (⟨h1, h2⟩ | rfl)
        · exact ⟨.inl h1, h2⟩
        · exact ⟨.inr rfl, hil, o, q, hi, hq⟩
      · rintro ⟨h1 | h1, h2⟩
        · exact .inl ⟨h1, h2⟩
        · exact .inr h1
end
end Go.Ab

/- A map that a region makes, fills and keeps: what comes behind. -/
namespace Go.Ab
open Go
variable {C : Cx} {ds : List Deferred}

theorem stepS_mk {n : Nat} {ops : List Oper} {o : Oper} {c : CallT} {f : Fr} {h h' : Hp} {v : AV} (hg : o.guard = none) (hx : stepS (mkS C n ops o) c f h = .ok v h') : xO (mk C o) c f h = .ok v h' ∧ (mkS C n ops o).d = o.dst.map path ∧ (∀ t, o.dst = some t → t < n) := by
  rcases mkS_spec (C := C) (n := n) (ops := ops) (o := o) with ⟨g, g1, g2, g3⟩ | ⟨q, g2⟩
  · have hgn : g = none := by
      unfold mkGuard at g1
      rw [hg] at g1
      cases g1; rfl
    subst hgn
    rw [g2] at hx
    exact ⟨hx, by rw [g2], g3⟩
  · rw [g2] at hx
    exact (no_ok (w := q) hx).elim

/-- What fills it, one behind the other. -/
theorem ins_tail {n t0 : Nat} {ops : List Oper} {c : CallT} {F1 F2 : Fr} {He2 : Hp} {N : Nat} (hN : slot F1 t0 = .map N) {tl : List CS} : ∀ (l : List Oper) (H : Hp) (es : Es), (∀ o ∈ l, ∃ q, insOf C t0 o = some q) → H.get N = some (.map es) → (∀ o ∈ l, ∀ q, insOf C t0 o = some q → ∀ x ∈ (es : List (AV × AV)), keyEq q.1 x.1 = some false) →
    (l.filterMap (insOf C t0)).Pairwise (fun a b => keyEq a.1 b.1 = some false ∧ keyEq b.1 a.1 = some false) → runR (mkSeq C n ops l ++ tl) c F1 H = .norm F2 He2 →
    ∃ H', runR tl c F1 H' = .norm F2 He2 ∧ H'.get N = some (.map (es ++ (l.filterMap (insOf C t0)).map fun q => (q.1, ev F1 q.2))) ∧ (∀ b, b ≠ N → H'.get b = H.get b) ∧ H'.n = H.n ∧ H'.lk = H.lk ∧ ∀ o ∈ l, ∀ q, insOf C t0 o = some q → InsF C t0 o q
  | [], H, es, _, hget, _, _, hx => ⟨H, hx, by simpa using hget, fun _ _ => rfl, rfl, rfl, fun o ho => by cases ho⟩
  | o :: l, H, es, hall, hget, hk, hpw, hx => by
    obtain ⟨q, hq⟩ := hall o (.head _)
    obtain ⟨t, k, z, i1, i2, i3, i4, i5⟩ := insOf_spec hq
    have hag : (mkS C n ops o).again = false := by
      rcases mkS_spec (C := C) (n := n) (ops := ops) (o := o) with ⟨g, g1, g2, _⟩ | ⟨q, g2⟩ <;> rw [g2]
    have hx : runR (mkS C n ops o :: (mkSeq C n ops l ++ tl)) c F1 H = .norm F2 He2 := hx
    obtain ⟨v, H1, hst, hx⟩ := runR_once hag hx
    obtain ⟨hxo, hd, _⟩ := stepS_mk i2 hst
    rw [hd, i3] at hx
    have hx : runR (mkSeq C n ops l ++ tl) c F1 H1 = .norm F2 He2 := hx
    simp only [mk, i1] at hxo
    obtain ⟨co, h1, hxo⟩ := orBad_ok hxo
    have hs1 : sx C (.tmp t0) = some (.t (path t0)) := rfl
    have hs2 : sx C (.const k) = some (.c q.1) := by
      show (conv k).map Sx.c = _
      rw [i4]; rfl
    rw [hs1, hs2, i5] at h1
    cases hkd : keyKd C t with
    | none => rw [hkd] at h1; cases h1
    | some kd =>
      rw [hkd] at h1
      cases h1
      have hxo : (ev F1 (.t (path t0))).onMap R2.no (.no "mapUpdate: nil") (fun r => H.onMap r (.no "mapUpdate: no map") fun es => muIn kd q.1 (ev F1 q.2) es r H) = .ok v H1 := hxo
      have hev : ev F1 (.t (path t0)) = .map N := hN
      rw [hev] at hxo
      have hxo : H.onMap N (.no "mapUpdate: no map") (fun es => muIn kd q.1 (ev F1 q.2) es N H) = .ok v H1 := hxo
      unfold Hp.onMap at hxo
      rw [hget] at hxo
      have hxo : muIn kd q.1 (ev F1 q.2) es N H = .ok v H1 := hxo
      unfold muIn at hxo
      rw [force_eq, force_eq] at hxo
      obtain ⟨hk1, hxo⟩ := ifbR hxo
      rw [findK_no 0 (hk o (.head _) q hq)] at hxo
      have hxo : (appS es [(q.1, ev F1 q.2)]).bd (fun es => R2.put H N (.map es) undefA) = .ok v H1 := hxo
      rw [appS_eq, Bx.bd_mk] at hxo
      obtain ⟨rfl, rfl, _⟩ := R2.put_ok hxo
      have hget1 : Hp.get ⟨setT (.map (es ++ [(q.1, ev F1 q.2)])) (path N) H.t, H.n, H.lk⟩ N = some (.map (es ++ [(q.1, ev F1 q.2)])) := by rw [Hp.get_set _ _ H.n, if_pos rfl]
      have hfm : (o :: l).filterMap (insOf C t0) = q :: l.filterMap (insOf C t0) := by rw [List.filterMap_cons, hq]
      rw [hfm] at hpw
      obtain ⟨hp1, hp2⟩ := List.pairwise_cons.1 hpw
      obtain ⟨H', r1, r2, r3, r4, r5, r6⟩ := ins_tail hN l _ _ (fun o' ho' => hall o' (.tail _ ho')) hget1 (fun o' ho' q' hq' x hx' => by
        rcases List.mem_append.1 hx' with hx' | hx'
        · exact hk o' (.tail _ ho') q' hq' x hx'
        · simp at hx'
          subst hx'
          exact (hp1 q' (List.mem_filterMap.2 ⟨o', ho', hq'⟩)).2) hp2 hx
      refine ⟨H', r1, ?_, fun b hb => ?_, r4, r5, fun o' ho' q' hq' => ?_⟩
      · rw [r2, hfm, List.map_cons, List.append_assoc]; rfl
      · rw [r3 b hb, Hp.get_set _ _ H.n, if_neg hb]
      · rcases List.mem_cons.1 ho' with rfl | ho'
        · rw [hq] at hq'; cases hq'
          exact ⟨t, k, z, kd, i1, i2, i3, i4, i5, hkd, hk1⟩
        · exact r6 o' ho' q' hq'

section
variable {n : Nat} {ops : Array Oper} {c : CallT} {F2 : Fr} {He2 : Hp} {e0 : Emb} {h0 : Hp} {w0 : World} {Q : Exit → Act → World → Prop}
/-- Operations of which each stands behind all ahead of it. -/
theorem chain_sim (hc : CallOK C c) (hg0 : GR C e0) (hne : ∀ listed : Array Bool, listed.size = ops.size → (∃ j, j < ops.size ∧ ¬ Lst listed j) → Region.ready .any ops listed ≠ []) (hq : ∀ e a w, Ext e0 h0 w0 e He2 w → FN ds n e F2 a → Q .normal a w) : ∀ (l : List Oper) (i : Nat), (∀ k o, l[k]? = some o → ops[i + k]? = some o) → i + l.length = ops.size → (∀ j, i ≤ j → j < ops.size → ∀ k, k < j → ((Rgn.of C n ops).a j).testBit k = true) →
    ∀ (fuel : Nat) (listed : Array Bool) (e : Emb) (f : Fr) (h : Hp) (a : Act) (w : World), listed.size = ops.size → (∀ j, j < ops.size → (Lst listed j ↔ j < i)) → Closed ops (Lst listed) → listed.toList.count false ≤ fuel → Ext e0 h0 w0 e h w → FN ds n e f a → runR (mkSeq C n ops.toList l) c f h = .norm F2 He2 → owAny C.P .any ops Q fuel listed a w
  | [], i, _, hi, _, fuel, listed, e, f, h, a, w, hsz, hl, hcl, hf, hext, hfn, hx => by
    cases hx
    have hr : Region.ready .any ops listed = [] := by
      refine List.eq_nil_iff_forall_not_mem.2 fun j hj => ?_
      obtain ⟨h1, o, ho, _⟩ := mem_ready.1 hj
      have hjl : j < ops.size := (Array.getElem?_eq_some_iff.1 ho).1
      exact (Lst.not (by omega)).2 h1 ((hl j hjl).2 (by simp at hi; omega))
    exact owAny_done hr (hq e a w hext hfn) fuel
  | o :: l, i, ho, hi, han, fuel, listed, e, f, h, a, w, hsz, hl, hcl, hf, hext, hfn, hx => by
    simp only [List.length_cons] at hi
    have hil : i < ops.size := by omega
    have hoi : ops[i]? = some o := by simpa using ho 0 o rfl
    have hun : listed.getD i true = false := (Lst.not (by omega)).1 (fun hh => by have := (hl i hil).1 hh; omega)
    have hcnt := count_listed (by omega) hun
    cases fuel with
    | zero => omega
    | succ fuel =>
      refine ⟨fun hr => absurd hr (hne listed hsz ⟨i, hil, (Lst.not (by omega)).2 hun⟩), fun j hj => ?_⟩
      obtain ⟨j1, oj, hoj, j2⟩ := mem_ready.1 hj
      have hjl : j < ops.size := (Array.getElem?_eq_some_iff.1 hoj).1
      have hji : j = i := by
        have h1 : ¬ j < i := fun hh => (Lst.not (by omega)).2 j1 ((hl j hjl).2 hh)
        refine Classical.byContradiction fun hne' => ?_
        have hdep := of_a (han j (by omega) hjl i (by omega))
        have := hcl.ahead hdep fun o' d ho' hd hb => by
          rw [hoj] at ho'; cases ho'
          exact j2 d hd hb
        have := (hl i hil).1 this
        omega
      subst hji
      have hag : (mkS C n ops.toList o).again = false := by rw [← of_s (C := C) (n := n) hoi]; exact of_again j
      obtain ⟨v, h2, hst, hx⟩ := runR_once hag hx
      have hst' : stepS ((Rgn.of C n ops).s j) c f h = .ok v h2 := by rw [of_s hoi]; exact hst
      obtain ⟨hd1, hd2⟩ := of_d hoi hst'
      rw [of_s hoi] at hd1
      refine stepS_sim hc hoi hst' (hg0.mono hext.le) hfn hext.hr fun e' v' w' hx2 hvr => ?_
      refine chain_sim hc hg0 hne hq l (j + 1) (fun k o' hk => ?_) (by omega) (fun k hk => han k (by omega)) fuel _ e' _ h2 _ w' (by simpa using hsz) (fun k hk => ?_) ?_ (by omega) (hext.trans hx2) ?_ hx
      · have := ho (k + 1) o' (by simpa using hk)
        rw [show j + 1 + k = j + (k + 1) by omega]; exact this
      · rw [Lst.set (by omega), hl k hk]; omega
      · intro k o' d hk ho' hd hb
        refine (Lst.set (by omega) _).2 (.inl ?_)
        rcases (Lst.set (by omega) k).1 hk with hk | rfl
        · exact hcl k o' d hk ho' hd hb
        · rw [hoj] at ho'; cases ho'
          exact j2 d hd hb
      · rw [hd1]; exact (hfn.mono hx2.le).putO hd2 hvr
end
end Go.Ab

/- A map that a region makes, fills and keeps: in whatever order. -/
namespace Go.Ab
open Go
variable {C : Cx} {ds : List Deferred}

/-- Who is not done, with all that stands ahead listed, is the next deed. -/
theorem next_deed {r : Rgn} {F f0 : Fr} {c : CallT} {He : Hp} {n : Nat} {e0 : Emb} {h0 : Hp} {w0 : World} {D : Nat → Prop} {a : Act} {w : World} {dn : Nat → Prop} {ld : List Nat} {last' : Option Nat} {rest : List Ep} {fj : Fr} {H : Hp} {nm : Nat → Option Nat} {e : Emb} {f : Fr}
    (I : Inv ds r F f0 c He n e0 h0 w0 D a w dn ld last' rest fj H nm e f) {i : Nat} (hlen : i < r.ss.length) (hnd : ¬ dn i) (hanc : ∀ p, (r.a i).testBit p = true → D p) : r.k i = 3 := by
  have hmem : i ∈ rest.flatMap Ep.order := (I.mid.order.all i hlen).resolve_left hnd
  have hout := I.mid.order.out
  cases hr : rest with
  | nil => rw [hr] at hmem; cases hmem
  | cons ep rest' =>
    rw [hr] at hmem hout
    obtain ⟨d, hd⟩ := Option.isSome_iff_exists.1 (I.mid.isSome ep (by rw [hr]; exact .head _))
    have heps := I.mid.eps
    rw [hr] at heps
    obtain ⟨h1, h2, _, _, h5⟩ := heps
    have hno : ∀ x, x ∈ (ep :: rest').flatMap Ep.order → ¬ (r.a i).testBit x = true := fun x hx hb => hout x hx (I.sub x (hanc x hb))
    have hdm : d ∈ (ep :: rest').flatMap Ep.order := by
      rw [List.flatMap_cons]
      refine List.mem_append_left _ ?_
      unfold Ep.order; rw [hd]; exact .head _
    by_cases hid : i = d
    · rw [hid]; exact (h1 d hd).1
    · exfalso
      rw [List.flatMap_cons, List.mem_append] at hmem
      rcases hmem with hmem | hmem
      · unfold Ep.order at hmem
        rw [hd] at hmem
        have hmem : i ∈ d :: ep.ls := hmem
        rcases List.mem_cons.1 hmem with hh | hh
        · exact hid hh
        · exact hno d hdm ((h2 i hh).2 d hd)
      · rw [hd] at h5
        obtain ⟨x, hx, hx2⟩ := eps_behind h5 (fun e' he' => I.mid.isSome e' (by rw [hr]; exact .tail _ he')) i hmem
        rcases hx with rfl | hx
        · exact hno x hdm hx2
        · exact hno x (by rw [List.flatMap_cons]; exact List.mem_append_right _ hx) hx2

theorem runR_badA {q : String} {c : CallT} : ∀ {l : List CS} {f f' : Fr} {h h' : Hp}, runR l c f h = .norm f' h' → ⟨.bad q, none, none, false⟩ ∉ l := runR_bad

theorem insOK_spec {r : Rgn} {t0 : Nat} {o : Oper} {q : AV × Sx} (hq : insOf C t0 o = some q) (l : List Oper) : ∀ (k : Nat), insOK C r t0 k l = true → ∀ (i : Nat), l[i]? = some o → k + i ≠ 0 ∧ (r.a (k + i)).testBit 0 = true ∧ q.2.us.testBit t0 = false ∧ within (Nat.land q.2.us (r.dsts (bits r.all))) (r.dsts (r.a (k + i))) = true := by
  induction l with
  | nil => intro k _ i hi; simp at hi
  | cons o' l ih =>
    intro k h i hi
    have h : and (match insOf C t0 o' with
      | some q => and (not (Nat.beq k 0)) (and ((r.a k).testBit 0) (and (not (q.2.us.testBit t0)) (within (Nat.land q.2.us (r.dsts (bits r.all))) (r.dsts (r.a k)))))
      | none => true) (insOK C r t0 (k + 1) l) = true := h
    obtain ⟨h1, h2⟩ := Bool.and_eq_true_iff.1 h
    cases i with
    | zero =>
      have hi : o' = o := by simpa using hi
      rw [hi, hq] at h1
      simp only [Bool.and_eq_true, Bool.not_eq_true'] at h1
      obtain ⟨k1, k2, k3, k4⟩ := h1
      refine ⟨fun hh => ?_, k2, k3, k4⟩
      rw [show k = 0 by omega] at k1
      cases k1
    | succ i =>
      have := ih (k + 1) h2 i (by simpa using hi)
      rw [show k + (i + 1) = k + 1 + i by omega]; exact this

/-- What is made sure of. -/
structure LitP (C : Cx) (n t0 last : Nat) (ops : Array Oper) (r : Rgn) (o0 : Oper) (t : TypeId) (F f0 : Fr) (c : CallT) : Prop where
  hr : r = Rgn.lit C n ops t0 last
  P : Plan r
  one : 1 ≤ last
  le : last ≤ ops.size
  tail : ∀ i, i < ops.size → last ≤ i → ∀ k, k < i → (r.a i).testBit k = true
  zero : ops[0]? = some o0
  zop : o0.op = .makeMap t none
  zsl : slotOK n o0 = some t0
  mapT : ∃ kt el, C.P.underlying t = some (.map kt el)
  ins : ∀ (i : Nat) (o : Oper) (q : AV × Sx), i < last → ops[i]? = some o → insOf C t0 o = some q → i ≠ 0 ∧ (r.a i).testBit 0 = true ∧ q.2.us.testBit t0 = false ∧ within (Nat.land q.2.us (r.dsts (bits r.all))) (r.dsts (r.a i)) = true ∧ InsF C t0 o q
  keys : ∀ (i j : Nat) (o o' : Oper) (q q' : AV × Sx), i ≠ j → i < last → j < last → ops[i]? = some o → ops[j]? = some o' → insOf C t0 o = some q → insOf C t0 o' = some q' → keyEq q.1 q'.1 = some false
  good : ∀ (i : Nat) (o : Oper), ops[i]? = some o → i ≠ 0 → i < last → insOf C t0 o = none → (r.s i).d = o.dst.map path
  hF0 : ∀ q, (∀ i, i < r.ss.length → (r.s i).d ≠ some (path q)) → slot F q = slot f0 q
  ready : ∀ listed : Array Bool, listed.size = ops.size → (∃ j, j < ops.size ∧ ¬ Lst listed j) → Region.ready .any ops listed ≠ []

section
variable {n t0 last : Nat} {ops : Array Oper} {r : Rgn} {o0 : Oper} {t : TypeId} {F f0 : Fr} {c : CallT} {He : Hp} {e0 : Emb} {h0 : Hp} {w0 : World} {Q : Exit → Act → World → Prop}

theorem LitP.zeroIns (L : LitP C n t0 last ops r o0 t F f0 c) : insOf C t0 o0 = none := by
  cases h : insOf C t0 o0 with
  | none => rfl
  | some q =>
    obtain ⟨t', k, z, h1, _⟩ := insOf_spec h
    rw [L.zop] at h1; cases h1
theorem LitP.s0 (L : LitP C n t0 last ops r o0 t F f0 c) : r.s 0 = ⟨.mv (.c anyA), none, some (path t0), false⟩ := by
  rw [L.hr, lit_s L.zero]; rfl
theorem LitP.len (L : LitP C n t0 last ops r o0 t F f0 c) : r.ss.length = ops.size := by rw [L.hr]; exact lit_length
theorem LitP.a (L : LitP C n t0 last ops r o0 t F f0 c) (i : Nat) : r.a i = (Rgn.of C n ops).a i := by rw [L.hr]; rfl

theorem lit_any (L : LitP C n t0 last ops r o0 t F f0 c) (hg : GR C e0) (hc : CallOK C c)
    (hconv : ∀ (fuel : Nat) (listed : Array Bool) (a : Act) (w : World), listed.size = ops.size → listed.toList.count false ≤ fuel → Closed ops (Lst listed) → (∀ i, i < last → Lst listed i) → (∀ i, last ≤ i → ¬ Lst listed i) → InvZ C ds r F f0 c He n e0 h0 w0 t0 last ops (Lst listed) a w → owAny C.P .any ops Q fuel listed a w) :
    ∀ (fuel : Nat) (listed : Array Bool) (a : Act) (w : World), listed.size = ops.size → listed.toList.count false ≤ fuel → Closed ops (Lst listed) → (∀ i, last ≤ i → ¬ Lst listed i) → InvZ C ds r F f0 c He n e0 h0 w0 t0 last ops (Lst listed) a w → owAny C.P .any ops Q fuel listed a w := by
  intro fuel
  induction fuel with
  | zero =>
    intro listed a w hsz hf hcl hnl I
    refine hconv 0 listed a w hsz hf hcl (fun i hi => Classical.byContradiction fun hn => ?_) hnl I
    have hil : i < listed.size := by have := L.le; omega
    have := count_listed hil ((Lst.not hil).1 hn)
    omega
  | succ fuel ih =>
    intro listed a w hsz hf hcl hnl I
    by_cases hall : ∀ i, i < last → Lst listed i
    · exact hconv (fuel + 1) listed a w hsz hf hcl hall hnl I
    · obtain ⟨x, hx1, hx2⟩ : ∃ x, x < last ∧ ¬ Lst listed x := Classical.byContradiction fun hn => hall fun i hi => Classical.byContradiction fun h => hn ⟨i, hi, h⟩
      refine ⟨fun hr => absurd hr (L.ready listed hsz ⟨x, by have := L.le; omega, hx2⟩), fun i hi => ?_⟩
      obtain ⟨h1, o, ho, h2⟩ := mem_ready.1 hi
      have hio : i < ops.size := (Array.getElem?_eq_some_iff.1 ho).1
      have hil : i < listed.size := by omega
      have hn : ¬ Lst listed i := (Lst.not hil).2 h1
      have hanc : ∀ p, (r.a i).testBit p = true → Lst listed p := fun p hp => hcl.ahead (of_a (C := C) (n := n) (by rw [← L.a]; exact hp)) fun o' d ho' hd hb => by
        rw [ho] at ho'; cases ho'
        exact h2 d hd hb
      have hlast : i < last := Classical.byContradiction fun hge => hx2 (hanc x (L.tail i hio (by omega) x (by omega)))
      have hW : Whole r (Lst listed) := fun p hp q hq => hcl.dep (of_a (C := C) (n := n) (by rw [← L.a]; exact hq)) hp
      have hcl' : Closed ops (Lst (listed.setIfInBounds i true)) := fun j o' d hj ho' hd hb => by
        refine (Lst.set hil _).2 (.inl ?_)
        rcases (Lst.set hil j).1 hj with hj | rfl
        · exact hcl j o' d hj ho' hd hb
        · rw [ho] at ho'; cases ho'
          exact h2 d hd hb
      have hK : ∀ a' w', InvZ C ds r F f0 c He n e0 h0 w0 t0 last ops (fun j => Lst listed j ∨ j = i) a' w' → owAny C.P .any ops Q fuel (listed.setIfInBounds i true) a' w' := fun a' w' I' => by
        refine ih _ a' w' (by simpa using hsz) ?_ hcl' (fun j hj hh => ?_) ?_
        · have := count_listed hil h1
          omega
        · rcases (Lst.set hil j).1 hh with hh | hh
          · exact hnl j hj hh
          · omega
        · have : Lst (listed.setIfInBounds i true) = fun j => Lst listed j ∨ j = i := funext fun j => propext (Lst.set hil j)
          rw [this]; exact I'
      obtain ⟨dn, ld, last', rest, fj, H, nm, e, f, I, Z⟩ := I
      have hlen : i < r.ss.length := by rw [L.len]; exact hio
      by_cases hi0 : i = 0
      · subst hi0
        rw [L.zero] at ho; cases ho
        have hd : dn 0 := Classical.byContradiction fun hnd => by
          have := next_deed I hlen hnd hanc
          rw [Rgn.k, L.s0] at this; cases this
        have hview : View r F f0 0 f := I.slots.view (L.P.use 0 hlen) L.P.once hanc fun _ p _ hor hD => hor.elim (fun h => hn (h ▸ hD)) fun hb => hn (hW p hD 0 hb)
        have hFt : slot F t0 = anyA := by
          obtain ⟨v, hv, hcase⟩ := I.facts 0 hd hn
          have hva : v = anyA := by
            rcases hcase with ⟨_, hx⟩ | ⟨hk, _⟩ | ⟨hk, _⟩
            · have := hx f H hview
              rw [L.s0] at this
              have this : R2.ok anyA H = .ok v H := this
              cases this; rfl
            · rw [Rgn.k, L.s0] at hk; cases hk
            · rw [Rgn.k, L.s0] at hk; cases hk
          rw [← hva]
          exact hv t0 (by rw [L.s0])
        refine owOp_mono hK (make_stepZ I L.zero L.zop L.zsl L.s0 hlen hd hn hFt L.mapT (fun j hj hins => ?_) fun hins => ?_)
        · obtain ⟨k1, oj, qj, k2, k3⟩ := hins
          exact hn (hW j hj 0 (L.ins j oj qj k1 k2 k3).2.1)
        · obtain ⟨_, oj, qj, k2, k3⟩ := hins
          rw [L.zero] at k2; cases k2
          rw [L.zeroIns] at k3; cases k3
      · cases hio2 : insOf C t0 o with
        | some q =>
          obtain ⟨_, k2, k3, k4, k5⟩ := L.ins i o q hlast ho hio2
          have hsi : r.s i = noCS := by rw [L.hr, lit_s ho, litS_ins hi0 hio2]
          have hd : dn i := Classical.byContradiction fun hnd => by
            have := next_deed I hlen hnd hanc
            rw [Rgn.k, hsi] at this; cases this
          have hval : ev f q.2 = ev F q.2 := by
            cases hq2 : q.2 with
            | c v => rfl
            | t p =>
              have e1 : ∀ g : Fr, ev g (.t p) = slot g (unpath p) := fun g => by rw [slot_path]; show Option.rec (motive := fun _ => AV) undefA (fun v => v) (getP p g) = _; cases getP p g <;> rfl
              rw [e1, e1]
              have hus : q.2.us.testBit (unpath p) = true := by rw [hq2]; exact Nat.testBit_two_pow_self
              by_cases hset : ∃ m, m < r.ss.length ∧ (r.s m).d = some (path (unpath p))
              · obtain ⟨m, hm1, hm2⟩ := hset
                have hbit : (q.2.us &&& r.dsts (bits r.all)).testBit (unpath p) = true := by
                  rw [Nat.testBit_and, hus, Bool.true_and]
                  exact (dsts_spec _ _ _).2 ⟨m, hm1, (bits_spec _ _).2 (all_mem.2 hm1), hm2⟩
                obtain ⟨m', h3, h4, h5⟩ := (dsts_spec _ _ _).1 (within_spec k4 hbit)
                exact I.slots.1 m' h3 (hanc m' h4) _ h5
              · have hno : ∀ m, m < r.ss.length → (r.s m).d ≠ some (path (unpath p)) := fun m hm hh => hset ⟨m, hm, hh⟩
                rw [I.slots.2 _ fun m hm _ => hno m hm, L.hF0 _ hno]
          exact owOp_mono hK (ins_stepZ hg I Z ho hio2 hlast k5 hsi hlen hd hn (hanc 0 k2) hval fun j oj qj hne hjl hj hqj => L.keys i j o oj q qj (fun hh => hne hh.symm) hlast hjl ho hj hio2 hqj)
        | none =>
          have hsi : r.s i = (Rgn.of C n ops).s i := by rw [L.hr]; exact lit_ord ho hi0 hlast hio2
          have hni : ¬ IsIns C t0 last ops i := fun hh => by
            obtain ⟨_, oj, qj, k2, k3⟩ := hh
            rw [ho] at k2; cases k2
            rw [hio2] at k3; cases k3
          have hdst : o.dst ≠ some t0 := fun hh => by
            have h3 := L.good i o ho hi0 hlast hio2
            rw [hh] at h3
            exact hi0 (L.P.once i 0 t0 hlen (by omega) h3 (by rw [L.s0]))
          by_cases hd : dn i
          · exact owOp_mono hK (light_stepZ L.P hg hc I Z ho hsi (by rw [L.hr]; rfl) hi0 hni hdst hd hn hanc hW)
          · exact owOp_mono hK (heavy_stepZ L.P hg hc L.len I Z ho hsi hi0 hni hdst hd hanc hW)
end
end Go.Ab

/- A map that a region makes, fills and keeps: DrawOK. -/
namespace Go.Ab
open Go
variable {C : Cx} {ds : List Deferred}

theorem ERL.perm {e : Emb} {es es2 : Es} (hp : (es : List (AV × AV)).Perm es2) : ∀ {l : List (Value × Value)}, ERL e es l → ∃ l2, ERL e es2 l2 ∧ l.Perm l2 := by
  induction hp with
  | nil => intro l h; exact ⟨l, h, .refl _⟩
  | cons x _ ih =>
    intro l h
    cases h with
    | cons k v k' v' _ l' a b c d =>
      obtain ⟨l2, h1, h2⟩ := ih d
      exact ⟨_, .cons k v k' v' _ l2 a b c h1, h2.cons _⟩
  | swap x y _ =>
    intro l h
    cases h with
    | cons k v k' v' _ l' a b c d =>
      cases d with
      | cons k2 v2 k2' v2' _ l'' a2 b2 c2 d2 => exact ⟨_, .cons _ _ _ _ _ _ a2 b2 c2 (.cons _ _ _ _ _ _ a b c d2), .swap _ _ _⟩
  | trans _ _ ih1 ih2 =>
    intro l h
    obtain ⟨l2, h1, h2⟩ := ih1 h
    obtain ⟨l3, h3, h4⟩ := ih2 h1
    exact ⟨l3, h3, h2.trans h4⟩
theorem BR.permM {e : Emb} {es es2 : Es} {g : Nat} {x : Loc} {ob : Option Obj} (hp : (es : List (AV × AV)).Perm es2) (h : BR e (.map es) g x ob) : BR e (.map es2) g x ob := by
  cases h with
  | cells c t fr q => exact q.cells.elim
  | sit s pos a _ => cases a
  | iter _ _ _ _ a _ => cases a
  | lp q0 fn0 tm0 df0 a => cases a
  | busy o0 a => cases a
  | dfr a => cases a
  | map es3 es' clock l a b c d f k mb =>
    cases a
    obtain ⟨l2, h1, h2⟩ := c.perm hp
    exact .map es2 es' clock l2 rfl b h1 (h2.symm.trans d) (List.Perm.pairwise hp f fun h => ⟨h.2, h.1⟩) k mb

/-- What the model made beside what is known is taken in. -/
theorem Ext.adopt {e0 e : Emb} {h0 H H' : Hp} {w0 w : World} (x : Ext e0 h0 w0 e H w) {rm : Nat} {B : Blk} (h1 : w0.heap.size ≤ rm) (h2 : rm < w.heap.size) (h3 : ∀ b g y, e b g = some y → y.r ≠ rm) (hget : H'.get H.n = some B) (hold : ∀ b, b ≠ H.n → H'.get b = H.get b) (hn : H'.n = H.n + 1) (hlk : H'.lk = H.lk) (hbr : BR e B 0 ⟨rm, 0, 0, 0⟩ w.heap[rm]?) :
    ∃ e', e.le e' ∧ e' H.n 0 = some ⟨rm, 0, 0, 0⟩ ∧ Ext e0 h0 w0 e' H' w := by
  have hno : ∀ g, e H.n g = Option.none := fun g => by
    cases hx : e H.n g with
    | none => rfl
    | some y => exact absurd (x.hr.lt _ _ _ hx).2 (Nat.lt_irrefl _)
  let y : Loc := ⟨rm, 0, 0, 0⟩
  let e' : Emb := fun k g => if k = H.n ∧ g = 0 then some y else e k g
  have hle : e.le e' := fun k g z hz => by
    show (if k = H.n ∧ g = 0 then some y else e k g) = some z
    by_cases hc : k = H.n ∧ g = 0
    · rw [hc.1, hno g] at hz; cases hz
    · rw [if_neg hc]; exact hz
  have hnew : e' H.n 0 = some y := by simp [e']
  have hcase : ∀ k g z, e' k g = some z → (k = H.n ∧ g = 0 ∧ z = y) ∨ e k g = some z := fun k g z hz => by
    by_cases hc : k = H.n ∧ g = 0
    · have : e' k g = some y := by show (if k = H.n ∧ g = 0 then some y else e k g) = some y; rw [if_pos hc]
      rw [this] at hz; cases hz; exact .inl ⟨hc.1, hc.2, rfl⟩
    · have : e' k g = e k g := by show (if k = H.n ∧ g = 0 then some y else e k g) = _; rw [if_neg hc]
      rw [this] at hz; exact .inr hz
  refine ⟨e', hle, hnew, x.le.trans hle, ⟨?_, ?_, ?_⟩, ?_, ?_, x.frame, ?_, ?_, by rw [hn]; exact Nat.le_succ_of_le x.n, x.size, x.os, x.output, hlk.trans x.lk⟩
  · intro k g z k' g' z' hz hz' hrr
    rcases hcase _ _ _ hz with ⟨j1, j2, j3⟩ | j1 <;> rcases hcase _ _ _ hz' with ⟨i1, i2, i3⟩ | i1
    · subst j3; subst i3; exact ⟨j1.trans i1.symm, rfl⟩
    · subst j3; exact absurd hrr.symm (h3 _ _ _ i1)
    · subst i3; exact absurd hrr (h3 _ _ _ j1)
    · exact x.hr.inj _ _ _ _ _ _ j1 i1 hrr
  · intro k g z hz
    rw [hn]
    rcases hcase _ _ _ hz with ⟨j1, j2, j3⟩ | j1
    · subst j3; exact ⟨h2, by omega⟩
    · have := x.hr.lt _ _ _ j1; exact ⟨this.1, by omega⟩
  · intro k g z hz
    rcases hcase _ _ _ hz with ⟨j1, j2, j3⟩ | j1
    · subst j1; subst j2; subst j3
      exact ⟨B, hget, hbr.mono hle⟩
    · obtain ⟨bb, i2, i3⟩ := x.hr.at' _ _ _ j1
      exact ⟨bb, by rw [hold k (Nat.ne_of_lt (x.hr.lt _ _ _ j1).2)]; exact i2, i3.mono hle⟩
  · intro k g z hz
    rcases hcase _ _ _ hz with ⟨j1, _, _⟩ | j1
    · exact .inr (by have := x.n; omega)
    · exact x.names k g z j1
  · intro k g z hz
    rcases hcase _ _ _ hz with ⟨j1, j2, j3⟩ | j1
    · subst j3; exact .inr h1
    · exact x.blocks k g z j1
  · intro b hb hno'
    rw [hold b (by have := x.n; omega)]
    exact x.ours b hb hno'
  · intro b hb
    rw [hold b (by have := x.n; have := hb.1; omega)]
    exact x.ro b hb

theorem filterMap_range {α β : Type} (g : α → Option β) : ∀ (l : List α), l.filterMap g = (List.range l.length).filterMap fun i => (l[i]?).bind g := by
  intro l
  induction l with
  | nil => rfl
  | cons x l ih =>
    rw [List.length_cons, List.range_succ_eq_map, List.filterMap_cons, List.filterMap_cons, List.filterMap_map, ih]
    cases h : g x with
    | none => simp [h, Function.comp_def]
    | some y => simp [h, Function.comp_def]

section
variable {n t0 last : Nat} {ops : Array Oper} {r : Rgn} {o0 : Oper} {t : TypeId} {F f0 F1 F2 : Fr} {c : CallT} {He H1 He2 : Hp} {e0 : Emb} {h0 : Hp} {w0 : World} {Q : Exit → Act → World → Prop}

theorem lit_conv (L : LitP C n t0 last ops r o0 t F f0 c) (hg : GR C e0) (hc : CallOK C c) {es : Es} (hF1 : F1 = setT (.map He.n) (path t0) F) (hes : es = ((ops.toList.take last).filterMap (insOf C t0)).map fun q => (q.1, ev F1 q.2))
    (g1 : H1.get He.n = some (.map es)) (g2 : ∀ b, b ≠ He.n → H1.get b = He.get b) (g3 : H1.n = He.n + 1) (g4 : H1.lk = He.lk) (hB : runR (mkSeq C n ops.toList (ops.toList.drop last)) c F1 H1 = .norm F2 He2) (hqn : ∀ e a w, Ext e0 h0 w0 e He2 w → FN ds n e F2 a → Q .normal a w) :
    ∀ (fuel : Nat) (listed : Array Bool) (a : Act) (w : World), listed.size = ops.size → listed.toList.count false ≤ fuel → Closed ops (Lst listed) → (∀ i, i < last → Lst listed i) → (∀ i, last ≤ i → ¬ Lst listed i) → InvZ C ds r F f0 c He n e0 h0 w0 t0 last ops (Lst listed) a w → owAny C.P .any ops Q fuel listed a w := by
  intro fuel listed a w hsz hf hcl hall hnl ⟨dn, ld, last', rest, fj, H, nm, e, f, I, Z⟩
  have hlen := L.len
  have htail : ∀ i, i < ops.size → last ≤ i → r.s i = noCS := fun i hi hl => by
    have : ops[i]? = some ops[i] := by simp [hi]
    rw [L.hr, lit_s this]
    exact litS_tail (by have := L.one; omega) hl
  have hrest : rest = [] := by
    cases hrs : rest with
    | nil => rfl
    | cons ep rest' =>
      obtain ⟨d, hd⟩ := Option.isSome_iff_exists.1 (I.mid.isSome ep (by rw [hrs]; exact .head _))
      have hdm : d ∈ rest.flatMap Ep.order := by
        rw [hrs, List.flatMap_cons]
        refine List.mem_append_left _ ?_
        unfold Ep.order; rw [hd]; exact .head _
      have hdl := I.mid.lt d hdm
      rw [hlen] at hdl
      have heps := I.mid.eps
      rw [hrs] at heps
      have hk3 := (heps.1 d hd).1
      have hdlast : d < last := Classical.byContradiction fun hge => by
        rw [Rgn.k, htail d hdl (by omega)] at hk3; cases hk3
      exact absurd (I.sub d (hall d hdlast)) (I.mid.order.out d hdm)
  have hrun := I.mid.run
  rw [hrest] at hrun
  have hrun : Out.norm fj H = .norm F He := hrun
  cases hrun
  have hslot : ∀ q, slot f q = slot F q := fun q => by
    by_cases hs : ∃ i, i < r.ss.length ∧ (r.s i).d = some (path q)
    · obtain ⟨i, hi, hid⟩ := hs
      have hil : i < last := Classical.byContradiction fun hge => by
        rw [htail i (by rw [← hlen]; exact hi) (by omega)] at hid; cases hid
      exact I.slots.1 i hi (hall i hil) q hid
    · have hno : ∀ i, i < r.ss.length → (r.s i).d ≠ some (path q) := fun i hi hid => hs ⟨i, hi, hid⟩
      rw [I.slots.2 q fun i hi _ => hno i hi, L.hF0 q hno]
  have hfnF : FN ds n e F a := ⟨⟨fun q => by rw [← hslot]; exact I.fn.1.1 q, I.fn.1.2⟩, I.fn.2⟩
  obtain ⟨rm, P, z1, z2, z3, z4, z5, z6, z7⟩ := Z (hall 0 (by have := L.one; omega))
  -- the entries, in another order
  have hev : ∀ i q, i < last → (ops[i]?).bind (insOf C t0) = some q → ev F1 q.2 = ev F q.2 := fun i q hi hq => by
    cases ho : ops[i]? with
    | none => rw [ho] at hq; cases hq
    | some o =>
      rw [ho] at hq
      have h3 := (L.ins i o q hi ho hq).2.2.1
      refine ev_agree fun s hs => ?_
      rw [hF1, slot_set, if_neg]
      intro hh
      rw [hh, h3] at hs; cases hs
  have hperm : (P.map (kvAt C t0 ops F)).Perm es := by
    have hix : es = ((List.range last).filter fun i => ((ops[i]?).bind (insOf C t0)).isSome).map (kvAt C t0 ops F) := by
      rw [hes, filterMap_range, List.length_take, Array.length_toList, Nat.min_eq_left L.le, List.map_filterMap]
      have key : ∀ l : List Nat, (∀ i ∈ l, i < last) → (l.filterMap fun i => (((ops.toList.take last)[i]?).bind (insOf C t0)).map fun q => (q.1, ev F1 q.2)) = (l.filter fun i => ((ops[i]?).bind (insOf C t0)).isSome).map (kvAt C t0 ops F) := by
        intro l
        induction l with
        | nil => intro _; rfl
        | cons i l ih =>
          intro hl
          have hi := hl i (.head _)
          have hgi : (ops.toList.take last)[i]? = ops[i]? := by rw [List.getElem?_take_of_lt hi, Array.getElem?_toList]
          rw [List.filterMap_cons, List.filter_cons, hgi, ih fun j hj => hl j (.tail _ hj)]
          cases hb : (ops[i]?).bind (insOf C t0) with
          | none => simp
          | some q =>
            have hkv : kvAt C t0 ops F i = (q.1, ev F q.2) := by unfold kvAt; rw [hb]
            simp [hkv, hev i q hi hb]
      exact key _ fun i hi => List.mem_range.1 hi
    rw [hix]
    refine List.Perm.map _ ((List.perm_ext_iff_of_nodup z6 (List.nodup_range.filter _)).2 fun i => ?_)
    rw [z7 i, List.mem_filter, List.mem_range]
    constructor
    · rintro ⟨_, h1, o, q, h2, h3⟩
      exact ⟨h1, by rw [h2]; simp [h3]⟩
    · rintro ⟨h1, h2⟩
      obtain ⟨q, hq⟩ := Option.isSome_iff_exists.1 h2
      cases ho : ops[i]? with
      | none => rw [ho] at hq; cases hq
      | some o => rw [ho] at hq; exact ⟨hall i h1, h1, o, q, ho, hq⟩
  obtain ⟨e', hle, hnew, hext⟩ := I.ext.adopt z2 z3 z4 g1 g2 g3 g4 (z5.permM hperm)
  have hfn1 : FN ds n e' F1 a := by
    refine ⟨⟨fun q => ?_, I.fn.1.2⟩, I.fn.2⟩
    rw [hF1, slot_set]
    by_cases hq : q = t0
    · subst hq
      rw [if_pos rfl, z1]
      exact .map _ _ hnew (Nat.le_refl _)
    · rw [if_neg hq]; exact (hfnF.1.1 q).mono hle
  refine chain_sim hc hg L.ready hqn (ops.toList.drop last) last (fun k o hk => ?_) ?_ (fun j hj hjs k hk => by rw [← L.a]; exact L.tail j hjs hj k hk) fuel listed e' F1 H1 a w hsz (fun j hj => ⟨fun h => Classical.byContradiction fun hn => hnl j (by omega) h, hall j⟩) hcl hf hext hfn1 hB
  · rw [List.getElem?_drop, Array.getElem?_toList] at hk; exact hk
  · rw [List.length_drop, Array.length_toList]; have := L.le; omega
end
end Go.Ab

/- Regions whose order is drawn: all of them. -/
namespace Go.Ab
open Go
variable {C : Cx} {ds : List Deferred} {R : Option Nat → Prop}

/-- Where a plan begins. -/
theorem start_inv {r : Rgn} (hag : ∀ i, (r.s i).again = false) (hfar : ∀ i, ¬ i < r.ss.length → r.s i = ⟨.bad "region", none, none, false⟩) {ps : List Ep} (hok : r.ok ps = true) {n : Nat} {c : CallT} {f0 F : Fr} {h0 He : Hp} (hx : runR (ps.flatMap (Ep.out r)) c f0 h0 = .norm F He) {e0 : Emb} {a : Act} {w w2 : World}
    (hf : FN ds n e0 f0 a) (hr : HR e0 h0 w) (hw : Ext e0 h0 w e0 h0 w2) :
    Plan r ∧ OrderOK r (ps.flatMap Ep.order) (fun _ => False) ∧ (∀ i ∈ ps.flatMap Ep.order, i < r.ss.length) ∧ ∃ dn ld last' rest fj H nm e f, Inv ds r F f0 c He n e0 h0 w (fun _ => False) a w2 dn ld last' rest fj H nm e f := by
  unfold Rgn.ok at hok
  simp only [Bool.and_eq_true] at hok
  obtain ⟨k1, k2, k3, k4, k5⟩ := hok
  have hord := okOrder_spec (seen := fun _ => False) (fun j => by simp) k1
  have hlt : ∀ i ∈ ps.flatMap Ep.order, i < r.ss.length := fun i hi => Classical.byContradiction fun hn => by
    obtain ⟨ep, hep, hi⟩ := List.mem_flatMap.1 hi
    refine runR_bad (q := "region") hx ?_
    rw [← hfar i hn]
    refine List.mem_flatMap.2 ⟨ep, hep, ?_⟩
    unfold Ep.out
    exact List.mem_append_left _ (List.mem_map.2 ⟨i, hi, rfl⟩)
  have hP : Plan r := by
    refine ⟨fun i hi => ?_, fun p q t hp hq h1 h2 => ?_, hag, fun i hi hk => ?_⟩
    · have := List.all_eq_true.1 k3 i (all_mem.2 hi)
      rw [Bool.and_eq_true] at this
      exact this.1
    · obtain ⟨_, hpw⟩ := okDst_spec k2
      refine Classical.byContradiction fun hne => ?_
      have key : ∀ p q, p < r.ss.length → q < r.ss.length → p < q → (r.s p).d = some (path t) → (r.s q).d ≠ some (path t) := by
        intro p q hp hq hpq h1
        have := List.pairwise_iff_getElem.1 hpw p q (by simpa [Rgn.all] using hp) (by simpa [Rgn.all] using hq) hpq
        simp only [Rgn.all, List.getElem_range] at this
        exact this t h1
      rcases Nat.lt_or_gt_of_ne hne with hl | hl
      · exact key p q hp hq hl h1 h2
      · exact key q p hq hp hl h2 h1
    · have := List.all_eq_true.1 k3 i (all_mem.2 hi)
      rw [Bool.and_eq_true, Bool.or_eq_true, Bool.not_eq_true'] at this
      rcases this.2 with h | h
      · rw [beq_iff.2 hk] at h; cases h
      · exact h
  refine ⟨hP, hord, hlt, ?_⟩
  have heps := okEps_spec k4
  cases ps with
  | nil => cases k5
  | cons ep rest =>
    have k5 : and ep.hv.isNone (rest.all fun e => e.hv.isSome) = true := k5
    rw [Bool.and_eq_true] at k5
    obtain ⟨k6, k7⟩ := k5
    have hev : ep.hv = none := by simpa using k6
    have horder : ep.order = ep.ls := by unfold Ep.order; rw [hev]; rfl
    obtain ⟨h1, h2, h3, h4, h5⟩ := heps
    rw [hev] at h5
    rw [List.flatMap_cons, horder] at hord hlt
    have hrun := hx
    rw [List.flatMap_cons, Ep.out, horder, List.append_assoc] at hrun
    have hS0 : Slots r F f0 (fun _ => False) f0 := ⟨fun _ _ h => h.elim, fun _ _ => rfl⟩
    obtain ⟨f2, H2, nm, mid, hgrew, hls, hck, hnm, hinj⟩ := epoch_rest hP.use hP.once (fun i _ => hP.again i) (dn := fun _ => False) (ld := []) (ls := ep.ls) (ck := ep.ck) (last := none) (rest := rest) hrun hS0 (fun p h => h.elim) h5 hord
      (fun e he => List.all_eq_true.1 k7 e he) (fun i h => h.elim) (fun i h => by cases h) hlt (fun i hi => (h2 i hi).1) (fun i hi => (h4 i hi)) (fun i h => h.elim)
    refine ⟨_, _, _, _, f2, H2, nm, e0, f0, mid, hw.grow hgrew, hf, hS0, fun i h => h.elim, ?_, ?_, ?_, fun i j b _ _ => hinj i j b⟩
    · rintro i (h | h) hk
      · exact h
      · exact absurd hk (h2 i h).1
    · rintro i (h | h) _
      · exact h.elim
      · by_cases hcond : r.k i = 1 → ∀ q ∈ ep.ls, r.k q ≠ 2
        · exact hls i h hcond
        · have hk1 : r.k i = 1 := Classical.byContradiction fun h => hcond fun h' => absurd h' h
          have hmk : ∃ q ∈ ep.ls, r.k q = 2 := Classical.byContradiction fun h => hcond fun _ q hq hq2 => h ⟨q, hq, hq2⟩
          rcases h3 i (.inr ⟨h, hmk⟩) hk1 with ⟨d, hd, _⟩ | hc'
          · rw [hev] at hd; cases hd
          · exact hck i hc' _
    · intro i b _ hb
      obtain ⟨_, k8, k9⟩ := hnm i b hb
      refine ⟨k8, k9, fun g => ?_⟩
      cases hy : e0 b g with
      | none => rfl
      | some y => have := (hr.lt b g y hy).2; omega

theorem litAt_spec {n t0 : Nat} {ops : Array Oper} (h : litAt n ops.toList = some t0) : ∃ o0 t, ops[0]? = some o0 ∧ o0.op = .makeMap t none ∧ slotOK n o0 = some t0 := by
  unfold litAt at h
  split at h
  · rename_i o l hl
    split at h
    · rename_i t hop
      exact ⟨o, t, by rw [← Array.getElem?_toList, hl]; rfl, hop, h⟩
    · cases h
  · cases h

theorem draw_lit (hm : C.P.follows .mixedOrders = true) {n id : Nat} {ops : Array Oper} {c : CallT} (hc : CallOK C c) {t0 last : Nat} (hat : litAt n ops.toList = some t0) {f0 : Fr} {h0 : Hp} {e0 : Emb} {a : Act} {w : World} {Q : Exit → Act → World → Prop} (hg : GR C e0) (hf : FN ds n e0 f0 a) (hr : HR e0 h0 w)
    (hp : Post0 C ds n e0 h0 w Q (runR (mkLit C n ops.toList (Rgn.lit C n ops t0 last) t0 last (Rgn.lit C n ops t0 last).plan) c f0 h0)) : (Code.region id ops true).ow R C.P Q a w := by
  generalize hr0 : Rgn.lit C n ops t0 last = r at hp
  generalize r.plan = ps at hp
  unfold mkLit at hp
  cases hok : litOK C ops.toList r t0 last ps with
  | false => rw [hok] at hp; exact hp.elim
  | true =>
  rw [hok, ifb_true] at hp
  rcases runR_norm c (ps.flatMap (Ep.out r) ++ (mkSeq C n ops.toList (ops.toList.take 1) ++ (mkSeq C n ops.toList ((ops.toList.take last).filter fun o => (insOf C t0 o).isSome) ++ mkSeq C n ops.toList (ops.toList.drop last)))) f0 h0 with ⟨F2, He2, hx⟩ | ⟨q, hx⟩
  case inr => rw [hx] at hp; exact hp.elim
  rw [hx] at hp
  rw [runR_append] at hx
  rcases runR_norm c (ps.flatMap (Ep.out r)) f0 h0 with ⟨F, He, hA⟩ | ⟨q, hA⟩
  case inr => rw [hA] at hx; cases hx
  rw [hA] at hx
  have hx : runR (mkSeq C n ops.toList (ops.toList.take 1) ++ (mkSeq C n ops.toList ((ops.toList.take last).filter fun o => (insOf C t0 o).isSome) ++ mkSeq C n ops.toList (ops.toList.drop last))) c F He = .norm F2 He2 := hx
  unfold litOK at hok
  simp only [Bool.and_eq_true] at hok
  obtain ⟨c1, c2, c3, c4, c5, c6, c7⟩ := hok
  obtain ⟨o0, t, z1, z2, z3⟩ := litAt_spec hat
  obtain ⟨s1, s2, s3⟩ := slotOK_spec z3
  have hlen : r.ss.length = ops.size := by rw [← hr0]; exact lit_length
  have hone : 1 ≤ last := Nat.le_of_ble_eq_true c1
  have hle : last ≤ ops.size := by have := Nat.le_of_ble_eq_true c2; simpa using this
  obtain ⟨hP, hord, hlt, hinv⟩ := start_inv (by rw [← hr0]; exact lit_again) (by rw [← hr0]; exact fun i hi => lit_far hi) c7 hA hf hr (Ext.drew (w' := { w with drawn := w.drawn + 1 }) hr rfl rfl rfl)
  -- the map is made
  have htake : ops.toList.take 1 = [o0] := by
    cases hl : ops.toList with
    | nil => rw [← Array.getElem?_toList, hl] at z1; cases z1
    | cons x l => rw [← Array.getElem?_toList, hl] at z1; cases z1; rfl
  rw [htake] at hx
  have hag0 : (mkS C n ops.toList o0).again = false := by rw [← of_s (C := C) (n := n) z1]; exact of_again 0
  obtain ⟨v0, Hm, hst, hx⟩ := runR_once hag0 hx
  obtain ⟨hxo, hd, _⟩ := stepS_mk s1 hst
  simp only [mk, z2] at hxo
  obtain ⟨co, hco, hxo⟩ := orBad_ok hxo
  have hmapT : ∃ kt el, C.P.underlying t = some (.map kt el) := by
    cases hu : C.P.underlying t with
    | none => rw [hu] at hco; cases hco
    | some d => rw [hu] at hco; cases d <;> first | exact ⟨_, _, rfl⟩ | cases hco
  have hcm : co = .mkm none := by
    obtain ⟨kt, el, hu⟩ := hmapT
    rw [hu] at hco
    cases hco; rfl
  subst hcm
  have hxo : R2.new He (.map []) .map = .ok v0 Hm := hxo
  obtain ⟨rfl, rfl⟩ := R2.new_ok hxo
  rw [hd, s2] at hx
  have hF1 : (putD ((some t0).map path) (.map He.n) F).out = setT (.map He.n) (path t0) F := by
    show (setP (.map He.n) (path t0) F).out = _
    rw [setP_eq]; rfl
  rw [hF1] at hx
  -- it is filled
  have hfm : ((ops.toList.take last).filter fun o => (insOf C t0 o).isSome).filterMap (insOf C t0) = (ops.toList.take last).filterMap (insOf C t0) := by
    rw [List.filterMap_filter]
    congr 1
    funext o
    cases insOf C t0 o <;> rfl
  have hN : slot (setT (.map He.n) (path t0) F) t0 = .map He.n := by rw [slot_set, if_pos rfl]
  obtain ⟨H1, b1, b2, b3, b4, b5, b6⟩ := ins_tail hN ((ops.toList.take last).filter fun o => (insOf C t0 o).isSome) _ [] (fun o ho => Option.isSome_iff_exists.1 (List.mem_filter.1 ho).2) (by rw [Hp.get_set _ _ He.n, if_pos rfl]) (fun _ _ _ _ x hx => by cases hx) (by rw [hfm]; exact keysB_spec c5) hx
  rw [hfm, List.nil_append] at b2
  have hins : ∀ (i : Nat) (o : Oper) (q : AV × Sx), i < last → ops[i]? = some o → insOf C t0 o = some q → i ≠ 0 ∧ (r.a i).testBit 0 = true ∧ q.2.us.testBit t0 = false ∧ within (Nat.land q.2.us (r.dsts (bits r.all))) (r.dsts (r.a i)) = true ∧ InsF C t0 o q := by
    intro i o q hi ho hq
    have hti : (ops.toList.take last)[i]? = some o := by rw [List.getElem?_take_of_lt hi, Array.getElem?_toList]; exact ho
    obtain ⟨k1, k2, k3, k4⟩ := insOK_spec hq _ 0 c6 i hti
    rw [Nat.zero_add] at k1 k2 k4
    exact ⟨k1, k2, k3, k4, b6 o (List.mem_filter.2 ⟨List.mem_of_getElem? hti, by rw [hq]; rfl⟩) q hq⟩
  have hready : ∀ listed : Array Bool, listed.size = ops.size → (∃ j, j < ops.size ∧ ¬ Lst listed j) → Region.ready .any ops listed ≠ [] := by
    intro listed hsz ⟨j, hj, hjn⟩ hr
    have hjo : j ∈ ps.flatMap Ep.order := (hord.all j (by rw [hlen]; exact hj)).resolve_left fun h => h.elim
    obtain ⟨k, hk, hkn, hka⟩ := hord.first (E := Lst listed) (fun _ h => h.elim) ⟨j, hjo, hjn⟩
    have hkl : k < ops.size := by have := hlt k hk; rwa [hlen] at this
    have : k ∈ Region.ready .any ops listed := mem_ready.2 ⟨(Lst.not (by omega)).1 hkn, ops[k], by simp [hkl], fun d hd hb => hka _ (by rw [← hr0]; exact of_edge (C := C) (n := n) (by simp [hkl]) hd hb)⟩
    rw [hr] at this; cases this
  have L : LitP C n t0 last ops r o0 t F f0 c := by
    refine ⟨hr0.symm, hP, hone, hle, fun i hi hl k hk => ?_, z1, z2, z3, hmapT, hins, fun i j o o' q q' hne hi hj ho ho' hq hq' => ?_, fun i o ho hi0 hil hni => ?_, fun q hq => ?_, hready⟩
    · have := List.all_eq_true.1 c3 i (all_mem.2 (by rw [hlen]; exact hi))
      rw [Bool.or_eq_true, Bool.not_eq_true'] at this
      rcases this with h | h
      · rw [ble_iff.2 hl] at h; cases h
      · exact within_spec h ((bits_spec _ _).2 (List.mem_range.2 hk))
    · have hpw := keysB_spec c5
      unfold insList at hpw
      rw [List.pairwise_filterMap] at hpw
      have e1 : (ops.toList.take last)[i]? = some o := by rw [List.getElem?_take_of_lt hi, Array.getElem?_toList]; exact ho
      have e2 : (ops.toList.take last)[j]? = some o' := by rw [List.getElem?_take_of_lt hj, Array.getElem?_toList]; exact ho'
      obtain ⟨l1, l2⟩ := List.getElem?_eq_some_iff.1 e1
      obtain ⟨m1, m2⟩ := List.getElem?_eq_some_iff.1 e2
      rcases Nat.lt_or_gt_of_ne hne with hl | hl
      · have := List.pairwise_iff_getElem.1 hpw i j l1 m1 hl
        rw [l2, m2] at this
        exact (this q hq q' hq').1
      · have := List.pairwise_iff_getElem.1 hpw j i m1 l1 hl
        rw [l2, m2] at this
        exact (this q' hq' q hq).2
    · have hs : r.s i = mkS C n ops.toList o := by rw [← hr0, lit_ord ho hi0 hil hni, of_s ho]
      rw [hs]
      rcases mkS_spec (C := C) (n := n) (ops := ops.toList) (o := o) with ⟨g, g1, g2, _⟩ | ⟨q, g2⟩
      · rw [g2]
      · exfalso
        have hio : i ∈ ps.flatMap Ep.order := (hord.all i (by rw [hlen]; exact (Array.getElem?_eq_some_iff.1 ho).1)).resolve_left fun h => h.elim
        obtain ⟨ep, hep, hi⟩ := List.mem_flatMap.1 hio
        refine runR_bad (q := q) hA ?_
        rw [← g2, ← hs]
        refine List.mem_flatMap.2 ⟨ep, hep, ?_⟩
        unfold Ep.out
        exact List.mem_append_left _ (List.mem_map.2 ⟨i, hi, rfl⟩)
    · refine runR_slot hA fun s hs hsa hsd => ?_
      obtain ⟨j, hj, rfl⟩ := out_once hs hsa
      exact hq j (hlt j hj) hsd
  refine ow_region_any hm (lit_any (e0 := e0) (h0 := h0) (w0 := w) (F := F) (f0 := f0) (He := He) L hg hc (lit_conv L hg hc rfl rfl b2 (fun b hb => ?_) b4 b5 b1 hp) ops.size _ a _ (by simp) (by simp) ?_ ?_ ?_)
  · rw [b3 b hb, Hp.get_set _ _ He.n, if_neg hb]
  · intro i o d hi
    unfold Lst at hi
    rw [Array.getD_eq_getD_getElem?, Array.getElem?_replicate] at hi
    split at hi <;> cases hi
  · intro i _ hi
    unfold Lst at hi
    rw [Array.getD_eq_getD_getElem?, Array.getElem?_replicate] at hi
    split at hi <;> cases hi
  · have hno : ∀ i, ¬ Lst (Array.replicate ops.size false) i := fun i hi => by
      unfold Lst at hi
      rw [Array.getD_eq_getD_getElem?, Array.getElem?_replicate] at hi
      split at hi <;> cases hi
    have hlst : Lst (Array.replicate ops.size false) = fun _ => False := funext fun i => propext ⟨hno i, False.elim⟩
    rw [hlst]
    obtain ⟨dn, ld, last', rest, fj, H, nm, e, f, I⟩ := hinv
    exact ⟨dn, ld, last', rest, fj, H, nm, e, f, I, fun h => h.elim⟩

/-- Regions whose order is drawn. -/
theorem drawOK (hm : C.P.follows .mixedOrders = true) : DrawOK C := by
  intro R ds n id ops c hc f0 h0 e0 a w Q hg hf hr hp
  unfold mkDraw at hp
  split at hp
  · rename_i t0 hok hat
    rw [natF_eq] at hp
    exact draw_lit hm hc hat hg hf hr hp
  · exact draw_by hm n id ops c hc f0 h0 e0 a w Q hg hf hr hp
end Go.Ab

/- Code, done on named blocks, is what the model does. -/
namespace Go.Ab
open Go
variable {C : Cx}

theorem ifbO {α : Type} {c : Bool} {x : Option α} {v : α} (h : ifb c x none = some v) : c = true ∧ x = some v := by
  cases c with
  | false => cases h
  | true => exact ⟨rfl, h⟩

theorem entOf_spec {n it : Nat} {b : Code} {q : Nat × List Oper × List Oper} (h : entOf n it b = some q) : ∃ id ops2 code oe, b = .seq (.region id ops2 false) code ∧ ops2.toList = oe :: q.2.1 ∧ q.2.2 = ops2.toList ∧ oe.op = .entry (.tmp it) ∧ slotOK n oe = some q.1 ∧ q.1 ≠ it := by
  unfold entOf at h
  split at h
  · rename_i id ops2 code
    split at h
    · rename_i oe ent hops
      split at h
      · rename_i it' pr hop hsl
        obtain ⟨h1, h2⟩ := ifbO h
        cases h2
        rw [Bool.and_eq_true, beq_iff, Bool.not_eq_true'] at h1
        refine ⟨id, ops2, code, oe, rfl, hops, hops.symm, by rw [hop, h1.1], hsl, fun hh => ?_⟩
        rw [beq_iff.2 hh] at h1; cases h1.2
      · cases h
    · cases h
  · cases h

structure MlOK (C : Cx) (n : Nat) (a b : Code) (M : MLs) (id : Nat) (ops : Array Oper) (out id1 : Nat) (ops1 : Array Oper) (o o1 o2 : Oper) (t : TypeId) (body : Code) : Prop where
  ha : a = .region id ops false
  hb : b = .block out (.loop (.seq (.region id1 ops1 false) (.seq (.cond (.tmp M.more) .skip (.exit out)) (.block M.nxt body))))
  pre : ops.toList = M.pre ++ [o]
  op : o.op = .range t M.x
  it : slotOK n o = some M.it
  mapT : isMapT C t = true
  two : ops1.toList = [o1, o2]
  next : o1.op = .next (.tmp M.it) false
  nx : slotOK n o1 = some M.nx
  extr : o2.op = .extract (.tmp M.nx) 0
  more : slotOK n o2 = some M.more
  nxit : M.nx ≠ M.it
  mrit : M.more ≠ M.it
  preOps : M.preOps = ops.toList
  pr : M.pr = entOf n M.it body
  fill : M.fill = fillOf body

theorem mlOf_spec {n : Nat} {a b : Code} {M : MLs} (h : mlOf C n a b = some M) : ∃ id ops out id1 ops1 o o1 o2 t body, MlOK C n a b M id ops out id1 ops1 o o1 o2 t body := by
  unfold mlOf at h
  split at h
  · rename_i id ops out id1 ops1 mr out2 nxt body
    split at h
    · rename_i o rpre o1 o2 hrev hops1
      split at h
      · rename_i t x it it' nx nx' mr' hop hit ho1 hnx ho2 hmr
        obtain ⟨h1, h2⟩ := ifbO h
        cases h2
        simp only [Bool.and_eq_true, beq_iff, Bool.not_eq_true'] at h1
        obtain ⟨k1, rfl, rfl, rfl, rfl, k6, k7, k8⟩ := h1
        refine ⟨id, ops, _, id1, ops1, o, o1, o2, t, body, rfl, rfl, ?_, hop, hit, k1, hops1, ho1, hnx, ho2, hmr, (fun hh => by rw [beq_iff.2 hh] at k6; cases k6), (fun hh => by rw [beq_iff.2 hh] at k7; cases k7), rfl, rfl, rfl⟩
        have := congrArg List.reverse hrev
        rw [List.reverse_reverse, List.reverse_cons] at this
        exact this
      · cases h
    · cases h
  · cases h

theorem isMapT_spec {t : TypeId} (h : isMapT C t = true) : ∃ k v, C.P.underlying t = some (.map k v) := by
  unfold isMapT at h
  split at h
  · rename_i k v hu; exact ⟨k, v, hu⟩
  · cases h

theorem range_get {α : Type} (l : List α) : (List.range l.length).map (fun i => l[i]?) = l.map some := by
  apply List.ext_getElem?
  intro i
  simp only [List.getElem?_map]
  by_cases h : i < l.length
  · rw [List.getElem?_range h, List.getElem?_eq_getElem h]; simp [h]
  · rw [List.getElem?_eq_none (by simpa using h), List.getElem?_eq_none (by simpa using h)]; rfl

theorem bodyOf_plain {n : Nat} {out id1 mr nxt : Nat} {ops1 : Array Oper} {body : Code} : bodyOf false (mkC C n (.block out (.loop (.seq (.region id1 ops1 false) (.seq (.cond (.tmp mr) .skip (.exit out)) (.block nxt body)))))) = some (mkC C n body) := rfl
theorem bodyOf_entry {n : Nat} {out id1 mr nxt id2 : Nat} {ops1 ops2 : Array Oper} {code : Code} {c : CC} (h : bodyOf true (mkC C n (.block out (.loop (.seq (.region id1 ops1 false) (.seq (.cond (.tmp mr) .skip (.exit out)) (.block nxt (.seq (.region id2 ops2 false) code))))))) = some c) : c = mkC C n code := by
  have h : (match true, mkC C n (.seq (.region id2 ops2 false) code) with
    | false, b => some b
    | true, .seq (.reg _) b => some b
    | true, _ => none) = some c := h
  have hm : mkC C n (.seq (.region id2 ops2 false) code) = match mlOf C n (.region id2 ops2 false) code with
    | some m => mkML C n m (mkC C n code)
    | none => .seq (mkC C n (.region id2 ops2 false)) (mkC C n code) := rfl
  rw [hm] at h
  cases hml : mlOf C n (.region id2 ops2 false) code with
  | none =>
    rw [hml] at h
    have h : some (mkC C n code) = some c := h
    cases h; rfl
  | some m =>
    rw [hml] at h
    simp only at h
    unfold mkML at h
    cases hs : sx C m.x with
    | none => rw [hs] at h; cases h
    | some x => cases hb : bodyOf m.pr.isSome (mkC C n code) with
      | none => rw [hs, hb] at h; cases h
      | some b =>
        rw [hs, hb] at h
        simp only at h
        unfold mlC at h
        simp only at h
        generalize hany : ((m.pr.map fun q => path q.1).toList ++ (setsR (match m.pr with
          | some q => mkSeq C n q.2.2 q.2.1
          | none => []) ++ b.sets)).any (fun p => Nat.beq (unpath p) m.it) = bb at h
        cases bb <;> cases h

theorem fillOf_spec {b : Code} {q : List Oper × List Oper × Oper} (h : fillOf b = some q) : ∃ id2 id3 ops2 ops3 t x y z, b = .seq (.region id2 ops2 false) (.region id3 ops3 false) ∧ ops3.toList = q.2.1 ++ [q.2.2] ∧ q.1 = ops3.toList ∧ q.2.2.op = .mapUpdate t (.tmp x) (.tmp y) (.tmp z) ∧ q.2.2.guard = none ∧ q.2.2.dst = none := by
  unfold fillOf at h
  split at h
  · rename_i id2 ops2 id3 ops3
    split at h
    · rename_i o rp hrev
      split at h
      · rename_i t x y z ho hg hd
        cases h
        refine ⟨id2, id3, ops2, ops3, t, x, y, z, rfl, ?_, rfl, ho, hg, hd⟩
        have := congrArg List.reverse hrev
        rw [List.reverse_reverse, List.reverse_cons] at this
        exact this
      · cases h
    · cases h
  · cases h
theorem mkSeq_append {n : Nat} {ops : List Oper} : ∀ a b : List Oper, mkSeq C n ops (a ++ b) = mkSeq C n ops a ++ mkSeq C n ops b
  | [], _ => rfl
  | o :: a, b => by
    show mkS C n ops o :: mkSeq C n ops (a ++ b) = _
    rw [mkSeq_append a b]; rfl
theorem flOf_spec {n : Nat} {M : MLs} {f : FQ} (h : flOf C n M = some f) : ∃ p q kd pm pk pv, M.pr = some p ∧ M.fill = some q ∧ mk C q.2.2 = .mu kd (.t pm) (.t pk) (.t pv) ∧ f = (mkSeq C n q.1 q.2.1, kd, pm, pk, pv) := by
  unfold flOf at h
  split at h
  · rename_i p q hp hq
    split at h
    · rename_i kd pm pk pv hm
      cases h
      exact ⟨p, q, kd, pm, pk, pv, hp, hq, hm, rfl⟩
    · cases h
  · cases h
theorem mu_spec {o : Oper} {t : TypeId} {x y z : Nat} (ho : o.op = .mapUpdate t (.tmp x) (.tmp y) (.tmp z)) {kd : Nat} {pm pk pv : List Bool} (h : mk C o = .mu kd (.t pm) (.t pk) (.t pv)) : keyKd C t = some kd ∧ pm = path x ∧ pk = path y ∧ pv = path z := by
  unfold mk at h
  rw [ho] at h
  have h : orBad "mapUpdate" (muOf C t (.tmp x) (.tmp y) (.tmp z)) = .mu kd (.t pm) (.t pk) (.t pv) := h
  unfold muOf at h
  cases hk : keyKd C t with
  | none => rw [hk] at h; cases h
  | some k =>
    rw [hk] at h
    cases h
    exact ⟨rfl, rfl, rfl, rfl⟩
theorem mlC_spec {n : Nat} {M : MLs} {x : Sx} {b c : CC} (h : mlC C n M x b = some c) : ∃ m : ML, c = .mloop m b ∧ m.pre = mkSeq C n M.preOps M.pre ∧ m.x = x ∧ m.it = path M.it ∧ m.pr = M.pr.map (fun q => path q.1) ∧ m.nxt = M.nxt ∧
    m.ent = (match M.pr with
      | some q => mkSeq C n q.2.2 q.2.1
      | none => []) ∧ (∀ p, p ∈ m.ds ↔ p = path M.nx ∨ p = path M.more ∨ (p ∈ m.pr.toList ∨ p ∈ setsR m.ent ∨ p ∈ b.sets)) ∧ (∀ p, (p ∈ m.pr.toList ∨ p ∈ setsR m.ent ∨ p ∈ b.sets) → p ≠ path M.it) ∧
    (∀ p ∈ m.cs, (p ∈ setsR m.ent ∨ p ∈ b.sets) ∧ p ≠ path M.nx ∧ p ≠ path M.more) ∧ m.fl = flOf C n M := by
  unfold mlC at h
  simp only at h
  generalize hany : ((M.pr.map fun q => path q.1).toList ++ (setsR (match M.pr with
    | some q => mkSeq C n q.2.2 q.2.1
    | none => []) ++ b.sets)).any (fun p => Nat.beq (unpath p) M.it) = bb at h
  cases bb with
  | true => cases h
  | false =>
    cases h
    refine ⟨_, rfl, rfl, rfl, rfl, rfl, rfl, rfl, fun p => ?_, fun p hp hh => ?_, fun p hp => ?_, rfl⟩
    · simp only [List.mem_cons, List.mem_append]
    · rw [List.any_eq_false] at hany
      have := hany p (by simp only [List.mem_append]; exact hp)
      rw [hh, unpath_path] at this
      exact this (beq_iff.2 rfl)
    · have hp := List.mem_filter.1 hp
      obtain ⟨h1, h2⟩ := hp
      rw [Bool.and_eq_true, Bool.not_eq_true', List.any_eq_false] at h2
      refine ⟨List.mem_append.1 h1, fun hh => ?_, fun hh => ?_⟩
      · exact h2.2 M.nx (.head _) (by rw [hh, unpath_path]; exact beq_iff.2 rfl)
      · exact h2.2 M.more (.tail _ (.head _)) (by rw [hh, unpath_path]; exact beq_iff.2 rfl)

theorem mapEs_ok {m : ML} {b : CallT → Fr → Hp → Out} {c : CallT} {f : Fr} {h : Hp} {es : Es} {P : Out → Prop} (hno : ∀ w, ¬ P (.no w)) (hx : P (mapEs m b c f h es)) : ∃ s rows sf, readSt (exOf h f []) (m.cs.filter fun p => (slotV f p).isSome) f h = .ok s ∧
    (∀ r ∈ rows, eachM (round1 m b c (anyAll m.ds f).out h (exOf h f []) (m.cs.filter fun p => (slotV f p).isSome) r.1) es = .ok r.2) ∧ (exOf h f []).all h.okw = true ∧ okRows (lenA es) rows = true ∧ walkM rows s (List.range (lenA es)) = some sf ∧
    P (.norm (putSs (m.cs.filter fun p => (slotV f p).isSome) sf.2 (anyAll m.ds f).out).out (putCs (exOf h f []) sf.1 h).out) := by
  unfold mapEs at hx
  rw [Bx.eta (anyAll m.ds f), Bx.bd_mk] at hx
  simp only at hx
  split at hx
  · exact (hno _ hx).elim
  · rename_i s hs
    split at hx
    · exact (hno _ hx).elim
    · rename_i rows hg
      have hrows := growM_ok (lenA es) [s] [] rows hg (fun r hr => by cases hr)
      cases ha : and ((exOf h f []).all h.okw) (okRows (lenA es) rows) with
      | false => rw [ha] at hx; exact (hno _ hx).elim
      | true =>
        rw [ha, ifb_true] at hx
        rw [Bool.and_eq_true] at ha
        split at hx
        · rename_i sf hsf
          rw [Bx.eta (putSs _ sf.2 _), Bx.bd_mk, Bx.eta (putCs _ sf.1 _), Bx.bd_mk] at hx
          exact ⟨s, rows, sf, hs, hrows, ha.1, ha.2, hsf, hx⟩
        · exact (hno _ hx).elim
end Go.Ab

/- Loops over functions: the loop, and a round of it. -/
namespace Go.Ab
open Go
variable {C : Cx} {R : Option Nat → Prop} {b0 : Nat}

/-- No function that has a body bears the name that the model takes for its own. -/
def Named (P : Program) : Prop := ∀ (g : Nat) (fn : Func), P.funcs[g]? = some fn → fn.body ≠ none → (fn.name == "runtime.NumGoroutine") = false

/-- Another object, in a block that is no cells. -/
theorem HR.turn {e : Emb} {h : Hp} {w : World} (hr : HR e h w) {b : Nat} {x : Loc} {blk blk' : Blk} {ob' : Obj} (hx : e b 0 = some x) (hget : h.get b = some blk) (hnc : ¬ blk.isCells) (hbr : BR e blk' 0 x (some ob')) :
    HR e ⟨setT blk' (path b) h.t, h.n, h.lk⟩ (w.putObj x.r ob') := by
  have hlt := hr.lt b 0 x hx
  have hg : ∀ g y, e b g = some y → g = 0 ∧ y = x := by
    intro g y hy
    obtain ⟨blk2, h1, h2⟩ := hr.at' b g y hy
    rw [hget] at h1; cases h1
    have : g = 0 := by
      generalize w.heap[y.r]? = ob at h2
      cases h2 with
      | cells c t fr q => exact absurd q.cells hnc
      | map _ _ _ _ _ hg _ _ _ _ => exact hg
      | sit _ _ _ hg => exact hg
      | iter _ _ _ _ _ hg => exact hg
      | lp q0 fn0 tm0 df0 _ hg => exact hg
      | busy o0 _ hg => exact hg
      | dfr _ hg => exact hg
    subst this
    rw [hx] at hy; cases hy; exact ⟨rfl, rfl⟩
  refine ⟨hr.inj, ?_, ?_⟩
  · intro b' g y hy
    simpa using hr.lt b' g y hy
  · intro b' g y hy
    by_cases hb : b' = b
    · subst hb
      obtain ⟨rfl, rfl⟩ := hg g y hy
      refine ⟨blk', by rw [Hp.get_set _ _ h.n, if_pos rfl], ?_⟩
      rw [World.putObj_heap_same hlt.1]; exact hbr
    · obtain ⟨blk2, h1, h2⟩ := hr.at' b' g y hy
      refine ⟨blk2, by rw [Hp.get_set _ _ h.n, if_neg hb]; exact h1, ?_⟩
      have hne : y.r ≠ x.r := fun hh => hb (hr.inj _ _ _ _ _ _ hy hx hh).1
      rw [World.putObj_heap_other hne]; exact h2
theorem Ext.turn {e0 e : Emb} {h0 h : Hp} {w0 w : World} (x0 : Ext e0 h0 w0 e h w) {b : Nat} {x : Loc} {blk blk' : Blk} {ob' : Obj} (hx : e b 0 = some x) (hb : h0.n ≤ b) (hw : w0.heap.size ≤ x.r) (hget : h.get b = some blk) (hnc : ¬ blk.isCells) (hbr : BR e blk' 0 x (some ob')) :
    Ext e0 h0 w0 e ⟨setT blk' (path b) h.t, h.n, h.lk⟩ (w.putObj x.r ob') :=
  ⟨x0.le, x0.hr.turn hx hget hnc hbr, x0.names, x0.blocks, fun r hr hro => (World.putObj_heap_other (by omega)).trans (x0.frame r hr hro),
    fun b' hb' hno => by rw [Hp.get_set _ _ h.n, if_neg (by omega)]; exact x0.ours b' hb' hno,
    fun b' hro => by rw [Hp.get_set _ _ h.n, if_neg (by have := hro.1; omega)]; exact x0.ro b' hro,
    x0.n, by rw [World.putObj_size]; exact x0.size, x0.os, x0.output, x0.lk⟩

/-- Behind a round: what it found is as it was, and so is the loop. -/
theorem Ext.round {e e2 e4 : Emb} {h h2 h4 : Hp} {w w2 w4 : World} {m : Nat} {x : Loc} {q : Lp} {rec o2 : Obj} (hr : HR e h w) (hx : e m 0 = some x) (hget : h.get m = some (.lp q)) (hob : w.heap[x.r]? = some rec)
    (x1 : Ext e h w e2 h2 w2) (x2 : Ext e2 ⟨setT (.sit 0 0 8) (path m) h2.t, h2.n, h2.lk⟩ (w2.putObj x.r o2) e4 h4 w4) (hbr : BR e4 (.lp q) 0 x (some rec)) :
    Ext e h w e4 ⟨setT (.lp q) (path m) h4.t, h4.n, h4.lk⟩ (w4.putObj x.r rec) := by
  have hm : m < h.n := (hr.lt m 0 x hx).2
  have hlt : x.r < w.heap.size := (hr.lt m 0 x hx).1
  have hx4 : e4 m 0 = some x := x2.le _ _ _ (x1.le _ _ _ hx)
  generalize hh3 : (⟨setT (.sit 0 0 8) (path m) h2.t, h2.n, h2.lk⟩ : Hp) = h3 at x2
  have get3 : ∀ b, h3.get b = if b = m then some (.sit 0 0 8) else h2.get b := fun b => by rw [← hh3]; exact Hp.get_set _ _ h2.n _ _ _
  have n3 : h3.n = h2.n := by rw [← hh3]
  have lk3 : h3.lk = h2.lk := by rw [← hh3]
  have ro3 : ∀ b, h.ro b → h3.ro b := by
    intro b hb
    have h5 := hb.step x1.ro x1.n x1.lk
    refine ⟨by rw [n3]; exact h5.1, ?_⟩
    by_cases hbm : b = m
    · exact .inl ⟨.sit 0 0 8, by rw [get3, if_pos hbm], rfl, rfl, .inl rfl⟩
    · rcases h5.2 with ⟨l, h6, h7⟩ | h6
      · exact .inl ⟨l, by rw [get3, if_neg hbm]; exact h6, h7⟩
      · exact .inr ((okw_lk lk3 b).trans h6)
  have rom : h.ro m := ⟨hm, .inl ⟨_, hget, trivial⟩⟩
  have get4 : h4.get m = some (.sit 0 0 8) := by rw [x2.ro m (ro3 m rom), get3, if_pos rfl]
  have size3 : w2.heap.size ≤ w4.heap.size := by
    have := x2.size
    rw [World.putObj_size] at this; exact this
  refine ⟨x1.le.trans x2.le, x2.hr.turn hx4 get4 id hbr, fun b g y hy => ?_, fun b g y hy => ?_, fun r hrlt hro => ?_, fun b hb hno => ?_, fun b hb => ?_, ?_, ?_, ?_, ?_, ?_⟩
  · rcases x2.names b g y hy with ⟨g0, y0, h0⟩ | h0
    · exact x1.names b g0 y0 h0
    · rw [n3] at h0; exact .inr (Nat.le_trans x1.n h0)
  · rcases x2.blocks b g y hy with ⟨g0, y0, h0, hr0⟩ | h0
    · rcases x1.blocks b g0 y0 h0 with ⟨g1, y1, h1, hr1⟩ | h1
      · exact .inl ⟨g1, y1, h1, hr1.trans hr0⟩
      · exact .inr (hr0 ▸ h1)
    · rw [World.putObj_size] at h0; exact .inr (Nat.le_trans x1.size h0)
  · by_cases hrx : r = x.r
    · subst hrx
      rw [World.putObj_heap_same (by have := x1.size; omega), hob]
    · rw [World.putObj_heap_other hrx, x2.frame r (by rw [World.putObj_size]; have := x1.size; omega) ?_, World.putObj_heap_other hrx, x1.frame r hrlt hro]
      intro b g y hy hyr
      rcases x1.blocks b g y hy with ⟨g0, y0, h0, hr0⟩ | h0
      · exact ro3 b (hro b g0 y0 h0 (hr0.trans hyr))
      · omega
  · have hbm : b ≠ m := fun hh => by rw [hh, ] at hno; rw [hno 0] at hx; cases hx
    rw [Hp.get_set _ _ h4.n, if_neg hbm]
    refine (x2.ours b (by rw [n3]; exact Nat.lt_of_lt_of_le hb x1.n) fun g => ?_).trans ?_
    · cases hy : e2 b g with
      | none => rfl
      | some y =>
        rcases x1.names b g y hy with ⟨g0, x0, h0⟩ | h0
        · rw [hno g0] at h0; cases h0
        · omega
    · rw [get3, if_neg hbm]; exact x1.ours b hb hno
  · rw [Hp.get_set _ _ h4.n]
    by_cases hbm : b = m
    · rw [if_pos hbm, hbm, hget]
    · rw [if_neg hbm]
      refine (x2.ro b (ro3 b hb)).trans ?_
      rw [get3, if_neg hbm]; exact x1.ro b hb
  · have := x2.n
    rw [n3] at this
    exact Nat.le_trans x1.n this
  · rw [World.putObj_size]; exact Nat.le_trans x1.size size3
  · exact x2.os.trans x1.os
  · exact x2.output.trans x1.output
  · exact x2.lk.trans (lk3.trans x1.lk)

/-- A loop over a function. -/
theorem rf_sim (hn : Named C.P) {n : Nat} {x : Operand} {ps : Array Tmp} {y z : Code} {s : Sx} (hs : sx C x = some s) (hps : ∀ t ∈ ps.toList, t < n) (hfy : flatC y = true) (hfz : flatC z = true) (k : Nat) (c : CallT) (hc : CallOK C c)
    (f : Fr) (h : Hp) (e : Emb) (a : Act) (w : World) (Q : Exit → Act → World → Prop) (hg : GR C e) (hf : FN a.defers n e f a) (hdf : DF b0 e w a.defers) (hr : HR e h w) (hp : Post C b0 n e h w Q (runC (.rf C s n ps.toList y z) k c f h)) :
    (Code.rangeFunc x ps y z).wpIn (fw none) 0 C.P Q a w := by
  by_cases hx : ∃ g caps, ev f s = .fn g [] caps ∧ and (hasBody C g) (not (Nat.ble yF g)) = true
  case neg =>
    obtain ⟨q, hq⟩ := runC_rf_no C s n ps.toList y z k c f h fun g caps hh => by
      cases hb : and (hasBody C g) (not (Nat.ble yF g)) with
      | false => rfl
      | true => exact absurd ⟨g, caps, hh, hb⟩ hx
    rw [hq] at hp; exact hp.elim
  case pos =>
  obtain ⟨g, caps, hx, hb⟩ := hx
  rw [runC_rf C s n ps.toList y z k c f h hx hb] at hp
  rw [Bool.and_eq_true, Bool.not_eq_true'] at hb
  have hv := sx_VR hg hf.1 hs
  rw [hx] at hv
  generalize hax : a.eval x = ax at hv
  cases hv with
  | yld m y0 _ _ => exact absurd hb.2 (by decide)
  | fn _ _ _ a' lb hgy hva hvb =>
  cases hva
  cases hcall : c g (.fn yF [] [.ptr h.n 0 0] :: caps) ⟨setT (.lp ⟨n, f, ps.toList, y, z⟩) (path h.n) h.t, h.n + 1, h.lk⟩ with
  | no q => rw [hcall] at hp; exact hp.elim
  | ok v h3 =>
  rw [hcall] at hp
  have hp : Post C b0 n e h w Q (.norm f ⟨setT (.sit 0 0 8) (path h.n) h3.t, h3.n, h3.lk⟩) := hp
  refine wpIn_rangeFunc fun fn _ => ?_
  -- what is laid
  have x0 : Ext e h w e h (w.alloc (.deferred (some []))) := (Ext.refl hr).aside (by simp) (fun r hr' _ => heap_alloc_old _ _ hr') rfl rfl
  obtain ⟨rec, hrec⟩ : ∃ rec : Loop, rec = { state := .ready, pending := none, fn := fn, tmps := a.tmps, params := ps, assign := y, body := z, defers := w.heap.size } := ⟨_, rfl⟩
  obtain ⟨e1, n1, x1⟩ := x0.hr.alloc (.lp ⟨n, f, ps.toList, y, z⟩) (.loop rec) ⟨w.heap.size + 1, 0, 0, 0⟩ (by simp) (fun e' hle _ => by
    have := BR.lp (e := e') (b := .lp ⟨n, f, ps.toList, y, z⟩) (g := 0) (x := ⟨w.heap.size + 1, 0, 0, 0⟩) ⟨n, f, ps.toList, y, z⟩ fn a.tmps w.heap.size rfl rfl (Nat.le_refl _) (fun t => (hf.1.1 t).mono hle) hf.2.1 hps hfy hfz
    rw [hrec]
    simpa using this)
  generalize hw1 : (w.alloc (.deferred (some []))).alloc (.loop rec) = w1 at x1
  generalize hh1 : (⟨setT (.lp ⟨n, f, ps.toList, y, z⟩) (path h.n) h.t, h.n + 1, h.lk⟩ : Hp) = h1 at x1 hcall
  have hD1 : w1.heap[w.heap.size]? = some (.deferred (some [])) := by
    rw [← hw1, heap_alloc_old _ _ (by simp)]; exact heap_alloc_new _ _
  have hL1 : w1.heap[w.heap.size + 1]? = some (.loop rec) := by
    rw [← hw1]
    have := heap_alloc_new (w.alloc (.deferred (some []))) (.loop rec)
    simpa using this
  have hget1 : h1.get h.n = some (.lp ⟨n, f, ps.toList, y, z⟩) := by rw [← hh1, Hp.get_set _ _ h.n, if_pos rfl]
  have hn1 : h1.n = h.n + 1 := by rw [← hh1]
  have xx := x0.trans x1
  -- nothing names the block of the deferred calls
  have hDn : ∀ b g0 y0, e1 b g0 = some y0 → y0.r ≠ w.heap.size := by
    intro b g0 y0 hy hh
    have hbr := x1.hr.at' b g0 y0 hy
    obtain ⟨blk, _, k2⟩ := hbr
    rcases x1.blocks b g0 y0 hy with ⟨g2, y2, k3, k4⟩ | k3
    · have := (hr.lt b g2 y2 k3).1
      omega
    · have : (w.alloc (.deferred (some []))).heap.size = w.heap.size + 1 := by simp
      omega
  have hdf1 : DF b0 e1 w1 ({ target := .collected w.heap.size, args := #[] } :: a.defers) := DF.cons hD1 hDn hdf (hdf.ext xx)
  -- the call
  have hargs : VRL e1 (.fn yF [] [.ptr h.n 0 0] :: caps) (.func (.yield (w.heap.size + 1)) #[] #[] :: lb) := .cons _ _ _ _ (.yld h.n _ n1 (Nat.le_refl _)) (hvb.mono xx.le)
  obtain ⟨fn2, hfn2, hbody⟩ : ∃ fn2, C.P.funcs[g]? = some fn2 ∧ fn2.body ≠ none := by
    have h1 := hb.1
    unfold hasBody at h1
    rw [nthA_eq, Array.getElem?_toList] at h1
    cases hq : C.P.funcs[g]? with
    | none => rw [hq] at h1; cases h1
    | some fn2 =>
      rw [hq] at h1
      refine ⟨fn2, rfl, fun hh => ?_⟩
      simp only [hh] at h1
      cases h1
  obtain ⟨b2, hb2⟩ : ∃ b2, fn2.body = some b2 := by
    cases hq : fn2.body with
    | none => exact absurd hq hbody
    | some b2 => exact ⟨b2, rfl⟩
  have henter : ∀ args w, (callFunc g args).run C.P w = .ok (.enter g args) w := fun args w => run_callFunc hfn2 (hn g fn2 hfn2 hbody) hb2
  have hcalls : Calls C.P g (.func (.yield (w.heap.size + 1)) #[] #[] :: lb).toArray w1 fun en w' => ∃ v' e', en = .returned v' ∧ VR e' v v' ∧ Ext e1 h1 w1 e' h3 w' := by
    rcases hc g _ h1 v h3 hcall with ⟨_, _, hcall2⟩ | ⟨_, hval⟩ | ⟨hh, _⟩
    · exact hcall2 e1 w1 _ (hg.mono xx.le) hargs x1.hr
    · obtain ⟨v', w', e', k1, _⟩ := hval e1 w1 _ (hg.mono xx.le) hargs x1.hr
      rw [henter] at k1; cases k1
    · rw [hh] at hgy; cases hgy
  refine ⟨w.heap.size + 1, [{ target := .collected w.heap.size, args := #[] }], w1, { target := .fn (.func g) lb.toArray, args := #[.func (.yield (w.heap.size + 1)) #[] #[]] }, w1, g, (.func (.yield (w.heap.size + 1)) #[] #[] :: lb).toArray, w1, ?_, ?_, fun _ _ => trivial, ?_, (fun hh => by cases hh), callsIn_fw (Calls.mono hcalls fun en w2 he => ?_)⟩
  · rw [← hw1, hrec]; exact run_enterLoop_outer _ _ _ _ _
  · simp only [resolve, hax]
    simp [go_sem]
  · have : #[.func (.yield (w.heap.size + 1)) #[] #[]] ++ lb.toArray = (Value.func (.yield (w.heap.size + 1)) #[] #[] :: lb).toArray := by
      apply Array.toList_inj.1; simp
    simp only [invoke]
    rw [this]; exact henter _ _
  · obtain ⟨v', e2, rfl, _, x2⟩ := he
    have hget3 : h3.get h.n = some (.lp ⟨n, f, ps.toList, y, z⟩) := (x2.ro h.n ⟨by rw [hn1]; exact Nat.lt_succ_self _, .inl ⟨_, hget1, trivial⟩⟩).trans hget1
    have hm2 : e2 h.n 0 = some ⟨w.heap.size + 1, 0, 0, 0⟩ := x2.le _ _ _ n1
    obtain ⟨blk, k1, k2⟩ := x2.hr.at' _ _ _ hm2
    rw [hget3] at k1; cases k1
    generalize hob : w2.heap[w.heap.size + 1]? = ob at k2
    cases k2 with
    | cells _ _ _ q => exact q.cells.elim
    | map _ _ _ _ hh => cases hh
    | sit _ _ hh => cases hh
    | iter _ _ _ _ hh => cases hh
    | busy _ hh => cases hh
    | dfr hh => cases hh
    | lp q fn3 tm3 df3 hh _ _ _ _ _ _ _ =>
      refine ⟨none, _, run_endLoop hob (by simp), ?_⟩
      have x3 : Ext e h w e2 h3 w2 := xx.trans x2
      have x4 := x3.turn hm2 (Nat.le_refl _) (Nat.le_succ _) hget3 id (BR.busy (e := e2) (b := .sit 0 0 8) (g := 0) (x := ⟨w.heap.size + 1, 0, 0, 0⟩) (.loop { state := .exhausted, pending := none, fn := fn3, tmps := tm3, params := q.ps.toArray, assign := q.a, body := q.b, defers := df3 }) rfl rfl (Nat.le_refl _))
      refine hp e2 _ _ x4 ⟨(hf.mono x4.le).1, (hf.mono x4.le).2.1, rfl⟩ ?_
      exact (hdf1.ext x2).other (r := w.heap.size + 1) (fun o hh => by rw [hob] at hh; cases hh) (fun k hk => World.putObj_heap_other hk) (by rw [World.putObj_size]; exact Nat.le_refl _)
end Go.Ab

/- Code, done on named blocks, is what the model does (second part). -/
namespace Go.Ab
open Go
variable {C : Cx} {R : Option Nat → Prop} {b0 : Nat}

theorem keyd (e : Emb) (h : Hp) (w : World) (hr : HR e h w) {r : Nat} {x : Loc} (hx : e r 0 = some x) {no : Out} {k : Es → Out} {P : Out → Prop} (hno : ¬ P no) (hk : P (h.onMap r no k)) :
    ∃ es es' clock l, h.get r = some (.map es) ∧ w.heap[x.r]? = some (.map es' clock) ∧ ERL e es l ∧ l.Perm (es'.toList.map fun m => (m.key, m.val)) ∧ bornOK es' clock ∧ P (k es) := by
  obtain ⟨blk, hget, hbr⟩ := hr.at' r 0 x hx
  unfold Hp.onMap at hk
  rw [hget] at hk
  have hk : P (blk.onMap no k) := hk
  cases blk with
  | flat l fz => exact (hno hk).elim
  | grown t n g fz => exact (hno hk).elim
  | sit n b p => exact (hno hk).elim
  | lp q => exact (hno hk).elim
  | map es =>
    have hk : P (k es) := hk
    generalize hw : w.heap[x.r]? = ob at hbr
    cases hbr with
    | cells c t fr q => exact q.cells.elim
    | sit s pos a _ => cases a
    | iter _ _ _ _ a _ => cases a
    | lp q0 fn0 tm0 df0 a => cases a
    | busy o0 a => cases a
    | dfr a => cases a
    | map es2 es' clock l a _ p q r s => cases a; exact ⟨_, _, _, _, hget, rfl, p, q, s, hk⟩

theorem Post.noP {b0 n : Nat} {e : Emb} {h : Hp} {w : World} {Q : Exit → Act → World → Prop} (q : String) : ¬ Post C b0 n e h w Q (.no q) := fun h => h

/-- A loop over a map. -/
theorem mloop_sim {n : Nat} {a b : Code} {M : MLs} (hml : mlOf C n a b = some M) (hcode : ∀ cd, SizeOf.sizeOf cd < SizeOf.sizeOf b → CodeOK C R n cd) (k : Nat) (c : CallT) (hc : CallOK C c) (f : Fr) (h : Hp) (e : Emb) (act : Act) (w : World) (Q : Exit → Act → World → Prop)
    (hg : GR C e) (hf : FN act.defers n e f act) (hdf : DF b0 e w act.defers) (hr : HR e h w) (hp : Post C b0 n e h w Q (runC (mkML C n M (mkC C n b)) k c f h)) : (Code.seq a b).ow R C.P Q act w := by
  obtain ⟨id, ops, out, id1, ops1, o, o1, o2, t, body, K⟩ := mlOf_spec hml
  unfold mkML at hp
  cases hsx : sx C M.x with
  | none => rw [hsx] at hp; exact (Post.noP _ hp).elim
  | some x =>
  cases hbo : bodyOf M.pr.isSome (mkC C n b) with
  | none => rw [hsx, hbo] at hp; exact (Post.noP _ hp).elim
  | some bc =>
  rw [hsx, hbo] at hp
  simp only at hp
  cases hmc : mlC C n M x bc with
  | none => rw [hmc] at hp; exact (Post.noP _ hp).elim
  | some cc =>
  rw [hmc] at hp
  obtain ⟨m, rfl, mpre, mx, mit, mpr, mnxt, ment, mds, mown, mcs, mfl⟩ := mlC_spec hmc
  -- a round's code
  have hround : RoundOK C R n m bc M.it body := by
    have hbody : SizeOf.sizeOf body < SizeOf.sizeOf b := by rw [K.hb]; simp; omega
    cases hpr : M.pr with
    | none =>
      rw [hpr, K.hb] at hbo
      have hbo : bodyOf false _ = some bc := hbo
      rw [bodyOf_plain] at hbo
      cases hbo
      exact round_plain (by rw [mpr, hpr]; rfl) (by rw [ment, hpr]) rfl (hcode body hbody)
    | some q =>
      have hq := K.pr
      rw [hpr] at hq
      obtain ⟨id2, ops2, code, oe, rfl, q1, q2, q3, q4, q5⟩ := entOf_spec hq.symm
      rw [hpr, K.hb] at hbo
      have hbo : bodyOf true _ = some bc := hbo
      have := bodyOf_entry hbo
      exact round_entry q1 q3 q4 (by rw [mpr, hpr]; rfl) (by rw [ment, hpr]; simp only [q2]) this (hcode code (by rw [K.hb]; simp; omega))
  -- the region ahead
  rw [K.ha]
  refine ow_seq (ow_region ?_)
  obtain ⟨g1, g2, g3⟩ := slotOK_spec K.it
  have hsz : ops.size = M.pre.length + 1 := by rw [← Array.length_toList, K.pre]; simp
  have hlast : ops[M.pre.length]? = some o := by rw [← Array.getElem?_toList, K.pre]; simp
  have hpre : ∀ (i : Nat) (o' : Oper), M.pre[i]? = some o' → ops[0 + i]? = some o' := by
    intro i o' hi
    rw [← Array.getElem?_toList, K.pre, Nat.zero_add, List.getElem?_append_left (List.getElem?_eq_some_iff.1 hi).1]
    exact hi
  have hrange : List.range ops.size = List.range' 0 M.pre.length ++ [M.pre.length] := by
    rw [hsz, List.range_succ, List.range_eq_range']
  rw [hrange]
  have hp : Post C b0 n e h w Q ((runR m.pre c f h).bd Out.no (fun f h => (ev f m.x).onMap Out.no (.no "range: nil map") fun r => h.onMap r (.no "range: no map") fun es => ifb (h.okw h.n) ((h.add (.sit 0 0 7)).bd fun h2 => (setP (.ptr h.n 0 0) m.it f).bd fun f2 => loopEs m (runC bc k) c f2 h2 r es) (.no "range: locked")) Out.exit) := hp
  rcases runR_norm c m.pre f h with ⟨f1, h1, hx⟩ | ⟨q, hx⟩
  · rw [hx] at hp
    have hp : Post C b0 n e h w Q ((ev f1 m.x).onMap Out.no (.no "range: nil map") fun r => h1.onMap r (.no "range: no map") fun es => ifb (h1.okw h1.n) ((h1.add (.sit 0 0 7)).bd fun h2 => (setP (.ptr h1.n 0 0) m.it f1).bd fun f2 => loopEs m (runC bc k) c f2 h2 r es) (.no "range: locked")) := hp
    have hx' : runR (mkSeq C n ops.toList M.pre) c f h = .norm f1 h1 := by rw [← K.preOps, ← mpre]; exact hx
    refine seq_simK hc M.pre 0 hpre f h e act w f1 h1 hg hf hr hx' fun e1 a1 w1 hext1 hf1 => ?_
    have hg1 := hg.mono hext1.le
    have vx := sx_VR hg1 hf1.1 hsx
    rw [mx] at hp
    generalize ev f1 x = vv at vx hp
    generalize hav : a1.eval M.x = av at vx
    cases vx <;> first | exact (Post.noP _ hp).elim | skip
    case remv t k h3 h4 =>
      rw [show ∀ (no : String → Out) (nl : Out) (k : Nat → Out), (AV.nil t).onMap no nl k = no "map" from fun no nl k => by
        show Bool.rec (motive := fun _ => Out) (no "map") nl (Nat.beq t 2) = _
        rw [show Nat.beq t 2 = false from beq_small (by omega) (by omega)]] at hp
      exact (Post.noP _ hp).elim
    case modv t k h3 h4 h5 h6 h7 =>
      rw [show ∀ (no : String → Out) (nl : Out) (k : Nat → Out), (AV.nil t).onMap no nl k = no "map" from fun no nl k => by
        show Bool.rec (motive := fun _ => Out) (no "map") nl (Nat.beq t 2) = _
        rw [show Nat.beq t 2 = false from beq_small (by assumption) (by omega)]] at hp
      exact (Post.noP _ hp).elim
    case map r xm hm hmb =>
      have hp : Post C b0 n e h w Q (h1.onMap r (.no "range: no map") fun es => ifb (h1.okw h1.n) ((h1.add (.sit 0 0 7)).bd fun h2 => (setP (.ptr h1.n 0 0) m.it f1).bd fun f2 => loopEs m (runC bc k) c f2 h2 r es) (.no "range: locked")) := hp
      obtain ⟨es, es', clock, l, b1, b2, b3, b4, b5, hp⟩ := keyd e1 h1 w1 hext1.hr hm (Post.noP _) hp
      cases hok : h1.okw h1.n with
      | false => rw [hok] at hp; exact (Post.noP _ hp).elim
      | true =>
      rw [hok, ifb_true, Hp.add_eq, Bx.bd_mk, setP_eq, Bx.bd_mk] at hp
      rcases loopEs_cases m (runC bc k) c (setT (.ptr h1.n 0 0) m.it f1) ⟨setT (.sit 0 0 7) (path h1.n) h1.t, h1.n + 1, h1.lk⟩ r es with hloop | ⟨qf, hfl, hloop, hfin⟩
      · rw [hloop] at hp
        obtain ⟨s0, rows, sf, hread, hrows1, hallok, hrows2, hwalk, hp⟩ := mapEs_ok (fun q => Post.noP q) hp
        obtain ⟨kt, vt, hu⟩ := isMapT_spec K.mapT
        rw [owOps_cons]
        refine owOp_val (v := .pointer (some ⟨w1.heap.size, 0, none⟩)) (w' := w1.alloc (.mapIter (some xm.r) clock #[] clock)) hlast g1 ?_ ?_
        · have := run_range_map (P := C.P) w1 t kt vt xm.r es' clock hu b2
          simp only [execOp, K.op, hav, this, Sem.run_bind, Result.andThen_ok, Sem.run_pure]
        rw [g2]
        obtain ⟨e2, n1, hext2⟩ := hext1.hr.alloc (.sit 0 0 7) (.mapIter (some xm.r) clock #[] clock) ⟨w1.heap.size, 0, 0, 0⟩ rfl (fun e' _ _ => .iter _ _ _ _ rfl rfl (Nat.le_refl _))
        generalize hh2 : (⟨setT (.sit 0 0 7) (path h1.n) h1.t, h1.n + 1, h1.lk⟩ : Hp) = h2 at hext2 hread hrows1 hallok hp
        have hget2 : ∀ q, h2.get q = if q = h1.n then some (.sit 0 0 7) else h1.get q := fun q => by rw [← hh2]; exact Hp.get_set _ _ h1.n _ _ _
        have hlk2 : ∀ q, h2.okw q = h1.okw q := fun q => okw_lk (by rw [← hh2]) q
        have hf2 : FN act.defers n e2 (setT (.ptr h1.n 0 0) m.it f1) (a1.put (some M.it) (.pointer (some ⟨w1.heap.size, 0, none⟩))) := by
          rw [mit]
          exact (hf1.mono hext2.le).put g3 (.ptr h1.n 0 0 _ n1 (Nat.le_refl _) (Nat.le_refl _))
        generalize hff : setT (.ptr h1.n 0 0) m.it f1 = f2 at hf2 hread hrows1 hallok hp
        have hitf : slot f2 M.it = .ptr h1.n 0 0 := by rw [← hff, mit, slot_set, if_pos rfl]
        generalize (a1.put (some M.it) (.pointer (some ⟨w1.heap.size, 0, none⟩))) = a2 at hf2
        generalize hw2 : w1.alloc (.mapIter (some xm.r) clock #[] clock) = w2 at hext2
        generalize hexx : exOf h2 f2 [] = ex at hread hrows1 hallok hp
        generalize hcs : (m.cs.filter fun p => (slotV f2 p).isSome) = cs at hread hrows1 hp
        have hcsm : ∀ p ∈ cs, p ∈ m.cs := fun p hp => by rw [← hcs] at hp; exact (List.mem_filter.1 hp).1
        have hcsown : ∀ p ∈ cs, p ≠ path M.it := fun p hp => mown p (.inr (mcs p (hcsm p hp)).1)
        obtain ⟨hread1, hread2⟩ := readSt_spec hread
        have hrm : r ≠ h1.n := fun hh => Nat.lt_irrefl _ (hh ▸ (hext1.hr.lt _ _ _ hm).2)
        have MA : MapAt C n m bc M.it M.nx M.more e2 h2 w2 f2 ex cs h1.n w1.heap.size r xm.r clock ⟨w1.heap.size, 0, 0, 0⟩ xm es l es' := by
          refine ⟨mit, fun hh => ?_, fun hh => hcsown _ hh rfl, (mds _).2 (.inl rfl), fun hh => (mcs _ (hcsm _ hh)).2.1 rfl, (mds _).2 (.inr (.inl rfl)), fun hh => (mcs _ (hcsm _ hh)).2.2 rfl, (slotOK_spec K.more).2.2,
            fun p hp => (mds p).2 (.inr (.inr (.inr (.inl hp)))), fun p hp => (mds p).2 (.inr (.inr (.inr (.inr hp)))), fun p hp => (mds p).2 (.inr (.inr (.inl (by rw [hp]; simp)))), fun q hq => ⟨List.all_eq_true.1 hallok q hq, ?_⟩, n1, rfl, by rw [hget2, if_pos rfl], by rw [hlk2]; exact hok, hext2.le _ _ _ hm, rfl,
            by rw [hget2, if_neg hrm]; exact b1, b3.mono hext2.le, b5, hitf, hg1.mono hext2.le⟩
          · rcases (mds _).1 hh with h3 | h3 | h3
            · exact K.nxit (path_inj _ _ h3).symm
            · exact K.mrit (path_inj _ _ h3).symm
            · exact mown _ h3 rfl
          · obtain ⟨v, _, hv⟩ := readCs_cell hread1 hq
            exact ⟨v, hv⟩
        have hlen : lenA es = l.length := by rw [b3.length]; simp
        show (Code.ow R C.P b Q a2 w2)
        rw [K.hb]
        obtain ⟨k1, k2, k3⟩ := putCs_spec ex s0.1 h2 h2 hread1
        have hsame : h2.grew (putCs ex s0.1 h2).out := ⟨by rw [k1]; exact Nat.le_refl _, fun q _ => by rw [k3]; split <;> rfl, k2⟩
        refine ow_block (ow_of_owL (rounds_sim (b0 := b0) (sf := sf) (Q := Exit.inBlock out Q) MA hrows1 (by rw [← b3.length, ← hlen]; exact hrows2) hc hround K.two K.next K.nx K.extr K.more mnxt.symm (fun aF wF hextF hfF dF => ?_) _ (List.range (lenA es)) rfl s0 a2 w2 ?_))
        · show Exit.inBlock out Q (.exit out) aF wF
          simp only [Exit.inBlock, if_true]
          exact hp e2 aF wF (hext1.trans (hext2.trans hextF)) hfF dF
        · refine ⟨(Ext.refl hext2.hr).grow hsame, ⟨⟨fun q => ?_, hf2.1.2⟩, hf2.2.1, rfl⟩, ?_, ⟨#[], ?_, ?_⟩, ?_, hwalk, ⟨f2, h2, hread⟩, by rw [hf2.2.2]; exact hdf.ext (hext1.trans hext2)⟩
          · rw [putSs_slot cs s0.2 _ f2 q hread2]
            by_cases hq : path q ∈ cs
            · rw [if_pos hq]; exact hf2.1.1 q
            · rw [if_neg hq, anyAll_slot]
              by_cases hd : path q ∈ m.ds
              · rw [if_pos hd]; exact .any _
              · rw [if_neg hd]; exact hf2.1.1 q
          · rw [← hw2, heap_alloc_old _ _ (hext1.hr.lt _ _ _ hm).1]; exact b2
          · rw [← hw2]; exact heap_alloc_new _ _
          · have hleft : (leftOf es' #[]).toList = es'.toList := by
              unfold leftOf
              rw [Array.toList_filter, List.filter_eq_self]
              intro q _
              simp
            rw [hleft, hlen, range_get]
            have := b4.map some
            simpa [List.map_map, Function.comp_def] using this
          · intro i hi
            rw [List.mem_range] at hi
            simpa using hi
      · rw [hloop] at hp
        rcases fillEs_spec (m := m) (q := qf) (c := c) (f := setT (.ptr h1.n 0 0) m.it f1) (h := ⟨setT (.sit 0 0 7) (path h1.n) h1.t, h1.n + 1, h1.lk⟩) (r := r) (es := es) with ⟨q, hq⟩ | ⟨rt, est, hA, rs, z0, z1, z2, z3, z4, z5, z6⟩
        · rw [hq] at hp; exact (Post.noP _ hp).elim
        rw [z6] at hp
        obtain ⟨kt, vt, hu⟩ := isMapT_spec K.mapT
        rw [owOps_cons]
        refine owOp_val (v := .pointer (some ⟨w1.heap.size, 0, none⟩)) (w' := w1.alloc (.mapIter (some xm.r) clock #[] clock)) hlast g1 ?_ ?_
        · have := run_range_map (P := C.P) w1 t kt vt xm.r es' clock hu b2
          simp only [execOp, K.op, hav, this, Sem.run_bind, Result.andThen_ok, Sem.run_pure]
        rw [g2]
        obtain ⟨e2, n1, hext2⟩ := hext1.hr.alloc (.sit 0 0 7) (.mapIter (some xm.r) clock #[] clock) ⟨w1.heap.size, 0, 0, 0⟩ rfl (fun e' _ _ => .iter _ _ _ _ rfl rfl (Nat.le_refl _))
        generalize hh2 : (⟨setT (.sit 0 0 7) (path h1.n) h1.t, h1.n + 1, h1.lk⟩ : Hp) = h2 at hext2 z1 z2 z4 hp
        have hget2 : ∀ q, h2.get q = if q = h1.n then some (.sit 0 0 7) else h1.get q := fun q => by rw [← hh2]; exact Hp.get_set _ _ h1.n _ _ _
        have hlk2 : ∀ q, h2.okw q = h1.okw q := fun q => okw_lk (by rw [← hh2]) q
        have hf2 : FN act.defers n e2 (setT (.ptr h1.n 0 0) m.it f1) (a1.put (some M.it) (.pointer (some ⟨w1.heap.size, 0, none⟩))) := by
          rw [mit]
          exact (hf1.mono hext2.le).put g3 (.ptr h1.n 0 0 _ n1 (Nat.le_refl _) (Nat.le_refl _))
        generalize hff : setT (.ptr h1.n 0 0) m.it f1 = f2 at hf2 z0 z4 hp
        have hitf : slot f2 M.it = .ptr h1.n 0 0 := by rw [← hff, mit, slot_set, if_pos rfl]
        generalize (a1.put (some M.it) (.pointer (some ⟨w1.heap.size, 0, none⟩))) = a2 at hf2
        generalize hw2 : w1.alloc (.mapIter (some xm.r) clock #[] clock) = w2 at hext2
        have hrm : r ≠ h1.n := fun hh => Nat.lt_irrefl _ (hh ▸ (hext1.hr.lt _ _ _ hm).2)
        have MA : MapAt C n m bc M.it M.nx M.more e2 h2 w2 f2 [] [] h1.n w1.heap.size r xm.r clock ⟨w1.heap.size, 0, 0, 0⟩ xm es l es' := by
          refine ⟨mit, fun hh => ?_, (fun hh => by cases hh), (mds _).2 (.inl rfl), (fun hh => by cases hh), (mds _).2 (.inr (.inl rfl)), (fun hh => by cases hh), (slotOK_spec K.more).2.2,
            fun p hp => (mds p).2 (.inr (.inr (.inr (.inl hp)))), fun p hp => (mds p).2 (.inr (.inr (.inr (.inr hp)))), fun p hp => (mds p).2 (.inr (.inr (.inl (by rw [hp]; simp)))), (fun q hq => by cases hq), n1, rfl, by rw [hget2, if_pos rfl], by rw [hlk2]; exact hok, hext2.le _ _ _ hm, rfl,
            by rw [hget2, if_neg hrm]; exact b1, b3.mono hext2.le, b5, hitf, hg1.mono hext2.le⟩
          rcases (mds _).1 hh with h3 | h3 | h3
          · exact K.nxit (path_inj _ _ h3).symm
          · exact K.mrit (path_inj _ _ h3).symm
          · exact mown _ h3 rfl
        -- the round's shape
        rw [mfl] at hfl
        obtain ⟨pq, qq, kd, pm, pk, pv, y1, y2, y3, rfl⟩ := flOf_spec hfl
        have hq0 := K.pr
        rw [y1] at hq0
        obtain ⟨id2, ops2, code, oe, hbody, q1, q2, q3, q4, q5⟩ := entOf_spec hq0.symm
        have hq1 := K.fill
        rw [y2] at hq1
        obtain ⟨id2', id3, ops2', ops3, tU, x', y', z', hbody2, r1, r2, r3, r4, r5⟩ := fillOf_spec hq1.symm
        rw [hbody] at hbody2
        cases hbody2
        obtain ⟨k1, rfl, rfl, rfl⟩ := mu_spec r3 y3
        have FB : FillBody C n m (mkSeq C n qq.1 qq.2.1, kd, path x', path y', path z') M.it body pq.1 id2 id3 ops2 ops3 oe qq.2.2 pq.2.1 qq.2.1 tU x' y' z' :=
          ⟨hbody, q1, q3, q4, by rw [mpr, y1]; rfl, by rw [ment, y1]; simp only [q2], r1, r3, r4, r5, k1, by rw [r2], rfl, rfl, rfl⟩
        have hbcc : bc = mkC C n (.region id3 ops3 false) := by
          rw [y1, K.hb, hbody] at hbo
          exact bodyOf_entry hbo
        obtain ⟨ts, z0⟩ := z0
        have vt := hf2.1.1 ts
        rw [z0] at vt
        obtain ⟨xt, hxt⟩ : ∃ xt, e2 rt 0 = some xt := by
          generalize a2.tmps.getD ts undef = u at vt
          cases vt with
          | map _ y k1 _ => exact ⟨y, k1⟩
        have FA : FillAt C n m (mkSeq C n qq.1 qq.2.1, kd, path x', path y', path z') c e2 h2 w2 f2 es rt xt est hA rs xm.r := by
          refine ⟨hext2.hr, hxt, z1, z2, fun hh => z3 (hext2.hr.inj _ _ _ _ _ _ hxt (hext2.le _ _ _ hm) hh).1, z4, z5, fun p hp => (mds p).2 (.inr (.inr (.inr (.inr ?_))))⟩
          rw [hbcc]
          show p ∈ setsR (mkSeq C n ops3.toList ops3.toList)
          rw [r2] at hp
          have hap : mkSeq C n ops3.toList ops3.toList = mkSeq C n ops3.toList qq.2.1 ++ mkSeq C n ops3.toList [qq.2.2] := by
            rw [← mkSeq_append, ← r1]
          rw [hap]
          obtain ⟨sq, k1, k2⟩ := List.mem_filterMap.1 hp
          exact List.mem_filterMap.2 ⟨sq, List.mem_append_left _ k1, k2⟩
        have hlen : lenA es = l.length := by rw [b3.length]; simp
        show (Code.ow R C.P b Q a2 w2)
        rw [K.hb]
        have hrtn : rt ≠ h1.n := fun hh => by
          rw [hget2, if_pos hh] at z1; cases z1
        have hst : Ext e2 h2 w2 e2 (hSt rt est hA []) w2 := by
          refine (Ext.refl hext2.hr).grow ⟨FA.all.n, fun q hq => ?_, FA.all.lk⟩
          rw [hSt_get]
          by_cases hqr : q = rt
          · rw [if_pos hqr, hqr, z1]; simp
          · rw [if_neg hqr, FA.all.old q hq]
            exact (Hp.get_set _ _ h2.n _ _ _).trans (if_neg hqr)
        refine ow_block (ow_of_owL (rounds_fill (ds := act.defers) (Q := Exit.inBlock out Q) MA FA hc FB K.two K.next K.nx K.extr K.more (fun eS aF wF hextF hfF => ?_) _ (List.range (lenA es)) rfl [] e2 a2 w2 ?_))
        · show Exit.inBlock out Q (.exit out) aF wF
          simp only [Exit.inBlock, if_true]
          have hdd := hfF.2.2
          exact hp eS aF wF (hext1.trans (hext2.trans hextF)) (by rw [hdd]; exact hfF) (by rw [hdd]; exact hdf.ext (hext1.trans (hext2.trans hextF)))
        · refine ⟨hst, fun _ _ _ _ _ _ => rfl, fun b g x hx => .inl (hext2.hr.lt _ _ _ hx).2, ⟨⟨fun q => ?_, hf2.1.2⟩, hf2.2⟩, ?_, ⟨#[], ?_, ?_⟩, ?_, ?_⟩
          · rw [anyAll_slot]
            by_cases hd : path q ∈ m.ds
            · rw [if_pos hd]; exact .any _
            · rw [if_neg hd]; exact hf2.1.1 q
          · rw [← hw2, heap_alloc_old _ _ (hext1.hr.lt _ _ _ hm).1]; exact b2
          · rw [← hw2]; exact heap_alloc_new _ _
          · have hleft : (leftOf es' #[]).toList = es'.toList := by
              unfold leftOf
              rw [Array.toList_filter, List.filter_eq_self]
              intro q _
              simp
            rw [hleft, hlen, range_get]
            have := b4.map some
            simpa [List.map_map, Function.comp_def] using this
          · intro i hi
            rw [List.mem_range] at hi
            simpa using hi
          · rw [List.map_nil, List.nil_append, show lenA es = rs.length by rw [lenA_eq, FA.all.len], range_get]
  · rw [hx] at hp; exact (Post.noP _ hp).elim

theorem code_sim (hd : DrawOK C) (hn : Named C.P) (n : Nat) : ∀ cd : Code, (∀ ro, R ro → ro = none) ∨ flatC cd = true → CodeOK C R n cd := by
  intro cd
  induction hs : SizeOf.sizeOf cd using Nat.strongRecOn generalizing cd with
  | ind sz IH =>
  intro hR
  have IH : ∀ cd', SizeOf.sizeOf cd' < SizeOf.sizeOf cd → (∀ ro, R ro → ro = none) ∨ flatC cd' = true → CodeOK C R n cd' := fun cd' hlt => IH (SizeOf.sizeOf cd') (hs ▸ hlt) cd' rfl
  clear hs
  cases cd with
  | skip => intro b0 k c _ f h e a w Q _ hf hdf hr hp; exact ow_skip (hp e a w (.refl hr) hf hdf)
  | label l => intro b0 k c _ f h e a w Q _ hf hdf hr hp; exact ow_label (hp e a w (.refl hr) hf hdf)
  | exit id => intro b0 k c _ f h e a w Q _ hf hdf hr hp; exact ow_exit (hp e a w (.refl hr) hf hdf)
  | ret => intro b0 k c _ f h e a w Q _ hf hdf hr hp; exact ow_ret (hp e a w (.refl hr) hf hdf)
  | region id ops draw =>
    intro b0 k c hc f h e a w Q hg hf hdf hr hp
    cases draw with
    | true => exact hd R a.defers n id ops c hc f h e a w Q hg hf hr (Post.region hp hdf)
    | false =>
      refine ow_region ?_
      have := seq_sim (Q := Q) hc ops.toList 0 (fun i o hi => by simpa using hi) f h e a w hg hf hr (Post.region hp hdf)
      rw [List.range_eq_range']
      simpa using this
  | seq x y =>
    intro b0 k c hc f h e a w Q hg hf hdf hr hp
    have hm : mkC C n (.seq x y) = match mlOf C n x y with
      | some m => mkML C n m (mkC C n y)
      | none => .seq (mkC C n x) (mkC C n y) := rfl
    rw [hm] at hp
    cases hml : mlOf C n x y with
    | some m =>
      rw [hml] at hp
      rcases hR with hR | hR
      case inr =>
        exfalso
        obtain ⟨id, ops, out, id1, ops1, o, o1, o2, t, body, K⟩ := mlOf_spec hml
        have hR : and (flatC x) (flatC y) = true := hR
        rw [Bool.and_eq_true, K.hb] at hR
        exact absurd hR.2 (by show ¬ (false = true); simp)
      exact mloop_sim (R := R) hml (fun cd' hlt => IH cd' (by simp; omega) (.inl hR)) k c hc f h e a w Q hg hf hdf hr hp
    | none =>
    rw [hml] at hp
    have ihx := IH x (by simp; omega) (hR.imp (fun h => h) fun h => by
      have h : and (flatC x) (flatC y) = true := h
      rw [Bool.and_eq_true] at h; exact h.1)
    have ihy := IH y (by simp; omega) (hR.imp (fun h => h) fun h => by
      have h : and (flatC x) (flatC y) = true := h
      rw [Bool.and_eq_true] at h; exact h.2)
    refine ow_seq (ihx b0 k c hc f h e a w _ hg hf hdf hr ?_)
    have hp : Post C b0 n e h w Q ((runC (mkC C n x) k c f h).bd Out.no (runC (mkC C n y) k c) Out.exit) := hp
    cases hx : runC (mkC C n x) k c f h with
    | norm f2 h2 =>
      rw [hx] at hp
      intro e' a' w' hext hf' hdf'
      exact ihy b0 k c hc f2 h2 e' a' w' Q (hg.mono hext.le) hf' hdf' hext.hr (Post.after hp hext)
    | exit i f2 h2 => rw [hx] at hp; exact hp
    | ret f2 h2 => rw [hx] at hp; exact hp
    | no s => rw [hx] at hp; exact hp
  | cond x y z =>
    intro b0 k c hc f h e a w Q hg hf hdf hr hp
    have ihy := IH y (by simp; omega) (hR.imp (fun h => h) fun h => by
      have h : and (flatC y) (flatC z) = true := h
      rw [Bool.and_eq_true] at h; exact h.1)
    have ihz := IH z (by simp; omega) (hR.imp (fun h => h) fun h => by
      have h : and (flatC y) (flatC z) = true := h
      rw [Bool.and_eq_true] at h; exact h.2)
    have hp : Post C b0 n e h w Q (runC (match sx C x with
      | some c => .cond c (mkC C n y) (mkC C n z)
      | none => .bad "cond") k c f h) := hp
    cases hs : sx C x with
    | none => rw [hs] at hp; exact hp.elim
    | some s =>
      rw [hs] at hp
      have hp : Post C b0 n e h w Q ((ev f s).onBool Out.no fun t => Bool.rec (motive := fun _ => Out) (runC (mkC C n z) k c f h) (runC (mkC C n y) k c f h) t) := hp
      rcases (sx_VR hg hf.1 hs).onBool (no := Out.no) (k := fun t => Bool.rec (motive := fun _ => Out) (runC (mkC C n z) k c f h) (runC (mkC C n y) k c f h) t) with ⟨b, _, h1, h2⟩ | ⟨q, h2⟩
      · rw [h2] at hp
        refine ow_cond h1 ?_
        cases b with
        | true => exact ihy b0 k c hc f h e a w Q hg hf hdf hr hp
        | false => exact ihz b0 k c hc f h e a w Q hg hf hdf hr hp
      · rw [h2] at hp; exact hp.elim
  | block id b =>
    intro b0 k c hc f h e a w Q hg hf hdf hr hp
    have ih := IH b (by simp; omega) (hR.imp (fun h => h) fun h => h)
    refine ow_block (ih b0 k c hc f h e a w _ hg hf hdf hr ?_)
    have hp : Post C b0 n e h w Q ((runC (mkC C n b) k c f h).bd Out.no Out.norm fun i f h => Bool.rec (motive := fun _ => Out) (.exit i f h) (.norm f h) (Nat.beq i id)) := hp
    cases hx : runC (mkC C n b) k c f h with
    | norm f2 h2 => rw [hx] at hp; exact hp
    | ret f2 h2 => rw [hx] at hp; exact hp
    | no s => rw [hx] at hp; exact hp
    | exit i f2 h2 =>
      rw [hx] at hp
      intro e' a' w' hext hf' hdf'
      have hp : Post C b0 n e h w Q (Bool.rec (motive := fun _ => Out) (.exit i f2 h2) (.norm f2 h2) (Nat.beq i id)) := hp
      simp only [Exit.inBlock]
      cases hb : Nat.beq i id with
      | true => rw [hb] at hp; rw [if_pos (beq_iff.1 hb)]; exact hp e' a' w' hext hf' hdf'
      | false =>
        rw [hb] at hp
        rw [if_neg (fun hh => by rw [beq_iff.2 hh] at hb; cases hb)]
        exact hp e' a' w' hext hf' hdf'
  | loop b =>
    intro b0 k c hc f h e a w Q hg hf hdf hr hp
    rcases hR with hR | hR
    case inr => exact absurd hR (by show ¬ (false = true); simp)
    have ih := IH b (by simp) (.inl hR)
    have hp : Post C b0 n e h w Q (rounds (runC (mkC C n b) k) c k f h) := hp
    have key : ∀ (m : Nat) (f : Fr) (h : Hp) (e : Emb) (a : Act) (w : World), GR C e → FN a.defers n e f a → DF b0 e w a.defers → HR e h w → Post C b0 n e h w Q (rounds (runC (mkC C n b) k) c m f h) → owL R C.P b Q a w := by
      intro m
      induction m with
      | zero => intro f h e a w _ _ _ _ hp; exact hp.elim
      | succ m ihm =>
        intro f h e a w hg hf hdf hr hp
        have hp : Post C b0 n e h w Q ((runC (mkC C n b) k c f h).bd Out.no (rounds (runC (mkC C n b) k) c m) Out.exit) := hp
        refine owL_step (ih b0 k c hc f h e a w _ hg hf hdf hr ?_)
        cases hx : runC (mkC C n b) k c f h with
        | norm f2 h2 =>
          rw [hx] at hp
          intro e' a' w' hext hf' hdf'
          exact ihm f2 h2 e' a' w' (hg.mono hext.le) hf' hdf' hext.hr (Post.after hp hext)
        | exit i f2 h2 => rw [hx] at hp; exact hp
        | ret f2 h2 => rw [hx] at hp; exact hp
        | no s => rw [hx] at hp; exact hp
    exact ow_of_owL (key k f h e a w hg hf hdf hr hp)
  | scope b =>
    intro b0 k c hc f h e a w Q hg hf hdf hr hp
    rcases hR with hR | hR
    case inr => exact absurd hR (by show ¬ (false = true); simp)
    have ih := IH b (by simp) (.inl hR)
    have hp : Post C b0 n e h w Q (runC (mkC C n b) k c f h) := hp
    intro ro hro
    rw [hR ro hro]
    refine wpIn_wide.2 (wp_scope_straight (wpIn_wide.1 (ih b0 k c hc f h e a w (Exit.noGoto Q) hg hf hdf hr ?_ none (by rw [← hR ro hro]; exact hro))))
    cases hx : runC (mkC C n b) k c f h with
    | norm f2 h2 => rw [hx] at hp; exact hp
    | ret f2 h2 => rw [hx] at hp; exact hp
    | no s => rw [hx] at hp; exact hp
    | exit i f2 h2 => rw [hx] at hp; exact hp
  | rangeFunc x ps y z =>
    intro b0 k c hc f h e a w Q hg hf hdf hr hp
    rcases hR with hR | hR
    case inr => exact absurd hR (by show ¬ (false = true); simp)
    have hp : Post C b0 n e h w Q (runC (match sx C x, and (ps.all fun t => Nat.ble (t + 1) n) (and (flatC y) (flatC z)) with
      | some s, true => .rf C s n ps.toList y z
      | _, _ => .bad "range over a function") k c f h) := hp
    cases hs : sx C x with
    | none => rw [hs] at hp; exact hp.elim
    | some s =>
      cases hb : and (ps.all fun t => Nat.ble (t + 1) n) (and (flatC y) (flatC z)) with
      | false => rw [hs, hb] at hp; exact hp.elim
      | true =>
        rw [hs, hb] at hp
        rw [Bool.and_eq_true, Bool.and_eq_true] at hb
        intro ro hro
        rw [hR ro hro]
        refine rf_sim hn hs (fun t ht => ?_) hb.2.1 hb.2.2 k c hc f h e a w Q hg hf hdf hr hp
        have := List.all_eq_true.1 (by rw [← Array.all_toList] at hb; exact hb.1) t ht
        exact Nat.le_of_ble_eq_true this
  | _ => intro b0 k c _ f h e a w Q _ _ _ _ hp; exact hp.elim
end Go.Ab

