/-
  An executable reading of the model's code on named blocks, and the proof that what it comes to is what the model does, in any order that is free: part 5.
-/
import Derived.Test.YtldafmcioaijkaaGreatDoorAbL4
import Derived.Lib.LaidU8
import Derived.Lib.Bytealg
import Derived.ChangeSame
/- Calls of which it is known what they come to: what is done once from the package-level variables alone is so in any memory. -/
namespace Go.Ab
open Go
variable {C : Cx}

mutual
theorem VR.closedT {e e2 : Emb} : ∀ {v : AV} {v' : Value}, VR e v v' → v.closed = true → VR e2 v v'
  | _, _, .int k n, _ => .int k n
  | _, _, .bool b, _ => .bool b
  | _, _, .str s, _ => .str s
  | _, _, .ptr b g o x _ _ _, hc => by cases hc
  | _, _, .slc b g o n c cap x ad _ _ _ _ _ _ _, hc => by cases hc
  | _, _, .nilp, _ => .nilp
  | _, _, .nils, _ => .nils
  | _, _, .nilm, _ => .nilm
  | _, _, .nilf, _ => .nilf
  | _, _, .nili, _ => .nili
  | _, _, .map r x p, hc => by cases hc
  | _, _, .fn g a b a' b' p q, hc => by
    have hc : and (closedL a) (closedL b) = true := hc
    rw [Bool.and_eq_true] at hc
    exact .fn g a b a' b' (VRL.closedT p hc.1) (VRL.closedT q hc.2)
  | _, _, .ifc t v v' p, hc => .ifc t v v' (VR.closedT p hc)
  | _, _, .agg l l' p q, hc => .agg l l' (VRL.closedT p hc) q
  | _, _, .tup l l' p, hc => .tup l l' (VRL.closedT p hc)
  | _, _, .any v', _ => .any v'
  | _, _, .modv t n a b c d, _ => .modv t n a b c d
theorem VRL.closedT {e e2 : Emb} : ∀ {l : List AV} {l' : List Value}, VRL e l l' → closedL l = true → VRL e2 l l'
  | _, _, .nil, _ => .nil
  | _, _, .cons v v' l l' p q, hc => by
    have hc : and v.closed (closedL l) = true := hc
    rw [Bool.and_eq_true] at hc
    exact .cons v v' l l' (VR.closedT p hc.1) (VRL.closedT q hc.2)
end
theorem closedL_mem : ∀ {l : List AV} {v : AV}, closedL l = true → v ∈ l → v.closed = true
  | x :: l, v, hc, hm => by
    have hc : and x.closed (closedL l) = true := hc
    rw [Bool.and_eq_true] at hc
    rcases List.mem_cons.1 hm with rfl | hm
    · exact hc.1
    · exact closedL_mem hc.2 hm

theorem BR.closedT {e e2 : Emb} {l : List AV} {z g : Nat} {x : Loc} {ob : Option Obj} (hc : closedL l = true) (h : BR e (.flat l z) g x ob) : BR e2 (.flat l z) g x ob := by
  cases h with
  | map es es' clock l a _ _ _ _ _ => cases a
  | sit s pos a _ => cases a
  | iter m since seen stepped a _ => cases a
  | cells c t fr q =>
    refine .cells c t fr ⟨q.cells, q.lo, q.sz, q.gen, q.known, fun i u hi hu => ?_, q.fz2, q.fz0⟩
    obtain ⟨h1, v', h2, h3⟩ := q.at' i u hi hu
    have hm : u ∈ l := by
      have hu : ifb (Nat.beq g 0) (nthA l i) none = some u := hu
      cases hg : Nat.beq g 0 with
      | false => rw [hg] at hu; cases hu
      | true =>
        rw [hg, ifb_true, nthA_eq] at hu
        exact List.mem_of_getElem? hu
    exact ⟨h1, v', h2, h3.closedT (closedL_mem hc hm)⟩

/-! ### Other names -/
theorem isCell_ren (u : AV) (ρ ρ' : Nat → Nat × Nat) : (u.ren ρ).isCell = (u.ren ρ').isCell := by cases u <;> rfl
theorem renL_get (ρ : Nat → Nat × Nat) : ∀ (l : List AV) (i : Nat), (renL ρ l)[i]? = (l[i]?).map fun u => u.ren ρ
  | [], i => by simp [renL]
  | v :: l, 0 => by simp [renL]
  | v :: l, i + 1 => by simp [renL, renL_get ρ l i]
theorem renL_mem {ρ : Nat → Nat × Nat} {l : List AV} {v : AV} (h : v ∈ renL ρ l) : ∃ u ∈ l, v = u.ren ρ := by
  obtain ⟨i, hi⟩ := List.mem_iff_getElem?.1 h
  rw [renL_get] at hi
  cases hl : l[i]? with
  | none => rw [hl] at hi; cases hi
  | some u => rw [hl] at hi; cases hi; exact ⟨u, List.mem_of_getElem? hl, rfl⟩
theorem renL_length (ρ : Nat → Nat × Nat) : ∀ l : List AV, (renL ρ l).length = l.length
  | [] => rfl
  | v :: l => by simp [renL, renL_length ρ l]

section
variable {e1 e' : Emb} {ρ1 ρ2 : Nat → Nat × Nat}
mutual
theorem VR.ren (hk : ∀ i x, e1 (ρ1 i).1 (ρ1 i).2 = some x → e' (ρ2 i).1 (ρ2 i).2 = some x) : ∀ (u : AV) {u' : Value}, VR e1 (u.ren ρ1) u' → VR e' (u.ren ρ2) u'
  | .int k n, u', h => VR.closedT (v := .int k n) h rfl
  | .bool b, u', h => VR.closedT (v := .bool b) h rfl
  | .str n b, u', h => VR.closedT (v := .str n b) h rfl
  | .nil t, u', h => VR.closedT (v := .nil t) h rfl
  | .map r, u', _ => .any u'
  | .ptr b g o, u', h => by
    have h : VR e1 (.ptr (ρ1 b).1 (ρ1 b).2 o) u' := h
    cases h with
    | ptr _ _ _ x p1 p2 p3 => exact .ptr _ _ o x (hk b x p1) p2 p3
  | .sl b g o n c, u', h => by
    have h : VR e1 (.sl (ρ1 b).1 (ρ1 b).2 o n c) u' := h
    cases h with
    | slc _ _ _ _ _ cap x ad p1 p2 p3 p4 p5 p6 p7 => exact .slc _ _ o n c cap x ad (hk b x p1) p2 p3 p4 p5 p6 p7
  | .fn g a b, u', h => by
    have h : VR e1 (.fn g (renL ρ1 a) (renL ρ1 b)) u' := h
    cases h with
    | fn _ _ _ a' b' p q => exact .fn g _ _ a' b' (VRL.ren hk a p) (VRL.ren hk b q)
  | .ifc t v, u', h => by
    have h : VR e1 (.ifc t (v.ren ρ1)) u' := h
    cases h with
    | ifc _ _ v' p => exact .ifc t _ v' (VR.ren hk v p)
  | .agg l, u', h => by
    have h : VR e1 (.agg (renL ρ1 l)) u' := h
    cases h with
    | agg _ l' p q =>
      refine .agg _ l' (VRL.ren hk l p) fun v hv => ?_
      obtain ⟨u, hu, rfl⟩ := renL_mem hv
      rw [isCell_ren u ρ2 ρ1]
      obtain ⟨i, hi⟩ := List.mem_iff_getElem?.1 hu
      exact q _ (List.mem_of_getElem? (i := i) (by rw [renL_get, hi]; rfl))
  | .tup l, u', h => by
    have h : VR e1 (.tup (renL ρ1 l)) u' := h
    generalize hv : AV.tup (renL ρ1 l) = v at h
    cases h <;> first | (cases hv; done) | skip
    case tup l2 l' p =>
      cases hv
      exact .tup _ l' (VRL.ren hk l p)
theorem VRL.ren (hk : ∀ i x, e1 (ρ1 i).1 (ρ1 i).2 = some x → e' (ρ2 i).1 (ρ2 i).2 = some x) : ∀ (l : List AV) {l' : List Value}, VRL e1 (renL ρ1 l) l' → VRL e' (renL ρ2 l) l'
  | [], l', h => by
    have h : VRL e1 [] l' := h
    cases h; exact .nil
  | v :: l, l', h => by
    have h : VRL e1 (v.ren ρ1 :: renL ρ1 l) l' := h
    cases h with
    | cons _ v' _ l2 p q => exact .cons _ v' _ l2 (VR.ren hk v p) (VRL.ren hk l q)
end
end

theorem addAll_spec (ρ : Nat → Nat × Nat) : ∀ (bs : List (List AV × Nat)) (h : Hp), (addAll ρ bs h).out.n = h.n + bs.length ∧ (addAll ρ bs h).out.lk = h.lk ∧ (∀ b, b < h.n → (addAll ρ bs h).out.get b = h.get b) ∧ ∀ i q, bs[i]? = some q → (addAll ρ bs h).out.get (h.n + i) = some (.flat (renL ρ q.1) q.2)
  | [], h => ⟨rfl, rfl, fun _ _ => rfl, fun i q hq => by simp at hq⟩
  | q :: bs, h => by
    have h1 : (addAll ρ (q :: bs) h).out = (addAll ρ bs ⟨setT (.flat (renL ρ q.1) q.2) (path h.n) h.t, h.n + 1, h.lk⟩).out := by
      show ((forceL (renL ρ q.1)).bd fun c => (h.add (.flat c q.2)).bd fun h => addAll ρ bs h).out = _
      rw [forceL_eq, Bx.bd_mk, Hp.add_eq, Bx.bd_mk]
    obtain ⟨k1, k2, k3, k4⟩ := addAll_spec ρ bs ⟨setT (.flat (renL ρ q.1) q.2) (path h.n) h.t, h.n + 1, h.lk⟩
    rw [h1]
    refine ⟨by rw [k1]; simp; omega, k2, fun b hb => ?_, fun i q' hq => ?_⟩
    · rw [k3 b (Nat.lt_succ_of_lt hb), Hp.get_set _ _ h.n, if_neg (Nat.ne_of_lt hb)]
    · cases i with
      | zero =>
        simp at hq; subst hq
        show (addAll ρ bs ⟨setT (.flat (renL ρ q.1) q.2) (path h.n) h.t, h.n + 1, h.lk⟩).out.get h.n = _
        rw [k3 h.n (Nat.lt_succ_self _), Hp.get_set _ _ h.n, if_pos rfl]
      | succ i =>
        have := k4 i q' (by simpa using hq)
        rw [show h.n + (i + 1) = h.n + 1 + i by omega]
        exact this

theorem globOK_get {gl : List (Nat × List AV)} {h : Hp} (hg : globOK gl h = true) {b : Nat} {l : List AV} (hm : (b, l) ∈ gl) : h.get b = some (.flat l 3) := by
  have h1 := List.all_eq_true.1 hg _ hm
  simp only at h1
  split at h1
  · rename_i l2 z hget
    rw [Bool.and_eq_true, beq_iff] at h1
    obtain ⟨rfl, h3⟩ := h1
    rw [hget, avEqL_eq h3]
  · cases h1
theorem globHp_n (gl : List (Nat × List AV)) (n : Nat) : (globHp gl n).n = n := by
  have key : ∀ (gl : List (Nat × List AV)) (h : Hp), (gl.foldl (fun h q => (h.put q.1 (.flat q.2 3)).bd fun h => h) h).n = h.n := by
    intro gl
    induction gl with
    | nil => intro h; rfl
    | cons q gl ih =>
      intro h
      rw [List.foldl_cons, ih, Hp.put_eq]; rfl
  exact key gl _

theorem cellsOK_spec {ρ : Nat → Nat × Nat} {b : Blk} {g : Nat} : ∀ {l : List AV} {k : Nat}, cellsOK ρ b g k l = true → ∀ i u, l[i]? = some u → b.read1 g (k + i) = some (u.ren ρ)
  | x :: l, k, h, i, u, hu => by
    have h : and (match b.read1 g k with
      | some v => avEq v (x.ren ρ)
      | none => false) (cellsOK ρ b g (k + 1) l) = true := h
    rw [Bool.and_eq_true] at h
    cases i with
    | zero =>
      simp at hu; subst hu
      have h1 := h.1
      split at h1
      · rename_i v hv
        rw [Nat.add_zero, hv, avEq_eq h1]
      · cases h1
    | succ i =>
      have := cellsOK_spec h.2 i u (by simpa using hu)
      rw [show k + (i + 1) = k + 1 + i by omega]; exact this
theorem blkOK_spec {ρ : Nat → Nat × Nat} {h : Hp} {p : Nat × Nat} {q : List AV × Nat} (hb : blkOK ρ h p q = true) : ∃ b, h.get p.1 = some b ∧ b.isCells ∧ b.fz = q.2 ∧ q.1.length ≤ b.known p.2 ∧ ∀ i u, q.1[i]? = some u → b.read1 p.2 i = some (u.ren ρ) := by
  unfold blkOK at hb
  split at hb
  · rename_i b hget
    simp only [Bool.and_eq_true] at hb
    obtain ⟨h1, h2, h3, h4⟩ := hb
    refine ⟨b, hget, ?_, beq_iff.1 h2, ?_, fun i u hu => ?_⟩
    · cases b <;> first | trivial | cases h1
    · have := Nat.le_of_ble_eq_true h3
      simpa using this
    · have := cellsOK_spec h4 i u hu
      rwa [Nat.zero_add] at this
  · cases hb
theorem blksOK_spec {ρ : Nat → Nat × Nat} {h : Hp} {n : Nat} : ∀ {ps : List (Nat × Nat)} {qs : List (List AV × Nat)}, blksOK ρ h n ps qs = true → ps.length = qs.length ∧ (∀ p ∈ ps, n ≤ p.1) ∧ ps.Pairwise (fun a b => a.1 ≠ b.1) ∧ ∀ (i : Nat) p q, ps[i]? = some p → qs[i]? = some q → blkOK ρ h p q = true
  | [], [], _ => ⟨rfl, fun p hp => (by cases hp), .nil, fun i p q hp => by simp at hp⟩
  | [], _ :: _, hb => by cases hb
  | _ :: _, [], hb => by cases hb
  | p :: ps, q :: qs, hb => by
    have hb : and (and (Nat.ble n p.1) (not (ps.any fun r => Nat.beq p.1 r.1))) (and (blkOK ρ h p q) (blksOK ρ h n ps qs)) = true := hb
    simp only [Bool.and_eq_true, Bool.not_eq_true'] at hb
    obtain ⟨⟨h1, h2⟩, h3, h4⟩ := hb
    obtain ⟨k1, k2, k3, k4⟩ := blksOK_spec h4
    refine ⟨by simp [k1], fun p' hp' => ?_, List.pairwise_cons.2 ⟨fun r hr hh => ?_, k3⟩, fun i p' q' hp' hq' => ?_⟩
    · rcases List.mem_cons.1 hp' with rfl | hp'
      · exact Nat.le_of_ble_eq_true h1
      · exact k2 p' hp'
    · rw [List.any_eq_false] at h2
      exact h2 r hr (beq_iff.2 hh)
    · cases i with
      | zero => simp at hp' hq'; subst hp'; subst hq'; exact h3
      | succ i => exact k4 i p' q' (by simpa using hp') (by simpa using hq')

/-- A block's cells, under other names. -/
theorem BR.ofBlk {e1 e' : Emb} {ρ1 ρ2 : Nat → Nat × Nat} (hk : ∀ i x, e1 (ρ1 i).1 (ρ1 i).2 = some x → e' (ρ2 i).1 (ρ2 i).2 = some x) {h1 : Hp} {p : Nat × Nat} {bq : List AV × Nat} (hb : blkOK ρ1 h1 p bq = true) {blk : Blk} (hget : h1.get p.1 = some blk) {x : Loc} {ob : Option Obj} (m2 : BR e1 blk p.2 x ob) :
    BR e' (.flat (renL ρ2 bq.1) bq.2) 0 x ob := by
  obtain ⟨blk2, j1, j2, j3, j4, j5⟩ := blkOK_spec hb
  rw [hget] at j1; cases j1
  cases m2 with
  | map es es' clock l a _ _ _ _ _ => subst a; exact j2.elim
  | sit s pos a _ => subst a; exact j2.elim
  | iter _ _ _ _ a _ => subst a; exact j2.elim
  | cells c t fr bc =>
    refine .cells c t fr ⟨trivial, bc.lo, bc.sz, Nat.zero_le _, ?_, fun k u hk' hu => ?_, ?_, ?_⟩
    · have : (Blk.flat (renL ρ2 bq.1) bq.2).known 0 = bq.1.length := by
        show lenA (renL ρ2 bq.1) = _
        simp [renL_length]
      rw [this]
      exact Nat.le_trans j4 bc.known
    · have hu : nthA (renL ρ2 bq.1) k = some u := hu
      rw [nthA_eq, renL_get] at hu
      cases hbk : bq.1[k]? with
      | none => rw [hbk] at hu; cases hu
      | some u0 =>
        rw [hbk] at hu
        cases hu
        obtain ⟨n1, y', n2, n3⟩ := bc.at' k _ hk' (j5 k u0 hbk)
        exact ⟨by rw [isCell_ren u0 _ ρ1]; exact n1, y', n2, VR.ren hk u0 n3⟩
    · rw [← j3] at *; exact bc.fz2
    · exact fun hz => bc.fz0 (by rw [j3]; exact hz)

theorem renU_lt {mu : List (Nat × Nat)} {n i : Nat} {p : Nat × Nat} (h : mu[i]? = some p) : renU mu n i = p := by
  unfold renU; rw [nthA_eq, h]; rfl
theorem renU_ge {mu : List (Nat × Nat)} {n i : Nat} (h : mu[i]? = none) : renU mu n i = (n + (i - mu.length), 0) := by
  unfold renU; rw [nthA_eq, h]
  show (n + (i - lenA mu), 0) = _
  simp
theorem renK_lt {mu keep : List (Nat × Nat)} {far i : Nat} {p : Nat × Nat} (h : mu[i]? = some p) : renK mu keep far i = p := by
  unfold renK; rw [nthA_eq, h]; rfl
theorem renK_ge {mu keep : List (Nat × Nat)} {far i : Nat} (h : mu[i]? = none) : renK mu keep far i = (keep[i - mu.length]?).getD (far, 0) := by
  unfold renK; rw [nthA_eq, h, nthA_eq]
  show (keep[i - lenA mu]?).getD (far, 0) = _
  simp
theorem argMu_get {n k i : Nat} : (argMu n k)[i]? = if i < k then some (n + i, 0) else none := by
  unfold argMu
  rw [List.getElem?_map]
  by_cases h : i < k
  · rw [List.getElem?_range h, if_pos h]; rfl
  · rw [List.getElem?_eq_none (by simpa using h), if_neg h]; rfl
theorem argMu_length (n k : Nat) : (argMu n k).length = k := by simp [argMu]
end Go.Ab

/- Calls of which it is known what they come to (second part). -/
namespace Go.Ab
open Go
variable {C : Cx}

/-- What is laid: the blocks of the package-level variables that are known. -/
structure Laid (C : Cx) (gl : List (Nat × List AV)) (n : Nat) : Prop where
  gs : C.gs = gl.map (·.1)
  ok : globOK gl (globHp gl n) = true
  lt : gl.all (fun q => and (Nat.ble (q.1 + 1) n) (closedL q.2)) = true

/-- The names of the package-level variables, and of the arguments' blocks. -/
def baseE (gl : List (Nat × List AV)) (n : Nat) (mu : List (Nat × Nat)) (e : Emb) : Emb := fun b g => if g = 0 then (if b ∈ gl.map (·.1) then e b 0 else if n ≤ b then (match mu[b - n]? with
  | some p => e p.1 p.2
  | none => none) else none) else none
theorem baseE_spec {gl : List (Nat × List AV)} {n : Nat} {mu : List (Nat × Nat)} {e : Emb} {b g : Nat} {x : Loc} (h : baseE gl n mu e b g = some x) : g = 0 ∧ ((b ∈ gl.map (·.1) ∧ e b 0 = some x) ∨ ∃ i p, b = n + i ∧ mu[i]? = some p ∧ e p.1 p.2 = some x) := by
  unfold baseE at h
  by_cases hg : g = 0
  · rw [if_pos hg] at h
    by_cases hb : b ∈ gl.map (·.1)
    · rw [if_pos hb] at h; exact ⟨hg, .inl ⟨hb, h⟩⟩
    · rw [if_neg hb] at h
      by_cases hn : n ≤ b
      · rw [if_pos hn] at h
        cases hm : mu[b - n]? with
        | none => rw [hm] at h; cases h
        | some p => rw [hm] at h; exact ⟨hg, .inr ⟨b - n, p, by omega, hm, h⟩⟩
      · rw [if_neg hn] at h; cases h
  · rw [if_neg hg] at h; cases h

section
variable {gl : List (Nat × List AV)} {n : Nat} {mu : List (Nat × Nat)} {e : Emb} {h : Hp} {w : World} {q : Kn}

theorem Laid.lt' (L : Laid C gl n) {b : Nat} (hb : b ∈ gl.map (·.1)) : b < n := by
  obtain ⟨p, hp, rfl⟩ := List.mem_map.1 hb
  have := List.all_eq_true.1 L.lt _ hp
  rw [Bool.and_eq_true] at this
  exact Nat.le_of_ble_eq_true this.1
theorem baseE_arg (L : Laid C gl n) {i : Nat} {p : Nat × Nat} (hp : mu[i]? = some p) : baseE gl n mu e (n + i) 0 = e p.1 p.2 := by
  unfold baseE
  rw [if_pos rfl, if_neg (fun hh => by have := L.lt' hh; omega), if_pos (by omega), Nat.add_sub_cancel_left, hp]

theorem argHp_spec (gl : List (Nat × List AV)) (n : Nat) (bas : List (List AV × Nat)) : (argHp gl n bas).n = n + bas.length ∧ (argHp gl n bas).lk = ⟨n + bas.length, []⟩ ∧ (∀ b, b < n → (argHp gl n bas).get b = (globHp gl n).get b) ∧
    ∀ i q, bas[i]? = some q → (argHp gl n bas).get (n + i) = some (.flat (renL (renU (argMu n bas.length) 0) q.1) q.2) := by
  have h1 : argHp gl n bas = ⟨(addAll (renU (argMu n bas.length) 0) bas (globHp gl n)).out.t, (addAll (renU (argMu n bas.length) 0) bas (globHp gl n)).out.n, ⟨(addAll (renU (argMu n bas.length) 0) bas (globHp gl n)).out.n, []⟩⟩ := by
    unfold argHp
    rw [lenA_eq, Bx.eta (addAll (renU (argMu n bas.length) 0) bas (globHp gl n)), Bx.bd_mk]
    rfl
  obtain ⟨k1, k2, k3, k4⟩ := addAll_spec (renU (argMu n bas.length) 0) bas (globHp gl n)
  rw [globHp_n] at k1 k3 k4
  rw [h1]
  exact ⟨k1, by rw [k1], k3, k4⟩

theorem base_sim (L : Laid C gl n) (hg : GR C e) (hr : HR e h w) (hgo : globOK gl h = true) (hb : blksOK (renU mu h.n) h n mu q.bas = true) :
    GR C (baseE gl n mu e) ∧ HR (baseE gl n mu e) (argHp gl n q.bas) w ∧ ∀ i x, e (renU mu h.n i).1 (renU mu h.n i).2 = some x → baseE gl n mu e (renU (argMu n q.bas.length) 0 i).1 (renU (argMu n q.bas.length) 0 i).2 = some x := by
  obtain ⟨hlen, hge, hpw, hblk⟩ := blksOK_spec hb
  obtain ⟨a1, a2, a3, a4⟩ := argHp_spec gl n q.bas
  have hmem : ∀ b, b ∈ gl.map (·.1) → ∃ l, (b, l) ∈ gl := fun b hb => by
    obtain ⟨p, hp, rfl⟩ := List.mem_map.1 hb
    exact ⟨p.2, hp⟩
  have hk : ∀ i x, e (renU mu h.n i).1 (renU mu h.n i).2 = some x → baseE gl n mu e (renU (argMu n q.bas.length) 0 i).1 (renU (argMu n q.bas.length) 0 i).2 = some x := fun i x hx => by
    cases hi : mu[i]? with
    | none =>
      rw [renU_ge hi] at hx
      have := (hr.lt _ _ _ hx).2
      exact absurd this (by show ¬ h.n + (i - mu.length) < h.n; omega)
    | some p =>
      rw [renU_lt hi] at hx
      have hil : i < q.bas.length := by have := (List.getElem?_eq_some_iff.1 hi).1; omega
      rw [renU_lt (show (argMu n q.bas.length)[i]? = some (n + i, 0) by rw [argMu_get, if_pos hil])]
      show baseE gl n mu e (n + i) 0 = some x
      rw [baseE_arg L hi]; exact hx
  refine ⟨fun g hgm => ?_, ⟨fun b g x b' g' x' h1 h2 hrr => ?_, fun b g x h1 => ?_, fun b g x h1 => ?_⟩, hk⟩
  · obtain ⟨x, h1, h2⟩ := hg g hgm
    refine ⟨x, ?_, h2⟩
    rw [L.gs] at hgm
    obtain ⟨j, hj, hj2⟩ := List.any_eq_true.1 hgm
    have : g = j := beq_iff.1 hj2
    subst this
    unfold baseE
    rw [if_pos rfl, if_pos hj]; exact h1
  · obtain ⟨rfl, k1⟩ := baseE_spec h1
    obtain ⟨rfl, k2⟩ := baseE_spec h2
    rcases k1 with ⟨k3, k4⟩ | ⟨i, p, rfl, k3, k4⟩ <;> rcases k2 with ⟨j3, j4⟩ | ⟨j, p', rfl, j3, j4⟩
    · exact hr.inj _ _ _ _ _ _ k4 j4 hrr
    · have := (hr.inj _ _ _ _ _ _ k4 j4 hrr).1
      have h3 := L.lt' k3
      have h4 := hge p' (List.mem_of_getElem? j3)
      omega
    · have := (hr.inj _ _ _ _ _ _ k4 j4 hrr).1
      have h3 := L.lt' j3
      have h4 := hge p (List.mem_of_getElem? k3)
      omega
    · have hpp := hr.inj _ _ _ _ _ _ k4 j4 hrr
      have hij : i = j := by
        refine Classical.byContradiction fun hne => ?_
        obtain ⟨hi, hi2⟩ := List.getElem?_eq_some_iff.1 k3
        obtain ⟨hj, hj2⟩ := List.getElem?_eq_some_iff.1 j3
        rcases Nat.lt_or_gt_of_ne hne with hl | hl
        · have := List.pairwise_iff_getElem.1 hpw i j hi hj hl
          rw [hi2, hj2] at this
          exact this hpp.1
        · have := List.pairwise_iff_getElem.1 hpw j i hj hi hl
          rw [hi2, hj2] at this
          exact this hpp.1.symm
      exact ⟨by rw [hij], hpp.2⟩
  · rw [a1]
    obtain ⟨rfl, k1⟩ := baseE_spec h1
    rcases k1 with ⟨k3, k4⟩ | ⟨i, p, rfl, k3, k4⟩
    · have := L.lt' k3
      exact ⟨(hr.lt _ _ _ k4).1, by omega⟩
    · have := (List.getElem?_eq_some_iff.1 k3).1
      exact ⟨(hr.lt _ _ _ k4).1, by omega⟩
  · obtain ⟨rfl, k1⟩ := baseE_spec h1
    rcases k1 with ⟨k3, k4⟩ | ⟨i, p, rfl, k3, k4⟩
    · obtain ⟨l, hl⟩ := hmem b k3
      have hcl := List.all_eq_true.1 L.lt _ hl
      rw [Bool.and_eq_true] at hcl
      obtain ⟨blk, h2, h3⟩ := hr.at' b 0 x k4
      rw [globOK_get hgo hl] at h2; cases h2
      exact ⟨_, by rw [a3 b (L.lt' k3)]; exact globOK_get L.ok hl, h3.closedT hcl.2⟩
    · have hi := (List.getElem?_eq_some_iff.1 k3).1
      have hq : q.bas[i]? = some (q.bas[i]'(by omega)) := List.getElem?_eq_getElem _
      generalize q.bas[i]'(by omega) = bq at hq
      obtain ⟨blk, h2, h3⟩ := hr.at' p.1 p.2 x k4
      exact ⟨_, a4 i bq hq, BR.ofBlk hk (hblk i p bq k3 hq) h2 h3⟩

/-- What was done from the package-level variables and the arguments alone is so here: other names. -/
theorem kn_ext (L : Laid C gl n) (hr : HR e h w) (hbm : blksOK (renU mu h.n) h n mu q.bas = true) {keep : List (Nat × Nat)} {v1 : AV} {h1 : Hp} (hv : v1 = q.v.ren (renK (argMu n q.bas.length) keep h1.n)) (hb : blksOK (renK (argMu n q.bas.length) keep h1.n) h1 (n + q.bas.length) keep q.bs = true)
    {v' : Value} {e1 : Emb} {w' : World} (hvr : VR e1 v1 v') (hext : Ext (baseE gl n mu e) (argHp gl n q.bas) w e1 h1 w') :
    ∃ e', VR e' (q.v.ren (renU mu h.n)) v' ∧ Ext e h w e' (addAll (renU mu h.n) q.bs h).out w' := by
  obtain ⟨hmlen, hmge, _, _⟩ := blksOK_spec hbm
  obtain ⟨hlen, hge, hpw, hblk⟩ := blksOK_spec hb
  obtain ⟨a1, a2, a3, a4⟩ := addAll_spec (renU mu h.n) q.bs h
  obtain ⟨b1, b2, b3, b4⟩ := argHp_spec gl n q.bas
  generalize (addAll (renU mu h.n) q.bs h).out = h' at a1 a2 a3 a4
  let e' : Emb := fun b g => if b < h.n then e b g else match keep[b - h.n]? with
    | some p => if g = 0 then e1 p.1 p.2 else none
    | none => none
  have hold : ∀ b g, b < h.n → e' b g = e b g := fun b g hb => by show (if b < h.n then e b g else _) = _; rw [if_pos hb]
  have hnew : ∀ (i : Nat) (p : Nat × Nat), keep[i]? = some p → e' (h.n + i) 0 = e1 p.1 p.2 := fun i p hp => by
    show (if h.n + i < h.n then e (h.n + i) 0 else match keep[h.n + i - h.n]? with
      | some p => if (0 : Nat) = 0 then e1 p.1 p.2 else none
      | none => none) = _
    rw [if_neg (by omega), Nat.add_sub_cancel_left, hp]
    simp
  have hle : e.le e' := fun b g x hx => by rw [hold b g (hr.lt b g x hx).2]; exact hx
  have hcase : ∀ b g x, e' b g = some x → (b < h.n ∧ e b g = some x) ∨ ∃ i p, b = h.n + i ∧ g = 0 ∧ keep[i]? = some p ∧ e1 p.1 p.2 = some x := fun b g x hx => by
    by_cases hbn : b < h.n
    · rw [hold b g hbn] at hx; exact .inl ⟨hbn, hx⟩
    · right
      have hx : (if b < h.n then e b g else match keep[b - h.n]? with
        | some p => if g = 0 then e1 p.1 p.2 else none
        | none => none) = some x := hx
      rw [if_neg hbn] at hx
      cases hk : keep[b - h.n]? with
      | none => rw [hk] at hx; cases hx
      | some p =>
        rw [hk] at hx
        simp only at hx
        by_cases hg : g = 0
        · rw [if_pos hg] at hx
          exact ⟨b - h.n, p, by omega, hg, hk, hx⟩
        · rw [if_neg hg] at hx; cases hx
  have hk : ∀ i x, e1 (renK (argMu n q.bas.length) keep h1.n i).1 (renK (argMu n q.bas.length) keep h1.n i).2 = some x → e' (renU mu h.n i).1 (renU mu h.n i).2 = some x := fun i x hx => by
    cases hi : mu[i]? with
    | some p =>
      have hil : i < q.bas.length := by have := (List.getElem?_eq_some_iff.1 hi).1; omega
      rw [renK_lt (show (argMu n q.bas.length)[i]? = some (n + i, 0) by rw [argMu_get, if_pos hil])] at hx
      have hx : e1 (n + i) 0 = some x := hx
      rw [renU_lt hi]
      rcases hext.names _ _ _ hx with ⟨g0, x0, h0⟩ | h0
      · obtain ⟨rfl, _⟩ := baseE_spec h0
        have h2 := hext.le _ _ _ h0
        rw [hx] at h2; cases h2
        rw [baseE_arg L hi] at h0
        exact hle _ _ _ h0
      · rw [b1] at h0; omega
    | none =>
      have hil : ¬ i < q.bas.length := by
        intro hh
        rw [List.getElem?_eq_none_iff] at hi
        omega
      rw [renK_ge (show (argMu n q.bas.length)[i]? = none by rw [argMu_get, if_neg hil]), argMu_length] at hx
      rw [renU_ge hi]
      cases hki : keep[i - q.bas.length]? with
      | none =>
        rw [hki] at hx
        have := (hext.hr.lt _ _ _ hx).2
        exact absurd this (Nat.lt_irrefl _)
      | some p =>
        rw [hki] at hx
        show e' (h.n + (i - mu.length)) 0 = some x
        rw [hmlen, hnew _ p hki]; exact hx
  have hro : ∀ r, r < w.heap.size → w'.heap[r]? = w.heap[r]? := fun r hlt => hext.frame r hlt fun b g x hx _ => by
    obtain ⟨rfl, k0⟩ := baseE_spec hx
    rcases k0 with ⟨k3, _⟩ | ⟨i, p, rfl, k3, _⟩
    · obtain ⟨y, hy, rfl⟩ := List.mem_map.1 k3
      have := L.lt' k3
      exact ⟨by rw [b1]; omega, .inl ⟨y.2, by rw [b3 _ (L.lt' k3)]; exact globOK_get L.ok hy⟩⟩
    · have := (List.getElem?_eq_some_iff.1 k3).1
      refine ⟨by rw [b1]; omega, .inr ?_⟩
      unfold Hp.okw
      rw [b2]
      have h1 : Nat.ble (n + q.bas.length) (n + i) = false := by
        cases hh : Nat.ble (n + q.bas.length) (n + i) with
        | false => rfl
        | true => have := Nat.le_of_ble_eq_true hh; omega
      show ifb (Nat.ble (n + q.bas.length) (n + i)) true (memN (n + i) []) = false
      rw [h1]; rfl
  have hfresh : ∀ (i : Nat) (p : Nat × Nat) (x : Loc), keep[i]? = some p → e1 p.1 p.2 = some x → w.heap.size ≤ x.r := fun i p x hp hx => by
    rcases hext.blocks _ _ _ hx with ⟨g0, x0, h0, _⟩ | h0
    · obtain ⟨_, k0⟩ := baseE_spec h0
      have h3 := hge p (List.mem_of_getElem? hp)
      rcases k0 with ⟨k3, _⟩ | ⟨j, p', k3, k4, _⟩
      · have := L.lt' k3; omega
      · have := (List.getElem?_eq_some_iff.1 k4).1; omega
    · exact h0
  refine ⟨e', by subst hv; exact VR.ren hk q.v hvr, hle, ⟨?_, ?_, ?_⟩, ?_, ?_, fun r hlt _ => hro r hlt, fun b hb _ => a3 b hb, fun b hb => a3 b hb.1, by omega, hext.size, hext.os, hext.output, a2⟩
  · intro b g x b' g' x' hx hx' hrr
    rcases hcase _ _ _ hx with ⟨k1, k2⟩ | ⟨i, p, k1, k2, k3, k4⟩ <;> rcases hcase _ _ _ hx' with ⟨j1, j2⟩ | ⟨j, p', j1, j2, j3, j4⟩
    · exact hr.inj _ _ _ _ _ _ k2 j2 hrr
    · have := hfresh j p' x' j3 j4
      have := (hr.lt _ _ _ k2).1
      omega
    · have := hfresh i p x k3 k4
      have := (hr.lt _ _ _ j2).1
      omega
    · have hpp := hext.hr.inj _ _ _ _ _ _ k4 j4 hrr
      have hij : i = j := by
        refine Classical.byContradiction fun hne => ?_
        obtain ⟨hi, hi2⟩ := List.getElem?_eq_some_iff.1 k3
        obtain ⟨hj, hj2⟩ := List.getElem?_eq_some_iff.1 j3
        rcases Nat.lt_or_gt_of_ne hne with hl | hl
        · have := List.pairwise_iff_getElem.1 hpw i j hi hj hl
          rw [hi2, hj2] at this
          exact this hpp.1
        · have := List.pairwise_iff_getElem.1 hpw j i hj hi hl
          rw [hi2, hj2] at this
          exact this hpp.1.symm
      exact ⟨by rw [k1, j1, hij], hpp.2⟩
  · intro b g x hx
    rcases hcase _ _ _ hx with ⟨k1, k2⟩ | ⟨i, p, k1, k2, k3, k4⟩
    · have := hr.lt _ _ _ k2
      exact ⟨Nat.lt_of_lt_of_le this.1 hext.size, by omega⟩
    · have := (List.getElem?_eq_some_iff.1 k3).1
      exact ⟨(hext.hr.lt _ _ _ k4).1, by omega⟩
  · intro b g x hx
    rcases hcase _ _ _ hx with ⟨k1, k2⟩ | ⟨i, p, rfl, rfl, k3, k4⟩
    · obtain ⟨blk, j1, j2⟩ := hr.at' _ _ _ k2
      refine ⟨blk, by rw [a3 b k1]; exact j1, ?_⟩
      rw [hro _ (hr.lt _ _ _ k2).1]
      exact j2.mono hle
    · have hi := (List.getElem?_eq_some_iff.1 k3).1
      have hq : q.bs[i]? = some (q.bs[i]'(by omega)) := List.getElem?_eq_getElem _
      generalize q.bs[i]'(by omega) = bq at hq
      obtain ⟨blk2, m1, m2⟩ := hext.hr.at' _ _ _ k4
      exact ⟨_, a4 i bq hq, BR.ofBlk hk (hblk i p bq k3 hq) m1 m2⟩
  · intro b g x hx
    rcases hcase _ _ _ hx with ⟨k1, k2⟩ | ⟨i, p, k1, _⟩
    · exact .inl ⟨g, x, k2⟩
    · exact .inr (by omega)
  · intro b g x hx
    rcases hcase _ _ _ hx with ⟨k1, k2⟩ | ⟨i, p, k1, k2, k3, k4⟩
    · exact .inl ⟨g, x, k2, rfl⟩
    · exact .inr (hfresh i p x k3 k4)
end

/-- A known call. -/
theorem kn_sim {gl : List (Nat × List AV)} {n : Nat} (L : Laid C gl n) {c : CallT} (hc : CallOK C c) {keep : List (Nat × Nat)} {q : Kn} (hok : q.ok c gl n keep = true) {args : List AV} {h h' : Hp} {v : AV} (hu : q.use gl n args h = some (v, h')) : CallOne C q.g args h v h' := by
  unfold Kn.use at hu
  simp only at hu
  generalize muOfK q args h = mu at hu
  cases hg : and (avEqL args (renL (renU mu h.n) q.args)) (and (globOK gl h) (blksOK (renU mu h.n) h n mu q.bas)) with
  | false => rw [hg] at hu; cases hu
  | true =>
  rw [hg, ifb_true, natF_eq, force_eq, Bx.eta (addAll _ q.bs h), Bx.bd_mk] at hu
  cases hu
  simp only [Bool.and_eq_true] at hg
  obtain ⟨hargs, hgo, hbm⟩ := hg
  have hargs := avEqL_eq hargs
  unfold Kn.ok at hok
  rw [lenA_eq] at hok
  cases hrun : c q.g (renL (renU (argMu n q.bas.length) 0) q.args) (argHp gl n q.bas) with
  | no w => rw [hrun] at hok; cases hok
  | ok v1 h1 =>
    rw [hrun] at hok
    have hok : and (avEq v1 (q.v.ren (renK (argMu n q.bas.length) keep h1.n))) (blksOK (renK (argMu n q.bas.length) keep h1.n) h1 (n + q.bas.length) keep q.bs) = true := hok
    rw [Bool.and_eq_true] at hok
    have hv1 := avEq_eq hok.1
    rcases hc _ _ _ _ _ hrun with ⟨hfn, hcall⟩ | hval
    · refine .inl ⟨hfn, fun e w args' hg hv hr => ?_⟩
      obtain ⟨k1, k2, k3⟩ := base_sim L hg hr hgo hbm
      rw [hargs] at hv
      refine Calls.mono (hcall (baseE gl n mu e) w args' k1 (VRL.ren k3 q.args hv) k2) fun en w' he => ?_
      obtain ⟨v', e1, rfl, hvr, hext⟩ := he
      obtain ⟨e', m1, m2⟩ := kn_ext L hr hbm hv1 hok.2 hvr hext
      exact ⟨v', e', rfl, m1, m2⟩
    · refine .inr fun e w args' hg hv hr => ?_
      obtain ⟨k1, k2, k3⟩ := base_sim L hg hr hgo hbm
      rw [hargs] at hv
      obtain ⟨v', w', e1, h3, hvr, hext⟩ := hval (baseE gl n mu e) w args' k1 (VRL.ren k3 q.args hv) k2
      obtain ⟨e', m1, m2⟩ := kn_ext L hr hbm hv1 hok.2 hvr hext
      exact ⟨v', w', e', h3, m1, m2⟩

/-- Known calls, one behind the other. -/
theorem knOf_sim {gl : List (Nat × List AV)} {n : Nat} : ∀ {l : List Kn}, (∀ q ∈ l, ∀ args h v h', q.use gl n args h = some (v, h') → CallOne C q.g args h v h') → ∀ {g : Nat} {args : List AV} {h h' : Hp} {v : AV}, knOf gl n g args h l = some (v, h') → CallOne C g args h v h'
  | [], _, _, _, _, _, _, hx => by cases hx
  | q :: l, hl, g, args, h, h', v, hx => by
    have hrest := fun hx => knOf_sim (n := n) (fun q' hq' => hl q' (.tail _ hq')) (g := g) (args := args) (h := h) (h' := h') (v := v) hx
    have hx : ifb (Nat.beq g q.g) (match q.use gl n args h with
      | some r => some r
      | none => knOf gl n g args h l) (knOf gl n g args h l) = some (v, h') := hx
    cases hb : Nat.beq g q.g with
    | false => rw [hb] at hx; exact hrest hx
    | true =>
      rw [hb, ifb_true] at hx
      cases hu : q.use gl n args h with
      | none => rw [hu] at hx; exact hrest hx
      | some r =>
        rw [hu] at hx
        cases hx
        rw [beq_iff.1 hb]
        exact hl q (.head _) args h v h' hu
end Go.Ab

/- What a law's row gives, and what it wants, of calls on named blocks. -/
namespace Go.Ab
open Go
variable {C : Cx}

/-! ### The library's search for a byte -/
theorem idxByte_eq (l : List UInt8) (c : UInt8) : ∀ (n i : Nat), i + n = l.length → idxByte (packB l) c.toNat n i = (if Lib.indexByte (l.drop i) c == -1 then -1 else Lib.indexByte (l.drop i) c + i)
  | 0, i, h => by
    rw [List.drop_of_length_le (by omega)]; rfl
  | n + 1, i, h => by
    have hi : i < l.length := by omega
    have h1 : idxByte (packB l) c.toNat (n + 1) i = ifb (Nat.beq (byteAt (packB l) i) c.toNat) (.ofNat i) (idxByte (packB l) c.toNat n (i + 1)) := rfl
    rw [h1, byteAt_eq l i l[i] (List.getElem?_eq_getElem hi), idxByte_eq l c n (i + 1) (by omega), List.drop_eq_getElem_cons hi]
    have hge := Lib.indexByte_ge (l.drop (i + 1)) c
    rw [show Lib.indexByte (l[i] :: l.drop (i + 1)) c = (if l[i] == c then 0 else if Lib.indexByte (l.drop (i + 1)) c == -1 then -1 else Lib.indexByte (l.drop (i + 1)) c + 1) from rfl]
    generalize Lib.indexByte (l.drop (i + 1)) c = r at hge
    by_cases hb : l[i] = c
    · have h2 : Nat.beq l[i].toNat c.toNat = true := by rw [hb]; exact beq_iff.2 rfl
      rw [h2, ifb_true]
      simp [hb]
    · have h2 : Nat.beq l[i].toNat c.toNat = false := by
        cases hh : Nat.beq l[i].toNat c.toNat with
        | false => rfl
        | true => exact absurd (UInt8.toNat_inj.1 (beq_iff.1 hh)) hb
      have h3 : (l[i] == c) = false := by simpa using hb
      rw [h2, ifb_false, h3]
      by_cases hm : r = -1
      · subst hm; rfl
      · have h4 : (r == -1) = false := by simpa using hm
        have h5 : (r + 1 == -1) = false := by rw [beq_eq_false_iff_ne]; omega
        simp only [h4, h5, Bool.false_eq_true, if_false]
        omega

theorem spIndexByte_ok {g : Nat} {fn : Func} (hf : C.P.funcs[g]? = some fn) (hname : (fn.name == "runtime.NumGoroutine") = false) (hb : fn.body.isNone = true) (hn : Extern.findNext fn = Option.none) (he : Extern.find fn = some Extern.BytealgIndexByte.indexByte)
    {args : List AV} {v : AV} (hx : spIndexByte args = some v) (h : Hp) : CallOne C g args h v h := by
  refine .inr fun e w args' hg hv hr => ?_
  unfold spIndexByte at hx
  split at hx
  · rename_i n a c
    cases hc : Nat.ble c 255 with
    | false => rw [hc] at hx; cases hx
    | true =>
      rw [hc, ifb_true] at hx
      have hc := Nat.le_of_ble_eq_true hc
      generalize hu : AV.str n a = u at hv
      cases hv with
      | cons _ v1 _ l1 hv1 hv2 =>
        cases hv2 with
        | cons _ v2 _ l2 hv2 hv3 =>
          cases hv3
          cases hv2
          cases hv1 <;> first | (cases hu; done) | skip
          case str s =>
            cases hu
            have hcu : c = c.toUInt8.toNat := by
              simp
              omega
            have hi : idxByte (packB s.data.toList) c s.size 0 = Lib.indexByte s.data.toList c.toUInt8 := by
              have := idxByte_eq s.data.toList c.toUInt8 s.size 0 (by rw [Nat.zero_add]; rfl)
              rw [← hcu] at this
              rw [this, List.drop_zero]
              split
              · rename_i hm; simpa using (beq_iff_eq.1 hm).symm
              · simp
            refine ⟨.int .i64 (Lib.indexByte s.data.toList c.toUInt8), w, e, ?_, ?_, .refl hr⟩
            · have h1 := run_callFunc_extern (P := C.P) hf hname hb hn he #[.string s, .int .u8 (c : Int)] w
              rw [Lib.run_indexByteString] at h1
              exact h1
            · have hx : intF (idxByte (packB s.data.toList) c s.size 0) (fun i => some (AV.int .i64 i)) = some v := hx
              rw [hi] at hx
              have hx2 : some (AV.int .i64 (Lib.indexByte s.data.toList c.toUInt8)) = some v := by
                rw [← hx]
                cases Lib.indexByte s.data.toList c.toUInt8 with
                | ofNat m => cases m <;> rfl
                | negSucc m => cases m <;> rfl
              cases hx2
              exact .int _ _
  · cases hx

/-! ### The package-level variables -/
def initE (gl : List (Nat × List AV)) : Emb := fun b g => if g = 0 then (match gl.find? fun q => q.1 == b with
  | some q => some ⟨b, 0, 0, q.2.length⟩
  | Option.none => Option.none) else Option.none
theorem initE_spec {gl : List (Nat × List AV)} {b g : Nat} {x : Loc} (h : initE gl b g = some x) : g = 0 ∧ ∃ q ∈ gl, q.1 = b ∧ x = ⟨b, 0, 0, q.2.length⟩ := by
  unfold initE at h
  by_cases hg : g = 0
  · rw [if_pos hg] at h
    cases hf : gl.find? fun q => q.1 == b with
    | none => rw [hf] at h; cases h
    | some q =>
      rw [hf] at h
      cases h
      have := List.find?_some hf
      exact ⟨hg, q, List.mem_of_find?_eq_some hf, by simpa using this, rfl⟩
  · rw [if_neg hg] at h; cases h

/-- The variables hold what is laid. -/
def Holds (gl : List (Nat × List AV)) (w : World) : Prop := ∀ q ∈ gl, (∀ v ∈ q.2, v.isCell = true) ∧ ∃ c t, w.heap[q.1]? = some (.cells c t (0, 0)) ∧ VRL (fun _ _ => Option.none) q.2 c.toList

theorem init_sim {gl : List (Nat × List AV)} {n : Nat} (L : Laid C gl n) {w : World} (hw : Holds gl w) : HR (initE gl) (globHp gl n) w ∧ GR C (initE gl) := by
  have hget : ∀ q ∈ gl, (globHp gl n).get q.1 = some (.flat q.2 3) := by
    intro q hq
    have h1 := List.all_eq_true.1 (show gl.all _ = true from L.ok) q hq
    split at h1
    · rename_i l z hh
      rw [Bool.and_eq_true] at h1
      have hz := beq_iff.1 h1.1
      subst hz
      rw [hh, avEqL_eq h1.2]
    · cases h1
  refine ⟨⟨fun b g x b' g' x' h1 h2 hr => ?_, fun b g x h1 => ?_, fun b g x h1 => ?_⟩, fun g hg => ?_⟩
  · obtain ⟨_, q, _, rfl, rfl⟩ := initE_spec h1
    obtain ⟨_, q', _, rfl, rfl⟩ := initE_spec h2
    exact ⟨hr, rfl⟩
  · obtain ⟨_, q, hq, rfl, rfl⟩ := initE_spec h1
    obtain ⟨_, c, t, hc, _⟩ := hw q hq
    obtain ⟨hlt, _⟩ := Array.getElem?_eq_some_iff.1 hc
    exact ⟨hlt, by rw [globHp_n]; exact L.lt' (List.mem_map_of_mem hq)⟩
  · obtain ⟨rfl, q, hq, rfl, rfl⟩ := initE_spec h1
    obtain ⟨hcell, c, t, hc, hv⟩ := hw q hq
    refine ⟨_, hget q hq, ?_⟩
    show BR (initE gl) (.flat q.2 3) 0 ⟨q.1, 0, 0, q.2.length⟩ w.heap[q.1]?
    rw [hc]
    have hlen := hv.length
    have hsz : c.size = q.2.length := by rw [← hlen]; simp
    refine .cells c t (0, 0) ⟨trivial, Nat.le_refl _, hsz, Nat.le_refl _, ?_, fun i v hi hr => ?_, fun _ i _ hh => by simp at hh, fun _ i hh => by simp at hh⟩
    · show (Blk.flat q.2 3).known 0 ≤ 0 + c.size
      rw [hsz, Nat.zero_add]
      show lenA q.2 ≤ q.2.length
      rw [lenA_eq]; exact Nat.le_refl _
    · have hr : ifb (Nat.beq 0 0) (nthA q.2 i) Option.none = some v := hr
      rw [show Nat.beq 0 0 = true from rfl, ifb_true, nthA_eq] at hr
      obtain ⟨v', k1, k2⟩ := hv.get hr
      exact ⟨hcell v (List.mem_of_getElem? hr), v', by rw [Nat.sub_zero]; simpa using k1, k2.mono fun _ _ _ hh => by cases hh⟩
  · rw [L.gs] at hg
    obtain ⟨j, hj, hj2⟩ := List.any_eq_true.1 hg
    have : g = j := beq_iff.1 hj2
    subst this
    obtain ⟨q, hq, hqg⟩ := List.mem_map.1 hj
    cases hf : gl.find? (fun q => q.1 == g) with
    | none =>
      have := List.find?_eq_none.1 hf q hq
      simp [hqg] at this
    | some q2 =>
      refine ⟨⟨g, 0, 0, q2.2.length⟩, ?_, rfl, rfl, rfl⟩
      unfold initE
      rw [if_pos rfl, hf]

/-- A variable that is an array of numbers, of the row's list. -/
theorem holds_tab {P : Program} {w : World} {laid : List (String × DataW Unit)} (h : laidMet P laid w) {name : String} {k : IntKind} {zs : List Int} (hm : (name, Lib.tabData k zs) ∈ laid) {g t e : Nat} {n : Nat}
    (hg : P.globalNamed name = some g) (hy : (P.globals[g]?).map (·.type) = some t) (ht : P.underlying t = some (.array n e)) (he : P.underlying e = some (.int k)) (hce : P.cellsOf e = 1) (hct : P.cellsOf t = n) (hn : 0 < zs.length) :
    ∃ c ty, w.heap[g]? = some (.cells c ty (0, 0)) ∧ c.toList = zs.map fun z => Value.int k z := by
  obtain ⟨ps, hv, _, hz⟩ := h
  have hall : ∀ {l : List (String × DataW Unit)} {ps : List MemPlace}, DataW.LaidVars P w l ps → (name, Lib.tabData k zs) ∈ l → ∃ cs : Array Value, w.var? P name = some cs ∧ cs.toList = (zs.map fun z => Value.int k z) ∧ ∀ p ∈ MemPlace.row ⟨g, 0, Option.none⟩ cs.size, p ∈ ps := by
    intro l
    induction l with
    | nil => intro ps _ hm; cases hm
    | cons y r ih =>
      intro ps h hm
      obtain ⟨n', d'⟩ := y
      obtain ⟨g', t', cs, fuel, p, q, h1, h2, h3, h4, h5, h6⟩ := h
      rcases List.mem_cons.1 hm with e1 | e1
      · cases e1
        obtain rfl := Option.some.inj (hg.symm.trans h1)
        obtain rfl := Option.some.inj (hy.symm.trans h2)
        refine ⟨cs, h3, Lib.cells_of_tab ht he hce hct h4, fun p hp => ?_⟩
        rw [h6]
        exact List.mem_append_left _ (List.mem_append_left _ hp)
      · obtain ⟨cs, k1, k2, k3⟩ := ih h5 e1
        exact ⟨cs, k1, k2, fun p hp => by rw [h6]; exact List.mem_append_right _ (k3 p hp)⟩
  obtain ⟨cs, k1, k2, k3⟩ := hall hv hm
  have hs : 0 < cs.size := by
    have := congrArg List.length k2
    simp at this
    omega
  obtain ⟨⟨c, ty, hc⟩, _⟩ := hz g 0 (k3 _ (by unfold MemPlace.row; exact List.mem_map.2 ⟨0, List.mem_range.2 hs, rfl⟩))
  refine ⟨c, ty, hc, ?_⟩
  simp only [World.var?, hg, Option.bind_some, hc, Option.some.injEq] at k1
  rw [k1]; exact k2

/-! ### A law's call -/
theorem law_calls {gl : List (Nat × List AV)} {n : Nat} (L : Laid C gl n) {c : CallT} (hc : CallOK C c) {g : Nat} {fn : Func} {b : Code} (hf : C.P.funcs[g]? = some fn) (hname : (fn.name == "runtime.NumGoroutine") = false) (hb : fn.body = some b)
    {args : List AV} (hx : R2.rec (motive := fun _ => Bool) (fun v _ => avEq v (.bool true)) (fun _ => false) (c g args (globHp gl n)) = true) {w : World} (hw : Holds gl w) {args' : List Value} (hv : VRL (initE gl) args args') :
    Calls C.P g args'.toArray w fun en w' => en = .returned (.bool true) ∧ w.keptBut w' fun _ => False := by
  obtain ⟨hr, hg⟩ := init_sim L hw
  cases hrun : c g args (globHp gl n) with
  | no q => rw [hrun] at hx; cases hx
  | ok v h' =>
    rw [hrun] at hx
    have hv1 := avEq_eq (show avEq v (.bool true) = true from hx)
    subst hv1
    rcases hc _ _ _ _ _ hrun with ⟨_, hcall⟩ | hval
    · refine Calls.mono (hcall _ w args' hg hv hr) fun en w' he => ?_
      obtain ⟨v', e', rfl, hvr, hext⟩ := he
      cases hvr
      refine ⟨rfl, hext.os, hext.output, fun i hi => ?_⟩
      have := hext.frame i hi fun b g x hb hxr => by
        obtain ⟨_, q, hq, rfl, rfl⟩ := initE_spec hb
        have h1 := List.all_eq_true.1 (show gl.all _ = true from L.ok) q hq
        refine ⟨by rw [globHp_n]; exact L.lt' (List.mem_map_of_mem hq), .inl ?_⟩
        split at h1
        · rename_i l z hh
          rw [Bool.and_eq_true] at h1
          have hz := beq_iff.1 h1.1
          subst hz
          exact ⟨l, hh⟩
        · cases h1
      rw [this]
      cases w.heap[i]? with
      | none => rfl
      | some o => cases o <;> first | rfl | exact ⟨rfl, rfl, rfl, fun _ _ => rfl⟩ | exact .inr ⟨rfl, rfl⟩
    · obtain ⟨v', w', e', h1, _⟩ := hval _ w args' hg hv hr
      rw [run_callFunc hf hname hb] at h1
      cases h1

/-- A number below 256, by what is left of it. -/
theorem VR.rest {e : Emb} {a : Int} (m : Nat) (hm : 0 < m) (hm2 : m < 256) (h0 : 0 ≤ a) (h1 : a < 256) : VR e (.nil (10 + 2 * (a.toNat % m + 256 * m))) (.int .u8 a) := by
  obtain ⟨n, rfl⟩ := Int.eq_ofNat_of_zero_le h0
  have hr := Nat.mod_lt n hm
  have e0 : (n : Int).toNat = n := rfl
  rw [e0]
  generalize hq : n % m = r at hr
  have d1 : Nat.div (10 + 2 * (r + 256 * m)) 2 = 5 + (r + 256 * m) := by
    show (10 + 2 * (r + 256 * m)) / 2 = _
    omega
  have d2 : Nat.mod (10 + 2 * (r + 256 * m)) 2 = 0 := by
    show (10 + 2 * (r + 256 * m)) % 2 = _
    omega
  have a1 : modM (10 + 2 * (r + 256 * m)) = m := by
    unfold modM; rw [d1]
    show (5 + (r + 256 * m) - 5) / 256 = m
    omega
  have a2 : modR (10 + 2 * (r + 256 * m)) = r := by
    unfold modR; rw [d1]
    show (5 + (r + 256 * m) - 5) % 256 = r
    omega
  have a3 : modK (10 + 2 * (r + 256 * m)) = .u8 := by unfold modK; rw [d2]; rfl
  have := VR.modv (e := e) (10 + 2 * (r + 256 * m)) n (by omega) (by omega) (by rw [a1]; exact hm) (by rw [a1, a2]; exact hq)
  rw [a3] at this
  exact this
end Go.Ab

