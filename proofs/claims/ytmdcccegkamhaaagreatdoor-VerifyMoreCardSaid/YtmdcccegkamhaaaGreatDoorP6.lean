/- The program's verify, flow and code, followed by hand: part 6. -/
import Derived.Test.YtmdcccegkamhaaaGreatDoorP1
import Derived.Test.YtmdcccegkamhaaaGreatDoorP5
import Derived.OwnWalk
set_option maxHeartbeats 4000000
set_option maxRecDepth 100000
set_option linter.unusedSectionVars false
set_option linter.unusedVariables false
set_option linter.unusedSimpArgs false
namespace Go.Proofs.Vg
open Go.Proofs.Vf (Ins)
structure Lp where (fr tt : Nat) (cur sor : Int) (depth : Nat) (inn : Int)
abbrev top : Nat := 1152921504606846976
def times (a b : Nat) : Nat := if 0 < a ∧ top / a < b then top else a * b
def plus (a b : Nat) : Nat := min (a + b) top
theorem times_eq {a b : Nat} (ha : a ≤ top) : times a b = min (a * b) top := by
 unfold times
 split
 · rename_i h
   have : top < a * b := by
    have := Nat.lt_mul_of_div_lt h.2 h.1
    rw [Nat.mul_comm] at this; exact this
   omega
 · rename_i h
   by_cases h0 : a = 0
   · subst h0; simp
   · have hb : b ≤ top / a := by
      apply Nat.le_of_not_lt; intro h2; exact h ⟨by omega, h2⟩
     have : a * b ≤ top := by
      rw [Nat.mul_comm]; exact (Nat.le_div_iff_mul_le (by omega)).1 hb
     omega
theorem times_le {a b : Nat} (ha : a ≤ top) : times a b ≤ top := by rw [times_eq ha]; omega
theorem plus_le (a b : Nat) : plus a b ≤ top := by unfold plus; omega
theorem times_mono {a b a' b' : Nat} (h : a ≤ a') (h2 : b ≤ b') (ha : a' ≤ top) : times a b ≤ times a' b' := by
 rw [times_eq (Nat.le_trans h ha), times_eq ha]
 have := Nat.mul_le_mul h h2
 omega
theorem plus_mono {a b a' b' : Nat} (h : a ≤ a') (h2 : b ≤ b') : plus a b ≤ plus a' b' := by unfold plus; omega
def inside (at_ : Nat) (x : Lp) : Bool := decide (x.fr < at_ ∧ at_ ≤ x.tt)
def insFrom (at_ : Nat) : Nat → List Lp → List Nat
 | _, [] => []
 | k, x :: l => if inside at_ x then k :: insFrom at_ (k + 1) l else insFrom at_ (k + 1) l
def insF (l : List Lp) (at_ : Nat) : List Nat := insFrom at_ 0 l
def prod (rounds : Nat → Nat) : Nat → List Nat → Nat
 | n, [] => n
 | n, k :: ks => prod rounds (times n (rounds k)) ks
def doneF (l : List Lp) (rounds : Nat → Nat) (at_ : Nat) : Nat := prod rounds 1 (insF l at_)
structure St where
 n : Nat
 rows : Nat
 sorted : Int → Nat
 rounds : Nat → Nat
 next : Nat
def upd {α : Type} [DecidableEq α] (f : α → Nat) (k : α) (v : Nat) : α → Nat := fun j => if j = k then v else f j
def putAll (r : Nat) : Nat → List Ins → Nat
 | rows, [] => rows
 | rows, i :: l => putAll r (if i.o = 29 then plus rows r else rows) l
def beginF (code : List Ins) (x : Lp) (k : Nat) (s : St) : St :=
 if x.sor < 0 then { s with rounds := upd s.rounds k s.rows }
 else { s with rounds := upd s.rounds k (s.sorted x.sor), rows := putAll (s.sorted x.sor) s.rows ((code.drop x.fr).take (x.tt - x.fr)) }
def stepF (code : List Ins) (l : List Lp) (at_ : Nat) (i : Ins) (s : St) : St :=
 let k := doneF l s.rounds at_
 let s1 : St := { s with n := plus s.n k }
 let s2 : St := if i.o = 20 then { s1 with sorted := upd s1.sorted i.a (plus (s1.sorted i.a) k) } else if i.o = 29 ∧ insF l at_ = [] then { s1 with rows := plus s1.rows 1 } else s1
 match l[s2.next]? with
 | some x => if x.fr = at_ then { beginF code x s2.next s2 with next := s2.next + 1 } else s2
 | none => s2
def runF (code : List Ins) (l : List Lp) : Nat → List Ins → St → St
 | _, [], s => s
 | at_, i :: r, s => runF code l (at_ + 1) r (stepF code l at_ i s)
def st0 (rows : Nat) : St := ⟨0, min rows top, fun _ => 0, fun _ => 0, 0⟩
def boundF (code : List Ins) (l : List Lp) (rows : Nat) : Nat := (runF code l 0 code (st0 rows)).n
def straightFrom (l : List Lp) : Nat → List Ins → Nat
 | _, [] => 0
 | at_, _ :: r => (if insF l at_ = [] then 1 else 0) + straightFrom l (at_ + 1) r
structure Le (s s' : St) : Prop where
 n : s.n ≤ s'.n
 rows : s.rows ≤ s'.rows
 sorted : ∀ k, s.sorted k ≤ s'.sorted k
 rounds : ∀ k, s.rounds k ≤ s'.rounds k
 next : s.next = s'.next
structure Sm (s : St) : Prop where
 n : s.n ≤ top
 rows : s.rows ≤ top
 sorted : ∀ k, s.sorted k ≤ top
 rounds : ∀ k, s.rounds k ≤ top
theorem prod_le (rounds : Nat → Nat) : ∀ (ks : List Nat) (n : Nat), n ≤ top → prod rounds n ks ≤ top
 | [], _, h => h
 | _ :: ks, _, h => prod_le rounds ks _ (times_le h)
theorem prod_mono {r r' : Nat → Nat} (h : ∀ k, r k ≤ r' k) : ∀ (ks : List Nat) (n n' : Nat), n ≤ n' → n' ≤ top → prod r n ks ≤ prod r' n' ks
 | [], _, _, hn, _ => hn
 | k :: ks, _, _, hn, ht => prod_mono h ks _ _ (times_mono hn (h k) ht) (times_le ht)
theorem upd_mono {α : Type} [DecidableEq α] {f g : α → Nat} (h : ∀ k, f k ≤ g k) {k : α} {v v' : Nat} (hv : v ≤ v') (j : α) : upd f k v j ≤ upd g k v' j := by
 unfold upd; split
 · exact hv
 · exact h j
theorem upd_le {α : Type} [DecidableEq α] {f : α → Nat} {m : Nat} (h : ∀ k, f k ≤ m) {k : α} {v : Nat} (hv : v ≤ m) (j : α) : upd f k v j ≤ m := by
 unfold upd; split
 · exact hv
 · exact h j
theorem putAll_mono {r r' : Nat} (hr : r ≤ r') : ∀ (l : List Ins) (m m' : Nat), m ≤ m' → putAll r m l ≤ putAll r' m' l
 | [], _, _, h => h
 | i :: l, m, m', h => by
   unfold putAll
   refine putAll_mono hr l _ _ ?_
   split
   · exact plus_mono h hr
   · exact h
theorem putAll_le {r : Nat} : ∀ (l : List Ins) (m : Nat), m ≤ top → putAll r m l ≤ top
 | [], _, h => h
 | i :: l, m, h => by
   unfold putAll
   refine putAll_le l _ ?_
   split
   · exact plus_le _ _
   · exact h
theorem done_mono {l : List Lp} {r r' : Nat → Nat} (h : ∀ k, r k ≤ r' k) (at_ : Nat) : doneF l r at_ ≤ doneF l r' at_ := prod_mono h _ _ _ (Nat.le_refl _) (by decide)
theorem done_le (l : List Lp) (r : Nat → Nat) (at_ : Nat) : doneF l r at_ ≤ top := prod_le _ _ _ (by decide)
theorem step_small {code : List Ins} {l : List Lp} {at_ : Nat} {i : Ins} {s : St} (h : Sm s) : Sm (stepF code l at_ i s) := by
 have hb : ∀ (x : Lp) (k : Nat) (t : St), Sm t → Sm (beginF code x k t) := by
  intro x k t ht
  unfold beginF
  split
  · exact ⟨ht.n, ht.rows, ht.sorted, upd_le ht.rounds ht.rows⟩
  · exact ⟨ht.n, putAll_le _ _ ht.rows, ht.sorted, upd_le ht.rounds (ht.sorted _)⟩
 have h2 : ∀ t : St, Sm t → Sm (match l[t.next]? with
  | some x => if x.fr = at_ then { beginF code x t.next t with next := t.next + 1 } else t
  | none => t) := by
  intro t ht
  split
  · rename_i x _
    split
    · have := hb x t.next t ht; exact ⟨this.n, this.rows, this.sorted, this.rounds⟩
    · exact ht
  · exact ht
 unfold stepF
 refine h2 _ ?_
 split
 · exact ⟨plus_le _ _, h.rows, upd_le h.sorted (plus_le _ _), h.rounds⟩
 · split
   · exact ⟨plus_le _ _, plus_le _ _, h.sorted, h.rounds⟩
   · exact ⟨plus_le _ _, h.rows, h.sorted, h.rounds⟩
theorem step_mono {code : List Ins} {l : List Lp} {at_ : Nat} {i : Ins} {s s' : St} (h : Le s s') : Le (stepF code l at_ i s) (stepF code l at_ i s') := by
 have hb : ∀ (x : Lp) (k : Nat) (t t' : St), Le t t' → Le (beginF code x k t) (beginF code x k t') := by
  intro x k t t' ht
  unfold beginF
  split
  · exact ⟨ht.n, ht.rows, ht.sorted, upd_mono ht.rounds ht.rows, ht.next⟩
  · exact ⟨ht.n, putAll_mono (ht.sorted _) _ _ _ ht.rows, ht.sorted, upd_mono ht.rounds (ht.sorted _), ht.next⟩
 have h2 : ∀ t t' : St, Le t t' → Le (match l[t.next]? with
  | some x => if x.fr = at_ then { beginF code x t.next t with next := t.next + 1 } else t
  | none => t) (match l[t'.next]? with
  | some x => if x.fr = at_ then { beginF code x t'.next t' with next := t'.next + 1 } else t'
  | none => t') := by
  intro t t' ht
  rw [← ht.next]
  split
  · rename_i x _
    split
    · have := hb x t.next t t' ht; exact ⟨this.n, this.rows, this.sorted, this.rounds, rfl⟩
    · exact ht
  · exact ht
 have hd := done_mono (l := l) h.rounds at_
 unfold stepF
 refine h2 _ _ ?_
 split
 · exact ⟨plus_mono h.n hd, h.rows, upd_mono h.sorted (plus_mono (h.sorted _) hd), h.rounds, h.next⟩
 · split
   · exact ⟨plus_mono h.n hd, plus_mono h.rows (Nat.le_refl _), h.sorted, h.rounds, h.next⟩
   · exact ⟨plus_mono h.n hd, h.rows, h.sorted, h.rounds, h.next⟩
theorem run_mono {code : List Ins} {l : List Lp} : ∀ (r : List Ins) (at_ : Nat) (s s' : St), Le s s' → Le (runF code l at_ r s) (runF code l at_ r s')
 | [], _, _, _, h => h
 | _ :: r, at_, _, _, h => run_mono r (at_ + 1) _ _ (step_mono h)
theorem bound_mono {code : List Ins} {l : List Lp} {m m' : Nat} (h : m ≤ m') : boundF code l m ≤ boundF code l m' :=
 (run_mono (code := code) (l := l) code 0 (st0 m) (st0 m') ⟨Nat.le_refl _, show min m top ≤ min m' top by omega, fun _ => Nat.le_refl _, fun _ => Nat.le_refl _, rfl⟩).n
theorem run_small {code : List Ins} {l : List Lp} : ∀ (r : List Ins) (at_ : Nat) (s : St), Sm s → Sm (runF code l at_ r s)
 | [], _, _, h => h
 | _ :: r, at_, _, h => run_small r (at_ + 1) _ (step_small h)
theorem st0_small (m : Nat) : Sm (st0 m) := ⟨Nat.zero_le _, Nat.min_le_right _ _, fun _ => Nat.zero_le _, fun _ => Nat.zero_le _⟩
theorem bound_le (code : List Ins) (l : List Lp) (m : Nat) : boundF code l m ≤ top := (run_small code 0 _ (st0_small m)).n
theorem step_n {code : List Ins} {l : List Lp} {at_ : Nat} {i : Ins} {s : St} : (stepF code l at_ i s).n = plus s.n (doneF l s.rounds at_) := by
 have hb : ∀ (x : Lp) (k : Nat) (t : St), (beginF code x k t).n = t.n := by
  intro x k t; unfold beginF; split <;> rfl
 have h2 : ∀ t : St, (match l[t.next]? with
  | some x => if x.fr = at_ then { beginF code x t.next t with next := t.next + 1 } else t
  | none => t).n = t.n := by
  intro t
  split
  · split
    · exact hb _ _ _
    · rfl
  · rfl
 unfold stepF
 rw [h2]
 split
 · rfl
 · split <;> rfl
theorem done_straight {l : List Lp} {r : Nat → Nat} {at_ : Nat} (h : insF l at_ = []) : doneF l r at_ = 1 := by unfold doneF; rw [h]; rfl
theorem run_straight {code : List Ins} {l : List Lp} : ∀ (r : List Ins) (at_ : Nat) (s : St), min (s.n + straightFrom l at_ r) top ≤ (runF code l at_ r s).n ∨ top ≤ s.n
 | [], _, s => .inl (by show min (s.n + 0) top ≤ s.n; omega)
 | i :: r, at_, s => by
   by_cases ht : top ≤ s.n
   · exact .inr ht
   · refine .inl ?_
     show min (s.n + ((if insF l at_ = [] then 1 else 0) + straightFrom l (at_ + 1) r)) top ≤ (runF code l (at_ + 1) r (stepF code l at_ i s)).n
     have hn := step_n (code := code) (l := l) (at_ := at_) (i := i) (s := s)
     have h1 : min (s.n + (if insF l at_ = [] then 1 else 0)) top ≤ (stepF code l at_ i s).n := by
      rw [hn]
      unfold plus
      split
      · rename_i he; rw [done_straight he]; omega
      · omega
     rcases run_straight (code := code) (l := l) r (at_ + 1) (stepF code l at_ i s) with h | h
     · omega
     · have : top ≤ (runF code l (at_ + 1) r (stepF code l at_ i s)).n := by
        have hm : ∀ (r : List Ins) (k : Nat) (s : St), s.n ≤ top → top ≤ s.n → top ≤ (runF code l k r s).n := by
         intro r
         induction r with
         | nil => intro k s _ h; exact h
         | cons j r ih =>
           intro k s h0 h
           refine ih (k + 1) _ ?_ ?_
           · rw [step_n]; exact plus_le _ _
           · rw [step_n]; unfold plus; omega
        exact hm r _ _ (by rw [hn]; exact plus_le _ _) h
       omega
theorem bound_straight (code : List Ins) (l : List Lp) (m : Nat) (hlen : code.length < top) : straightFrom l 0 code ≤ boundF code l m := by
 have hs : ∀ (r : List Ins) (k : Nat), straightFrom l k r ≤ r.length := by
  intro r
  induction r with
  | nil => intro k; exact Nat.le_refl _
  | cons j r ih => intro k; have := ih (k + 1); unfold straightFrom; simp only [List.length_cons]; split <;> omega
 have := hs code 0
 rcases run_straight (code := code) (l := l) code 0 (st0 m) with h | h
 · have h0 : (st0 m).n = 0 := rfl
   unfold boundF
   omega
 · have h0 : (st0 m).n = 0 := rfl
   omega
theorem times_twice {a b a' b' c : Nat} (h : a' ≤ c * a) (h2 : b' ≤ 2 * b) (ha : a ≤ top) (ha' : a' ≤ top) : times a' b' ≤ (2 * c) * times a b := by
 rw [times_eq ha', times_eq ha]
 have h3 : a' * b' ≤ (c * a) * (2 * b) := Nat.mul_le_mul h h2
 have h4 : (c * a) * (2 * b) = (2 * c) * (a * b) := by
  rw [Nat.mul_comm 2 b, ← Nat.mul_assoc, Nat.mul_comm _ 2, Nat.mul_assoc c a b, ← Nat.mul_assoc]
 rw [h4] at h3
 by_cases hab : a * b ≤ top
 · rw [Nat.min_eq_left hab]; exact Nat.le_trans (Nat.min_le_left _ _) h3
 · rw [Nat.min_eq_right (by omega : top ≤ a * b)]
   rcases Nat.eq_zero_or_pos c with rfl | hc
   · have : a' = 0 := by omega
     subst this; simp
   · have : top ≤ 2 * c * top := Nat.le_mul_of_pos_left top (by omega)
     omega
theorem prod_twice {r r' : Nat → Nat} (h : ∀ k, r' k ≤ 2 * r k) : ∀ (ks : List Nat) (c n n' : Nat), n' ≤ c * n → n ≤ top → n' ≤ top → prod r' n' ks ≤ (2 ^ ks.length * c) * prod r n ks
 | [], c, _, _, hn, _, _ => by simpa [prod] using hn
 | k :: ks, c, n, n', hn, ht, ht' => by
   have := prod_twice h ks (2 * c) _ _ (times_twice hn (h k) ht ht') (times_le ht) (times_le ht')
   have e : 2 ^ (k :: ks).length * c = 2 ^ ks.length * (2 * c) := by
    rw [List.length_cons, Nat.pow_succ, Nat.mul_assoc]
   rw [e]; exact this
theorem done_twice {l : List Lp} {r r' : Nat → Nat} (h : ∀ k, r' k ≤ 2 * r k) (at_ : Nat) (hd : (insF l at_).length ≤ 12) : doneF l r' at_ ≤ 4096 * doneF l r at_ := by
 have h1 := prod_twice h (insF l at_) 1 1 1 (by omega) (by decide) (by decide)
 have h2 : 2 ^ (insF l at_).length ≤ 4096 := Nat.pow_le_pow_right (n := 2) (by omega) hd
 rw [Nat.mul_one] at h1
 exact Nat.le_trans h1 (Nat.mul_le_mul_right _ h2)
structure Tw (s s' : St) : Prop where
 n : s'.n ≤ 4096 * s.n
 rows : s'.rows ≤ 2 * s.rows
 sorted : ∀ k, s'.sorted k ≤ 2 * s.sorted k
 rounds : ∀ k, s'.rounds k ≤ 2 * s.rounds k
 next : s.next = s'.next
theorem upd_twice {α : Type} [DecidableEq α] {f g : α → Nat} (h : ∀ k, g k ≤ 2 * f k) {k : α} {v v' : Nat} (hv : v' ≤ 2 * v) (j : α) : upd g k v' j ≤ 2 * upd f k v j := by
 unfold upd; split
 · exact hv
 · exact h j
theorem putAll_none {r m : Nat} : ∀ (l : List Ins), (∀ i ∈ l, i.o ≠ 29) → putAll r m l = m
 | [], _ => rfl
 | i :: l, h => by
   unfold putAll
   rw [if_neg (h i (.head _))]
   exact putAll_none l fun j hj => h j (.tail _ hj)
theorem step_twice {code : List Ins} {l : List Lp} {at_ : Nat} {i : Ins} {s s' : St} (hd : ∀ k, (insF l k).length ≤ 12) (hc : ∀ j ∈ code, j.o ≠ 29) (h20 : i.o ≠ 20) (h29 : i.o ≠ 29) (h : Tw s s') : Tw (stepF code l at_ i s) (stepF code l at_ i s') := by
 have hp : ∀ (x : Lp) (r m : Nat), putAll r m ((code.drop x.fr).take (x.tt - x.fr)) = m := fun x r m =>
  putAll_none _ fun j hj => hc j (List.mem_of_mem_drop (List.mem_of_mem_take hj))
 have hb : ∀ (x : Lp) (k : Nat) (t t' : St), Tw t t' → Tw (beginF code x k t) (beginF code x k t') := by
  intro x k t t' ht
  unfold beginF
  split
  · exact ⟨ht.n, ht.rows, ht.sorted, upd_twice ht.rounds ht.rows, ht.next⟩
  · exact ⟨ht.n, by rw [hp, hp]; exact ht.rows, ht.sorted, upd_twice ht.rounds (ht.sorted _), ht.next⟩
 have h2 : ∀ t t' : St, Tw t t' → Tw (match l[t.next]? with
  | some x => if x.fr = at_ then { beginF code x t.next t with next := t.next + 1 } else t
  | none => t) (match l[t'.next]? with
  | some x => if x.fr = at_ then { beginF code x t'.next t' with next := t'.next + 1 } else t'
  | none => t') := by
  intro t t' ht
  rw [← ht.next]
  split
  · rename_i x _
    split
    · have := hb x t.next t t' ht; exact ⟨this.n, this.rows, this.sorted, this.rounds, rfl⟩
    · exact ht
  · exact ht
 have hdn := done_twice (l := l) h.rounds at_ (hd at_)
 have hpl : plus s'.n (doneF l s'.rounds at_) ≤ 4096 * plus s.n (doneF l s.rounds at_) := by
  have := h.n
  unfold plus; omega
 unfold stepF
 refine h2 _ _ ?_
 simp only [if_neg h20, if_neg (fun hh : i.o = 29 ∧ _ => h29 hh.1)]
 exact ⟨hpl, h.rows, h.sorted, h.rounds, h.next⟩
theorem run_twice {code : List Ins} {l : List Lp} (hd : ∀ k, (insF l k).length ≤ 12) (hc : ∀ j ∈ code, j.o ≠ 29) : ∀ (r : List Ins) (at_ : Nat) (s s' : St), (∀ i ∈ r, i.o ≠ 20 ∧ i.o ≠ 29) → Tw s s' → Tw (runF code l at_ r s) (runF code l at_ r s')
 | [], _, _, _, _, h => h
 | i :: r, at_, _, _, hr, h => run_twice hd hc r (at_ + 1) _ _ (fun j hj => hr j (.tail _ hj)) (step_twice hd hc (hr i (.head _)).1 (hr i (.head _)).2 h)
theorem bound_twice {code : List Ins} {l : List Lp} (hd : ∀ k, (insF l k).length ≤ 12) (hc : ∀ i ∈ code, i.o ≠ 20 ∧ i.o ≠ 29) (m : Nat) : boundF code l (2 * m) ≤ 4096 * boundF code l m :=
 (run_twice (code := code) (l := l) hd (fun j hj => (hc j hj).2) code 0 (st0 m) (st0 (2 * m)) hc ⟨Nat.zero_le _, show min (2 * m) top ≤ 2 * min m top by omega, fun _ => Nat.zero_le _, fun _ => Nat.zero_le _, rfl⟩).n
def depthOf (l : List Lp) (k : Nat) : Nat := match l[k]? with
 | some x => ((l.take k).filter (inside x.fr)).length
 | none => 0
theorem insFrom_len (at_ : Nat) : ∀ (l : List Lp) (k : Nat), (insFrom at_ k l).length = (l.filter (inside at_)).length
 | [], _ => rfl
 | x :: l, k => by
   unfold insFrom
   rw [List.filter_cons]
   split
   · simp only [List.length_cons, insFrom_len at_ l]
   · exact insFrom_len at_ l _
theorem ins_le {l : List Lp} (hup : l.Pairwise fun x y => x.fr < y.fr) (hd : ∀ k, depthOf l k < 12) (at_ : Nat) : (insF l at_).length ≤ 12 := by
 unfold insF
 rw [insFrom_len]
 have key : ∀ n, n ≤ l.length → ((l.take n).filter (inside at_)).length ≤ 12 := by
  intro n
  induction n with
  | zero => intro _; simp
  | succ n ih =>
    intro hn
    have hlt : n < l.length := by omega
    rw [List.take_add_one, List.getElem?_eq_getElem hlt, Option.toList_some, List.filter_append, List.length_append]
    cases hi : inside at_ l[n] with
    | false => simp [List.filter_cons, hi]; exact ih (by omega)
    | true =>
      simp only [List.filter_cons, hi, if_true, List.filter_nil, List.length_cons, List.length_nil]
      have h1 : ((l.take n).filter (inside l[n].fr)).length < 12 := by
       have := hd n
       unfold depthOf at this
       rw [List.getElem?_eq_getElem hlt] at this
       exact this
      have h2 : ((l.take n).filter (inside at_)).length ≤ ((l.take n).filter (inside l[n].fr)).length := by
       have hsub : ∀ x ∈ l.take n, inside at_ x = true → inside l[n].fr x = true := by
        intro x hx hxi
        obtain ⟨j, hj, rfl⟩ := List.mem_iff_getElem.1 hx
        rw [List.length_take] at hj
        have hjn : j < n := by omega
        rw [List.getElem_take] at hxi ⊢
        have hlt2 := List.pairwise_iff_getElem.1 hup j n (by omega) hlt hjn
        unfold inside at hxi hi ⊢
        simp only [decide_eq_true_eq] at hxi hi ⊢
        omega
       rw [← List.countP_eq_length_filter, ← List.countP_eq_length_filter]
       exact List.countP_mono_left hsub
      omega
 have := key l.length (Nat.le_refl _)
 rwa [List.take_length] at this
end Go.Proofs.Vg
namespace Go.Proofs.Vf
open Go Go.Proofs Go.RowKit Go.Lib
open Go.Proofs.Vg (Lp inside insF insFrom)
attribute [local go_sem ↓] Go.wp_at_zero Go.wp_at_succ
abbrev lpC (x : Lp) : List Value := [.int .i64 x.fr, .int .i64 x.tt, .int .i64 x.cur, .int .i64 x.sor, .int .i64 x.depth, .int .i64 x.inn]
abbrev lpV (x : Lp) : Value := .agg #[.int .i64 x.fr, .int .i64 x.tt, .int .i64 x.cur, .int .i64 x.sor, .int .i64 x.depth, .int .i64 x.inn]
theorem in_any (at_ : Nat) (x : Lp) (k : Nat) (W : World) (hk : W.heap[k]? = some (.cells #[.int .i64 at_] 3)) : Gives 55 #[lpV x, .pointer (some ⟨k, 0, none⟩)] W (.bool (inside at_ x)) := by
 have hlt : k < W.heap.size := (Array.getElem?_eq_some_iff.1 hk).1
 have c1 : ∀ o j, (W.alloc o).cell? ⟨k, j, none⟩ = (#[.int .i64 at_] : Array Value)[j]? := fun o j => blk_cell (((Below.one W o).block k hlt).trans hk) j
 unfold Gives
 go_enter Tryz.func55, Tryz.ntmps55
 go_wp2
 all_goals go_ret
 all_goals refine ⟨?_, Below.one _ _⟩
 all_goals first | (simp_all [inside]; done) | (simp_all [inside]; intros; omega) | (simp_all [inside]; omega)
theorem mkin_any (at_ : Nat) (W : World) : Calls Tryz.prog 30 #[.int .i64 at_] W fun e w' => e = .returned (.func (.func 55) #[] #[.pointer (some ⟨W.heap.size, 0, none⟩)]) ∧ w' = W.alloc (.cells #[.int .i64 at_] 3) := by
 have hmf : ∀ (fn : Fn) (first cap : Array Value) (w : World), (Instr.makeFunc fn first cap).run Tryz.prog w = .ok (.func fn first cap) w := fun _ _ _ _ => rfl
 go_enter Tryz.func30, Tryz.ntmps30
 go_wp2
 all_goals go_ret
 exact ⟨rfl, rfl⟩
theorem cmp_any (bl g o n c a b : Nat) (fa fb : Int) (W : World) (hb : W.heap[bl]? = some (.cells #[.slice (some ⟨g, o, none⟩) n c] 34)) (hn : n ≤ 9223372036854775807) (ha : a < n) (hbn : b < n)
 (hca : W.cell? ⟨g, o + a * 6, none⟩ = some (.int .i64 fa)) (hcb : W.cell? ⟨g, o + b * 6, none⟩ = some (.int .i64 fb)) :
 Calls Tryz.prog 32 #[.int .i64 a, .int .i64 b, .pointer (some ⟨bl, 0, none⟩)] W fun e w' => e = .returned (.int .i64 (wrap64 (fa - fb))) ∧ w' = W.drew := by
 have c1 := blk_cell hb
 have ha' : ((a : Int) < (n : Int)) = True := by simp; omega
 have hb' : ((b : Int) < (n : Int)) = True := by simp; omega
 go_enter Tryz.func32, Tryz.ntmps32
 go_wp2
 go_region
 all_goals go_wp2
 all_goals go_ret
 all_goals exact ⟨rfl, rfl⟩
def Cmpd (W : World) (g2 o2 n2 : Nat) (cap : Value) : Prop := ∀ i, 0 < i → i < n2 → ∃ (a b : Nat) (d : Int), W.cell? ⟨g2, o2 + i, none⟩ = some (.int .i64 a) ∧ W.cell? ⟨g2, o2 + (i - 1), none⟩ = some (.int .i64 b) ∧ 0 ≤ d ∧
 ∀ m, Calls Tryz.prog 32 #[.int .i64 a, .int .i64 b, cap] (W.drewN m) fun e w' => e = .returned (.int .i64 d) ∧ w' = (W.drewN m).drew
theorem drew_drewN (w : World) (m : Nat) : (w.drewN m).drew = w.drewN (m + 1) := by
 rw [show (w.drewN m).drew = (w.drewN m).drewN 1 from rfl, World.drewN_drewN]
theorem insort_any (W : World) (g2 o2 n2 c2 : Nat) (cap : Value) (hn : n2 ≤ 12) (h : Cmpd W g2 o2 n2 cap) :
 Calls Tryz.prog 109 #[.slice (some ⟨g2, o2, none⟩) n2 c2, .int .i64 0, .int .i64 n2, .func (.func 32) #[] #[cap]] W fun e w' => (∃ v, e = .returned v) ∧ ∃ m, w' = W.drewN m := by
 have HC := Lib.hid h
 clear h
 go_enter Tryz.func109, Tryz.ntmps109
 go_wp2
 go_loopg [8] n2 (fun lft i wr => ∃ k m : Nat, 1 ≤ k ∧ k + lft = n2 + 1 ∧ i = .int .i64 k ∧ Hid (wr = W.drewN m))
 case atStart => exact ⟨1, 0, by omega, by omega, rfl, Lib.hid rfl⟩
 case round =>
  obtain ⟨k, m, hk1, hl, rfl, hwr⟩ := hrel
  by_cases hlk : k < n2
  · have hlt' : ((k : Int) < (n2 : Int)) = True := by simp; omega
    obtain ⟨a, b, d, ha, hb, hd, hc⟩ := HC.out k (by omega) hlk
    have ha : wr.cell? ⟨g2, o2 + k, none⟩ = some (.int .i64 a) := by rw [hwr.out]; exact ha
    have hb : wr.cell? ⟨g2, o2 + (k - 1), none⟩ = some (.int .i64 b) := by rw [hwr.out]; exact hb
    have hk0 : (0 : Int) < (k : Int) := by omega
    have hk2 : (k : Int) - 1 = ((k - 1 : Nat) : Int) := by omega
    have hk0n : 0 < k := by omega
    have hdn : ¬ d < 0 := by omega
    have hdn2 : (d < 0) = False := by simp; omega
    have hw : IntKind.i64.wrap ((k : Int) - 1) = ((k - 1 : Nat) : Int) := by rw [IntKind.wrap_i64]; omega
    have hlt3 : (((k - 1 : Nat) : Int) < (n2 : Int)) = True := by simp; omega
    have hlt4 : (0 ≤ ((k - 1 : Nat) : Int)) = True := by simp
    clear hk2
    have hc2 : ∀ n, Calls Tryz.prog 32 #[.int .i64 a, .int .i64 b, cap] (wr.drewN n) fun e w' => e = .returned (.int .i64 d) ∧ ∃ q, w' = (wr.drewN n).drewN q := fun n => by
     rw [hwr.out, World.drewN_drewN]
     exact (hc (m + n)).mono fun e w' ⟨h1, h2⟩ => ⟨h1, 1, h2⟩
    have HD := Lib.hid hc2
    clear hc hc2
    go_wp2
    go_loopg [9] 1 (fun lft j wx => j = .int .i64 k ∧ wx = wr)
    case atStart => exact ⟨rfl, rfl⟩
    case round =>
     obtain ⟨rfl, rfl⟩ := hrel
     go_wp2
     go_quiet (first | (go_at_call 32; exact Calls.quiet_of (HD.out _)))
     go_wp2
     go_roundg (n2 - k)
     case measure => omega
     case rel => exact ⟨k + 1, _, by omega, by omega, by first | rfl | go_num, Lib.hid (by rw [hwr.out, World.drewN_drewN])⟩
  · have hlt' : ((k : Int) < (n2 : Int)) = False := by simp; omega
    go_wp2
    refine bodyPost_end (results_none rfl _ _ _) rfl ?_
    exact ⟨⟨_, rfl⟩, m, hwr.out⟩
theorem insort_one (W : World) (a : Option Addr) (n2 c2 : Nat) (f : Value) (hn : n2 ≤ 1) :
 Calls Tryz.prog 109 #[.slice a n2 c2, .int .i64 0, .int .i64 n2, f] W fun e w' => (∃ v, e = .returned v) ∧ ∃ m, w' = W.drewN m := by
 go_enter Tryz.func109, Tryz.ntmps109
 have hlt' : ((1 : Int) < (n2 : Int)) = False := by simp; omega
 go_wp2
 go_loopg [8] 1 (fun lft i wr => i = .int .i64 1 ∧ wr = W)
 case atStart => exact ⟨rfl, rfl⟩
 case round =>
  obtain ⟨rfl, rfl⟩ := hrel
  go_wp2
  refine bodyPost_end (results_none rfl _ _ _) rfl ?_
  exact ⟨⟨_, rfl⟩, 0, rfl⟩
theorem insort_all (W : World) (a : Option Addr) (n2 c2 : Nat) (cap : Value) (hn : n2 ≤ 12) (h : n2 ≤ 1 ∨ ∃ g2 o2, a = some ⟨g2, o2, none⟩ ∧ Cmpd W g2 o2 n2 cap) :
 Calls Tryz.prog 109 #[.slice a n2 c2, .int .i64 0, .int .i64 n2, .func (.func 32) #[] #[cap]] W fun e w' => (∃ v, e = .returned v) ∧ ∃ m, w' = W.drewN m := by
 rcases h with h | ⟨g2, o2, rfl, h⟩
 · exact insort_one W a n2 c2 _ h
 · exact insort_any W g2 o2 n2 c2 cap hn h
theorem stable_any (W : World) (a : Option Addr) (n2 c2 : Nat) (cap : Value) (hn : n2 ≤ 12) (h : n2 ≤ 1 ∨ ∃ g2 o2, a = some ⟨g2, o2, none⟩ ∧ Cmpd W g2 o2 n2 cap) :
 Calls Tryz.prog 56 #[.slice a n2 c2, .int .i64 n2, .func (.func 32) #[] #[cap]] W fun e w' => (∃ v, e = .returned v) ∧ ∃ m, w' = W.drewN m := by
 have hI := insort_all W a n2 c2 cap hn h
 have h20 : ((20 : Int) ≤ (n2 : Int)) = False := by simp; omega
 have h21 : ((20 : Int) < (n2 : Int)) = False := by simp; omega
 have HI := Lib.hid hI
 clear hI h
 go_enter Tryz.func56, Tryz.ntmps56
 go_wp2
 go_loopg [7, 8] 1 (fun lft i j wr => i = .int .i64 0 ∧ j = .int .i64 20 ∧ wr = W)
 case atStart => exact ⟨rfl, rfl, rfl⟩
 case round =>
  obtain ⟨rfl, rfl, rfl⟩ := hrel
  go_wp2_with (first | (go_at_call 109; refine HI.out.mono ?_; rintro e w2 ⟨⟨v, rfl⟩, m, rfl⟩))
  go_loopg [6] 1 (fun lft i wx => i = .int .i64 20 ∧ ∃ m, wx = wr.drewN m)
  case atStart => exact ⟨rfl, m, rfl⟩
  case round =>
   obtain ⟨rfl, m2, rfl⟩ := hrel
   go_wp2
   refine bodyPost_end (results_none rfl _ _ _) rfl ?_
   exact ⟨⟨_, rfl⟩, m2, rfl⟩
theorem sortst_any (W : World) (a : Option Addr) (n2 c2 : Nat) (cap : Value) (hn : n2 ≤ 12) (h : n2 ≤ 1 ∨ ∃ g2 o2, a = some ⟨g2, o2, none⟩ ∧ Cmpd W g2 o2 n2 cap) :
 Calls Tryz.prog 31 #[.slice a n2 c2, .func (.func 32) #[] #[cap]] W fun e w' => (∃ v, e = .returned v) ∧ ∃ m, w' = W.drewN m := by
 have HI := Lib.hid (stable_any W a n2 c2 cap hn h)
 clear h
 go_enter Tryz.func31, Tryz.ntmps31
 go_wp2_with (first | (go_at_call 56; refine HI.out.mono ?_; rintro e w2 ⟨⟨v, rfl⟩, m, rfl⟩))
 refine bodyPost_end (results_none rfl _ _ _) rfl ?_
 exact ⟨⟨_, rfl⟩, m, rfl⟩
theorem info3 : (Tryz.prog.info? 3).map (fun i => (i.zero, i.size, i.bytes)) = some (some (.int .i64 0), 1, 8) := by kernel_rfl
abbrev natC (k : Nat) : List Value := [.int .i64 k]
def nats (l : List Nat) : List Value := l.map fun k : Nat => Value.int .i64 (k : Int)
theorem owns_lst {w : World} {B e : Nat} {v : Value} {l : List Nat} (h : w.ownsRow B e 1 v l.length (nats l)) (hn : l.length ≤ 9223372036854775807) : ∃ s : Sl, v = s.v ∧ Lst w s 1 natC l := by
 rcases h.2 with ⟨rfl, h0⟩ | ⟨g, cap, cur, rfl, hB, hg, hc, _, hs, ht⟩
 · refine ⟨⟨none, 0, 0⟩, rfl, h0.symm, by show 0 ≤ _; omega, fun i x hx => ?_⟩
   have := (List.getElem?_eq_some_iff.1 hx).1
   omega
 · refine ⟨⟨some ⟨g, 0, none⟩, l.length, cap⟩, rfl, rfl, hn, fun i x hx => ⟨g, 0, rfl, (Array.getElem?_eq_some_iff.1 hg).1, fun j hj => ?_⟩⟩
   obtain rfl : j = 0 := by omega
   have hi := (List.getElem?_eq_some_iff.1 hx).1
   have h1 : (nats l)[i]? = some (.int .i64 (x : Int)) := by unfold nats; rw [List.getElem?_map, hx]; rfl
   rw [← ht, List.getElem?_take] at h1
   rw [if_pos (by omega)] at h1
   show w.cell? ⟨g, 0 + i * 1 + 0, none⟩ = _
   rw [Nat.zero_add, Nat.mul_one, Nat.add_zero, blk_cell hg]
   simpa using h1
theorem owns_val {w : World} {B e size n : Nat} {v : Value} {L : List Value} (h : w.ownsRow B e size v n L) : ∃ a c, v = .slice a n c := by
 rcases h.2 with ⟨rfl, rfl⟩ | ⟨g, cap, cur, rfl, _⟩ <;> exact ⟨_, _, rfl⟩
theorem owns_below {w w' : World} {B e size n : Nat} {v : Value} {L : List Value} (h : w.ownsRow B e size v n L) (hb : Below w.heap.size w w') : w'.ownsRow B e size v n L := by
 refine ⟨h.1, h.2.imp id fun ⟨g, cap, cur, a, b, c, r⟩ => ⟨g, cap, cur, a, b, (hb.block g (Array.getElem?_eq_some_iff.1 c).1).trans c, r⟩⟩
theorem owns_ge {w : World} {B e size n : Nat} {v : Value} {L : List Value} (h : w.ownsRow B e size v n L) {k : Nat} (hk : v.ownBlock = some k) : B ≤ k := by
 rcases h.2 with ⟨rfl, _⟩ | ⟨g, cap, cur, rfl, hB, _⟩
 · simp [Value.ownBlock] at hk
 · have : g = k := by simpa [Value.ownBlock] using hk
   omega
theorem insFrom_append (at_ : Nat) : ∀ (a b : List Lp) (k : Nat), insFrom at_ k (a ++ b) = insFrom at_ k a ++ insFrom at_ (k + a.length) b
 | [], b, k => rfl
 | x :: a, b, k => by
   simp only [List.cons_append, insFrom, List.length_cons]
   rw [insFrom_append at_ a b (k + 1), show k + 1 + a.length = k + (a.length + 1) by omega]
   split <;> rfl
theorem insFrom_take {at_ : Nat} {l : List Lp} {k : Nat} {x : Lp} (h : l[k]? = some x) : insFrom at_ 0 (l.take (k + 1)) = insFrom at_ 0 (l.take k) ++ (if inside at_ x then [k] else []) := by
 have hlt := (List.getElem?_eq_some_iff.1 h).1
 rw [List.take_add_one, h, Option.toList_some, insFrom_append, List.length_take, Nat.min_eq_left (by omega), Nat.zero_add]
 simp only [insFrom]
theorem insFrom_len_take (at_ : Nat) (l : List Lp) (k : Nat) : (insFrom at_ 0 (l.take k)).length ≤ (insF l at_).length := by
 have h := insFrom_append at_ (l.take k) (l.drop k) 0
 rw [List.take_append_drop] at h
 unfold insF
 rw [h, List.length_append]; omega
theorem insFrom_mem (at_ : Nat) : ∀ (l : List Lp) (k j : Nat), j ∈ insFrom at_ k l → k ≤ j ∧ ∃ x, l[j - k]? = some x ∧ inside at_ x = true
 | [], _, _, h => by cases h
 | x :: l, k, j, h => by
   unfold insFrom at h
   split at h
   · rename_i hx
     rcases List.mem_cons.1 h with rfl | h
     · exact ⟨Nat.le_refl _, x, by simp, hx⟩
     · obtain ⟨h1, y, h2, h3⟩ := insFrom_mem at_ l (k + 1) j h
       exact ⟨by omega, y, by rw [show j - k = (j - (k + 1)) + 1 by omega]; simpa using h2, h3⟩
   · obtain ⟨h1, y, h2, h3⟩ := insFrom_mem at_ l (k + 1) j h
     exact ⟨by omega, y, by rw [show j - k = (j - (k + 1)) + 1 by omega]; simpa using h2, h3⟩
theorem insFrom_up (at_ : Nat) : ∀ (l : List Lp) (k : Nat), (insFrom at_ k l).Pairwise (· < ·)
 | [], _ => .nil
 | x :: l, k => by
   unfold insFrom
   split
   · exact List.pairwise_cons.2 ⟨fun j hj => by have := (insFrom_mem at_ l (k + 1) j hj).1; omega, insFrom_up at_ l (k + 1)⟩
   · exact insFrom_up at_ l (k + 1)
structure Lps (W : World) (s : Sl) (l : List Lp) : Prop where
 lst : Lst W s 6 lpC l
 up : l.Pairwise fun x y => x.fr < y.fr
 low : ∀ x ∈ l, x.fr < 1048576
 ins : ∀ a, (insF l a).length ≤ 12
theorem Lps.on {W w : World} {s : Sl} {l : List Lp} (h : Lps W s l) (hb : Below W.heap.size W w) : Lps w s l := ⟨h.lst.on hb, h.up, h.low, h.ins⟩
theorem Lps.cells {W : World} {s : Sl} {l : List Lp} (h : Lst W s 6 lpC l) {k : Nat} {x : Lp} (hx : l[k]? = some x) : ∃ g o, s.a = some ⟨g, o, none⟩ ∧ g < W.heap.size ∧ k < s.n ∧ ∀ w, Below W.heap.size W w →
 w.cell? ⟨g, o + k * 6, none⟩ = some (.int .i64 x.fr) ∧ w.cell? ⟨g, o + k * 6 + 1, none⟩ = some (.int .i64 x.tt) ∧ w.cell? ⟨g, o + k * 6 + 2, none⟩ = some (.int .i64 x.cur) ∧ w.cell? ⟨g, o + k * 6 + 3, none⟩ = some (.int .i64 x.sor) ∧ w.cell? ⟨g, o + k * 6 + 4, none⟩ = some (.int .i64 x.depth) ∧ w.cell? ⟨g, o + k * 6 + 5, none⟩ = some (.int .i64 x.inn) := by
 obtain ⟨g, o, e, hg, hc⟩ := h.at' k x hx
 refine ⟨g, o, e, hg, by rw [h.len]; exact (List.getElem?_eq_some_iff.1 hx).1, fun w hb => ?_⟩
 have cl : ∀ a, w.cell? ⟨g, a, none⟩ = W.cell? ⟨g, a, none⟩ := fun a => hb.cell (p := ⟨g, a, none⟩) hg
 rw [cl, cl, cl, cl, cl, cl]
 exact ⟨hc 0 (by omega), hc 1 (by omega), hc 2 (by omega), hc 3 (by omega), hc 4 (by omega), hc 5 (by omega)⟩
theorem cmpd_of {W : World} {s v : Sl} {l : List Lp} (h : Lps W s l) (at_ : Nat) {bl : Nat} (hbl : W.heap[bl]? = some (.cells #[.slice s.a s.n s.c] 34)) {w : World} (hb : Below W.heap.size W w) (hv : Lst w v 1 natC (insF l at_)) :
 v.n ≤ 1 ∨ ∃ g2 o2, v.a = some ⟨g2, o2, none⟩ ∧ Cmpd w g2 o2 v.n (.pointer (some ⟨bl, 0, none⟩)) := by
 by_cases h1 : v.n ≤ 1
 · exact .inl h1
 refine .inr ?_
 have hlen : v.n = (insFrom at_ 0 l).length := hv.len
 have hblt : bl < W.heap.size := (Array.getElem?_eq_some_iff.1 hbl).1
 obtain ⟨g2, o2, e2, hg2, _⟩ := hv.at' 0 _ (List.getElem?_eq_getElem (by show 0 < (insFrom at_ 0 l).length; omega))
 refine ⟨g2, o2, e2, fun i hi0 hi => ?_⟩
 have hg := fun j (hj : j < (insFrom at_ 0 l).length) => hv.at' j _ (List.getElem?_eq_getElem hj)
 obtain ⟨ga, oa, ea, _, ca⟩ := hg i (by omega)
 obtain ⟨gb, ob, eb, _, cb⟩ := hg (i - 1) (by omega)
 rw [e2] at ea eb
 injection ea with ea; injection ea with ea1 ea2
 injection eb with eb; injection eb with eb1 eb2
 subst ea1 ea2 eb1 eb2
 have ha := ca 0 (by omega)
 have hbb := cb 0 (by omega)
 rw [Nat.mul_one, Nat.add_zero] at ha hbb
 obtain ⟨_, xa, hxa, _⟩ := insFrom_mem at_ l 0 _ (List.getElem_mem (h := (by omega : i < (insFrom at_ 0 l).length)))
 obtain ⟨_, xb, hxb, _⟩ := insFrom_mem at_ l 0 _ (List.getElem_mem (h := (by omega : i - 1 < (insFrom at_ 0 l).length)))
 rw [Nat.sub_zero] at hxa hxb
 have hup := List.pairwise_iff_getElem.1 (insFrom_up at_ l 0) (i - 1) i (by omega) (by omega) (by omega)
 have hka := (List.getElem?_eq_some_iff.1 hxa).1
 have hkb := (List.getElem?_eq_some_iff.1 hxb).1
 have hfr : xb.fr < xa.fr := by
  have := List.pairwise_iff_getElem.1 h.up _ _ hkb hka hup
  rwa [(List.getElem?_eq_some_iff.1 hxa).2, (List.getElem?_eq_some_iff.1 hxb).2] at this
 obtain ⟨g, o, e, hgl, hna, hca⟩ := Lps.cells h.lst hxa
 obtain ⟨g', o', e', _, hnb, hcb⟩ := Lps.cells h.lst hxb
 rw [e] at e'
 injection e' with e'; injection e' with e1 e3
 subst e1 e3
 have lowa := h.low xa (List.mem_of_getElem? hxa)
 have hd : wrap64 ((xa.fr : Int) - xb.fr) = (xa.fr : Int) - xb.fr := by unfold wrap64; omega
 refine ⟨_, _, wrap64 ((xa.fr : Int) - xb.fr), ha, hbb, by rw [hd]; omega, fun m => ?_⟩
 have hbm : Below W.heap.size W (w.drewN m) := hb.drewN m
 have hbk : (w.drewN m).heap[bl]? = some (.cells #[.slice (some ⟨g, o, none⟩) s.n s.c] 34) := by rw [← e]; exact (hbm.block bl hblt).trans hbl
 exact cmp_any bl g o s.n s.c _ _ _ _ (w.drewN m) hbk h.lst.small hna hnb (hca _ hbm).1 (hcb _ hbm).1
theorem inside_any (W : World) (s : Sl) (l : List Lp) (h : Lps W s l) (at_ : Nat) (hat : at_ < 1048576) :
 Calls Tryz.prog 11 #[.slice s.a s.n s.c, .int .i64 at_] W fun e w' => (∃ v : Sl, e = .returned (.slice v.a v.n v.c) ∧ Lst w' v 1 natC (insF l at_)) ∧ Below W.heap.size W w' := by
 obtain ⟨W2, hW2⟩ : ∃ W2, W2 = (W.alloc (.cells #[.slice s.a s.n s.c] 34)).alloc (.cells #[.int .i64 at_] 3) := ⟨_, rfl⟩
 have two := two_blocks W (.cells #[.slice s.a s.n s.c] 34) (.cells #[.int .i64 at_] 3)
 rw [← hW2] at two
 obtain ⟨i0, hi, hz0, hz1, hz2⟩ := info_parts info3
 obtain ⟨sa, sn, sc⟩ := s
 have hlen : sn = l.length := h.lst.len
 have hsm : sn ≤ 9223372036854775807 := h.lst.small
 have HT := Lib.hid two
 have HE := Lib.hid hW2
 have H := Lib.hid h
 have HL := Lib.hid hlen
 clear two hW2 h hlen
 go_enter Tryz.func11, Tryz.ntmps11
 go_wp2_with (first | (go_at_call 30; refine (mkin_any at_ _).mono ?_; rintro e w2 ⟨rfl, hw2⟩; rw [← HE.out] at hw2; subst hw2; have kb := blk_cell HT.out.2.2.1))
 clear kb
 go_loopg [13, 5] sn (fun lft i v wr => ∃ kk : Nat, kk + lft = sn ∧ i = .int .i64 kk ∧ Hid (Below (W.heap.size + 2) w2 wr ∧ wr.ownsRow (W.heap.size + 2) 3 1 v (insFrom at_ 0 (l.take kk)).length (nats (insFrom at_ 0 (l.take kk)))))
 case atStart => exact ⟨0, by omega, rfl, Lib.hid ⟨Below.refl _ _, World.ownsRow_nil _ _ _ _⟩⟩
 case round =>
  obtain ⟨kk, hl, rfl, hst⟩ := hrel
  obtain ⟨va, vc, rfl⟩ := owns_val hst.out.2
  have hW : Below W.heap.size W wr := HT.out.1.trans (hst.out.1.mono (by omega))
  have h2s : w2.heap.size = W.heap.size + 2 := HT.out.2.1
  have hws : W.heap.size + 2 ≤ wr.heap.size := by have := hst.out.1.size; omega
  have hle12 : (insFrom at_ 0 (l.take kk)).length ≤ 12 := Nat.le_trans (insFrom_len_take at_ l kk) (H.out.ins at_)
  have HW := Lib.hid hW
  have HWS := Lib.hid hws
  have H12 := Lib.hid hle12
  clear hW h2s hws hle12
  by_cases hlk : kk < sn
  · have hlt' : ((kk : Int) < (sn : Int)) = True := by simp; omega
    obtain ⟨x, hx⟩ : ∃ x, l[kk]? = some x := ⟨_, List.getElem?_eq_getElem (by have := HL.out; omega)⟩
    obtain ⟨g, o, e1, hg, _, hd⟩ := Lps.cells H.out.lst hx
    have e1 : sa = some ⟨g, o, none⟩ := e1
    subst e1
    obtain ⟨d0, d1, d2, d3, d4, d5⟩ := hd wr HW.out
    have hk1 : ∀ o', (wr.alloc o').heap[W.heap.size + 1]? = some (.cells #[.int .i64 at_] 3) := fun o' =>
     (Below.heap_alloc wr o' _ (by have := HWS.out; omega)).trans ((hst.out.1.block _ (by omega)).trans HT.out.2.2.2)
    have hI := fun o' => in_any at_ x (W.heap.size + 1) (wr.alloc o') (hk1 o')
    have HX := Lib.hid hx
    clear hd hx hk1
    cases hin : inside at_ x
    · simp only [hin] at hI
      have HI := Lib.hid hI
      have HN := Lib.hid hin
      clear hI hin
      go_wp2_with (first | (go_at_call 55; refine (HI.out _).mono ?_; rintro e w3 ⟨rfl, hb3⟩))
      go_roundg (sn - kk - 1)
      case measure => omega
      case rel =>
       refine ⟨kk + 1, by omega, by first | rfl | go_num, Lib.hid ?_⟩
       rw [insFrom_take HX.out, HN.out, if_neg (by simp), List.append_nil]
       exact ⟨hst.out.1.trans (((Below.refl _ wr).alloc HWS.out _).trans (hb3.mono (by rw [heap_size_alloc]; have := HWS.out; omega))), owns_below (owns_below hst.out.2 (Below.one wr _)) hb3⟩
    · simp only [hin] at hI
      have HI := Lib.hid hI
      have HN := Lib.hid hin
      clear hI hin
      go_wp2_with (first
       | (go_at_call 55; refine (HI.out _).mono ?_; rintro e w3 ⟨rfl, hb3⟩
          have hown3 := owns_below (owns_below hst.out.2 (Below.one wr _)) hb3)
       | (at_builtin; refine wpList_append_own _ rfl _ _ 40 rfl (W.heap.size + 2) 3 i0 (.int .i64 0) 1 8 Tryz.underlying40 hi hz0 hz1 hz2 rfl (by decide) _ _ _ rfl (hown3.alloc _) ⟨w3.heap.size, 0, none⟩ 1 1 [.int .i64 kk] rfl rfl ?c1 ?c2 ?c3 ?c4 ?c5 ?_))
      case c1 =>
       intro j u hj
       match j, hj with
       | 0, hj =>
         simp at hj; subst hj
         rw [Addr.add_lit]
         exact (blk_cell (heap_alloc_new w3 _) 0).trans rfl
      case c2 => intro u hu; simp at hu; subst hu; rfl
      case c3 => have := H12.out; unfold maxLen; omega
      case c4 => have := H12.out; omega
      case c5 => have := HWS.out; have := hb3.size; rw [heap_size_alloc] at this; rw [heap_size_alloc]; omega
      intro v' w4 hown4 hgrow _
      have hs3 : W.heap.size + 2 ≤ w3.heap.size := by have := HWS.out; have := hb3.size; rw [heap_size_alloc] at this; omega
      have hb4 : Below (W.heap.size + 2) w2 w4 := (hst.out.1.trans (((Below.refl _ wr).alloc HWS.out _).trans (hb3.mono (by rw [heap_size_alloc]; have := HWS.out; omega)))).trans (((Below.refl _ w3).alloc hs3 _).grown hgrow (by rw [heap_size_alloc]; omega) (fun k hk => owns_ge hown3 hk))
      have hown5 : w4.ownsRow (W.heap.size + 2) 3 1 v' (insFrom at_ 0 (l.take (kk + 1))).length (nats (insFrom at_ 0 (l.take (kk + 1)))) := by
       rw [insFrom_take HX.out, HN.out, if_pos rfl, List.length_append]
       unfold nats at hown4 ⊢
       rw [List.map_append]
       exact hown4
      have HB4 := Lib.hid hb4
      have HO5 := Lib.hid hown5
      clear hb4 hown5 hown4 hgrow hown3 hs3
      go_wp2
      go_roundg (sn - kk - 1)
      case measure => omega
      case rel => exact ⟨kk + 1, by omega, by first | rfl | go_num, Lib.hid ⟨HB4.out, HO5.out⟩⟩
  · have hlt' : ((kk : Int) < (sn : Int)) = False := by simp; omega
    have htk : insFrom at_ 0 (l.take kk) = insF l at_ := by
     have h1 : sn = l.length := HL.out
     rw [List.take_of_length_le (by omega)]; rfl
    have hown := hst.out.2
    rw [htk] at hown
    obtain ⟨v, hv, hlst⟩ := owns_lst hown (by have := H.out.ins at_; omega)
    have hlv : (insF l at_).length = v.n := by have := hlst.len; omega
    rw [hlv] at hv
    have hv1 : va = v.a := by injection hv
    have hv2 : vc = v.c := by injection hv
    subst hv1 hv2
    have hn12 : v.n ≤ 12 := by have := H.out.ins at_; omega
    have hbox : wr.heap[W.heap.size]? = some (.cells #[.slice sa sn sc] 34) := (hst.out.1.block _ (by omega)).trans HT.out.2.2.1
    have hcm := cmpd_of (H.out.on HW.out) at_ (bl := W.heap.size) hbox (Below.refl _ wr) hlst
    have hS := sortst_any wr v.a v.n v.c (.pointer (some ⟨W.heap.size, 0, none⟩)) hn12 hcm
    have hlen2 : (insFrom at_ 0 (l.take kk)).length = v.n := by rw [htk]; exact hlv
    have HS := Lib.hid hS
    have HLST := Lib.hid hlst
    clear htk hown hlst hlv hv hn12 hbox hcm hS
    rw [hlen2]
    have hmf : ∀ (fn : Fn) (first cap : Array Value) (w : World), (Instr.makeFunc fn first cap).run Tryz.prog w = .ok (.func fn first cap) w := fun _ _ _ _ => rfl
    go_wp2_with (first | (go_at_call 31; refine HS.out.mono ?_; rintro e w3 ⟨⟨vv, rfl⟩, m, rfl⟩))
    go_ret
    have hbm : Below wr.heap.size wr (wr.drewN m) := (Below.refl _ _).drewN m
    exact ⟨⟨v, rfl, HLST.out.on hbm⟩, HW.out.on hbm⟩
end Go.Proofs.Vf
namespace Go.Proofs.Vf
open Go Go.Proofs Go.RowKit Go.Lib
open Go.Proofs.Vg (Lp inside insF insFrom)
def loopX (at_ m : Nat) (io ia : Int) : Lp := if io = 21 then ⟨at_, m, -1, ia, 0, -1⟩ else ⟨at_, m, ia, -1, 0, -1⟩
def loopOK (at_ : Nat) (io ia : Int) (e : Ins) : Bool := e.o == (if io = 21 then 22 else 15) && e.a == ia && e.b == (at_ : Int) + 1
theorem loop_any (p : Pg) (D : Dat) (W : World) (hp : Has W p D) (at_ m : Nat) (hat : at_ < 1048576) (hm : m < 1048576) (io ia ic id : Int) (hi : D.code[at_]? = some ⟨io, ia, (m : Int) + 1, ic, id⟩) (eo ea eb ec ed : Int) (he : D.code[m]? = some ⟨eo, ea, eb, ec, ed⟩) :
 Gives 48 #[p.v, .int .i64 at_] W (.tuple #[lpV (loopX at_ m io ia), .bool (loopOK at_ io ia ⟨eo, ea, eb, ec, ed⟩)]) := by
 obtain ⟨g, o, e1, hg, hlt, hc⟩ := hp.ins hi
 obtain ⟨g', o', e1', _, hlt2, hc2⟩ := hp.ins he
 rw [e1] at e1'
 injection e1' with e1'; injection e1' with q1 q2
 subst q1 q2
 obtain ⟨ver, regs, binds, names, cons, curs, sorts, tots, ⟨ca, cn, cc⟩⟩ := p
 have e1 : ca = some ⟨g, o, none⟩ := e1
 have hlt : at_ < cn := hlt
 have hlt2 : m < cn := hlt2
 have hsm : cn ≤ 9223372036854775807 := hp.code.small
 subst e1
 have cl : ∀ w, Below W.heap.size W w → (w.cell? ⟨g, o + at_ * 5, none⟩ = some (.int .u8 io) ∧ w.cell? ⟨g, o + at_ * 5 + 1, none⟩ = some (.int .i64 ia) ∧ w.cell? ⟨g, o + at_ * 5 + 2, none⟩ = some (.int .i64 ((m : Int) + 1)) ∧ w.cell? ⟨g, o + at_ * 5 + 3, none⟩ = some (.int .i64 ic) ∧ w.cell? ⟨g, o + at_ * 5 + 4, none⟩ = some (.int .i64 id)) ∧
  w.cell? ⟨g, o + m * 5, none⟩ = some (.int .u8 eo) ∧ w.cell? ⟨g, o + m * 5 + 1, none⟩ = some (.int .i64 ea) ∧ w.cell? ⟨g, o + m * 5 + 2, none⟩ = some (.int .i64 eb) ∧ w.cell? ⟨g, o + m * 5 + 3, none⟩ = some (.int .i64 ec) ∧ w.cell? ⟨g, o + m * 5 + 4, none⟩ = some (.int .i64 ed) := fun w hw => ⟨hc w hw, hc2 w hw⟩
 obtain ⟨⟨d0, d1, d2, d3, d4⟩, _⟩ := cl W (Below.refl _ _)
 have b4 : ∀ q r s t, Below W.heap.size W ((((W.alloc q).alloc r).alloc s).alloc t) := fun q r s t => (((Below.one W q).new r).new s).new t
 have f0 : ∀ q r s t, ((((W.alloc q).alloc r).alloc s).alloc t).cell? ⟨g, o + m * 5, none⟩ = some (.int .u8 eo) := fun q r s t => (cl _ (b4 q r s t)).2.1
 have f1 : ∀ q r s t, ((((W.alloc q).alloc r).alloc s).alloc t).cell? ⟨g, o + m * 5 + 1, none⟩ = some (.int .i64 ea) := fun q r s t => (cl _ (b4 q r s t)).2.2.1
 have f2 : ∀ q r s t, ((((W.alloc q).alloc r).alloc s).alloc t).cell? ⟨g, o + m * 5 + 2, none⟩ = some (.int .i64 eb) := fun q r s t => (cl _ (b4 q r s t)).2.2.2.1
 have f3 : ∀ q r s t, ((((W.alloc q).alloc r).alloc s).alloc t).cell? ⟨g, o + m * 5 + 3, none⟩ = some (.int .i64 ec) := fun q r s t => (cl _ (b4 q r s t)).2.2.2.2.1
 have f4 : ∀ q r s t, ((((W.alloc q).alloc r).alloc s).alloc t).cell? ⟨g, o + m * 5 + 4, none⟩ = some (.int .i64 ed) := fun q r s t => (cl _ (b4 q r s t)).2.2.2.2.2
 have B4 := Lib.hid b4
 clear b4
 clear cl hc hc2 hp hi he
 have hw1 : IntKind.i64.wrap ((at_ : Int) + 1) = (at_ : Int) + 1 := by rw [IntKind.wrap_i64]; omega
 by_cases h21 : io = 21
 · subst h21
   have hX : loopX at_ m 21 ia = ⟨at_, m, -1, ia, 0, -1⟩ := rfl
   have hK : loopOK at_ 21 ia ⟨eo, ea, eb, ec, ed⟩ = (eo == 22 && ea == ia && eb == (at_ : Int) + 1) := rfl
   rw [hX, hK]
   clear hX hK
   unfold Gives
   go_enter Tryz.func48, Tryz.ntmps48
   go_wp2
   go_region
   all_goals go_wp2
   all_goals cases k1 : (eo == 22) <;> cases k2 : (ea == ia) <;> cases k3 : (eb == (at_ : Int) + 1)
   all_goals go_region
   all_goals go_wp2
   all_goals (refine bodyPost_ret (v := .tuple #[.agg #[.int .i64 at_, .int .i64 m, .int .i64 (-1), .int .i64 ia, .int .i64 0, .int .i64 (-1)], .bool (eo == 22 && ea == ia && eb == (at_ : Int) + 1)]) (by simp [results, Tryz.results48, go_sem, k1, k2, k3]) rfl ⟨by simp, ?_⟩)
   all_goals repeat (first | exact Below.refl _ _ | refine Below.drew ?_ | refine Below.setCell ?_ (by simp; try omega) _ | refine Below.alloc ?_ (by simp [heap_size_alloc]; try omega) _)
 have x21 : (io == 21) = false := by simpa using h21
 have hX : loopX at_ m io ia = ⟨at_, m, ia, -1, 0, -1⟩ := by unfold loopX; rw [if_neg h21]
 have hK : loopOK at_ io ia ⟨eo, ea, eb, ec, ed⟩ = (eo == 15 && ea == ia && eb == (at_ : Int) + 1) := by unfold loopOK; rw [if_neg h21]
 rw [hX, hK]
 clear hX hK
 unfold Gives
 go_enter Tryz.func48, Tryz.ntmps48
 go_wp2
 cases k1 : (eo == 15) <;> cases k2 : (ea == ia) <;> cases k3 : (eb == (at_ : Int) + 1)
 all_goals go_region
 all_goals go_wp2
 all_goals (refine bodyPost_ret (v := .tuple #[.agg #[.int .i64 at_, .int .i64 m, .int .i64 ia, .int .i64 (-1), .int .i64 0, .int .i64 (-1)], .bool (eo == 15 && ea == ia && eb == (at_ : Int) + 1)]) (by simp [results, Tryz.results48, go_sem, k1, k2, k3]) rfl ⟨by simp, ?_⟩)
 all_goals repeat (first | exact Below.refl _ _ | refine Below.drew ?_ | refine Below.setCell ?_ (by simp; try omega) _ | refine Below.alloc ?_ (by simp [heap_size_alloc]; try omega) _)
end Go.Proofs.Vf
namespace Go.Proofs.Vf
open Go Go.Proofs Go.RowKit Go.Lib
open Go.Proofs.Vg (Lp inside insF insFrom)
attribute [local go_sem ↓] Go.wp_at_zero Go.wp_at_succ
def isB (o : Int) : Bool := o == 13 || o == 14 || o == 21
def isE (o : Int) : Bool := o == 15 || o == 22
def begs : Nat → List Ins → List Lp
 | _, [] => []
 | k, i :: r => if isB i.o then loopX k (i.b - 1).toNat i.o i.a :: begs (k + 1) r else begs (k + 1) r
def okAt (code : List Ins) (k : Nat) (i : Ins) : Bool := match code[(i.b - 1).toNat]? with
 | some e => loopOK k i.o i.a e
 | none => false
def allOK (code : List Ins) : Nat → List Ins → Bool
 | _, [] => true
 | k, i :: r => (!isB i.o || okAt code k i) && allOK code (k + 1) r
def ends (l : List Ins) : Nat := (l.filter fun i => isE i.o).length
theorem begs_append : ∀ (a b : List Ins) (k : Nat), begs k (a ++ b) = begs k a ++ begs (k + a.length) b
 | [], b, k => rfl
 | i :: a, b, k => by
   simp only [List.cons_append, begs, List.length_cons]
   rw [begs_append a b (k + 1), show k + 1 + a.length = k + (a.length + 1) by omega]
   split <;> rfl
theorem allOK_append (code : List Ins) : ∀ (a b : List Ins) (k : Nat), allOK code k (a ++ b) = (allOK code k a && allOK code (k + a.length) b)
 | [], b, k => by simp [allOK]
 | i :: a, b, k => by
   simp only [List.cons_append, allOK, List.length_cons]
   rw [allOK_append code a b (k + 1), show k + 1 + a.length = k + (a.length + 1) by omega, Bool.and_assoc]
theorem begs_take {code : List Ins} {k : Nat} {i : Ins} (h : code[k]? = some i) : begs 0 (code.take (k + 1)) = begs 0 (code.take k) ++ (if isB i.o then [loopX k (i.b - 1).toNat i.o i.a] else []) := by
 have hlt := (List.getElem?_eq_some_iff.1 h).1
 rw [List.take_add_one, h, Option.toList_some, begs_append, List.length_take, Nat.min_eq_left (by omega), Nat.zero_add]
 simp only [begs]
theorem allOK_take {code : List Ins} {k : Nat} {i : Ins} (h : code[k]? = some i) : allOK code 0 (code.take (k + 1)) = (allOK code 0 (code.take k) && (!isB i.o || okAt code k i)) := by
 have hlt := (List.getElem?_eq_some_iff.1 h).1
 rw [List.take_add_one, h, Option.toList_some, allOK_append, List.length_take, Nat.min_eq_left (by omega), Nat.zero_add]
 simp only [allOK, Bool.and_true]
theorem ends_take {code : List Ins} {k : Nat} {i : Ins} (h : code[k]? = some i) : ends (code.take (k + 1)) = ends (code.take k) + (if isE i.o then 1 else 0) := by
 rw [List.take_add_one, h, Option.toList_some]
 unfold ends
 rw [List.filter_append, List.length_append]
 congr 1
 simp only [List.filter_cons, List.filter_nil]
 split <;> rfl
theorem allOK_mono {code : List Ins} {k : Nat} (h : allOK code 0 (code.take k) = false) : allOK code 0 code = false := by
 have := allOK_append code (code.take k) (code.drop k) 0
 rw [List.take_append_drop, h] at this
 simpa using this
theorem begs_len : ∀ (l : List Ins) (k : Nat), (begs k l).length ≤ l.length
 | [], _ => Nat.le_refl _
 | i :: l, k => by
   unfold begs
   have := begs_len l (k + 1)
   split <;> simp only [List.length_cons] <;> omega
theorem begs_mem : ∀ (l : List Ins) (k : Nat) (x : Lp), x ∈ begs k l → k ≤ x.fr ∧ ∃ i, l[x.fr - k]? = some i ∧ isB i.o = true ∧ x = loopX x.fr (i.b - 1).toNat i.o i.a
 | [], _, _, h => by cases h
 | i :: l, k, x, h => by
   unfold begs at h
   have next : x ∈ begs (k + 1) l → k ≤ x.fr ∧ ∃ j, (i :: l)[x.fr - k]? = some j ∧ isB j.o = true ∧ x = loopX x.fr (j.b - 1).toNat j.o j.a := fun hm => by
    obtain ⟨h1, j, h2, h3, h4⟩ := begs_mem l (k + 1) x hm
    exact ⟨by omega, j, by rw [show x.fr - k = (x.fr - (k + 1)) + 1 by omega]; simpa using h2, h3, h4⟩
   split at h
   · rename_i hb
     rcases List.mem_cons.1 h with rfl | h
     · have hf : (loopX k (i.b - 1).toNat i.o i.a).fr = k := by unfold loopX; split <;> rfl
       rw [hf]
       exact ⟨Nat.le_refl _, i, by simp, hb, rfl⟩
     · exact next h
   · exact next h
theorem begs_up : ∀ (l : List Ins) (k : Nat), (begs k l).Pairwise fun x y => x.fr < y.fr
 | [], _ => .nil
 | i :: l, k => by
   unfold begs
   split
   · refine List.pairwise_cons.2 ⟨fun y hy => ?_, begs_up l (k + 1)⟩
     have := (begs_mem l (k + 1) y hy).1
     have hf : (loopX k (i.b - 1).toNat i.o i.a).fr = k := by unfold loopX; split <;> rfl
     omega
   · exact begs_up l (k + 1)
def lps (l : List Lp) : List Value := l.flatMap lpC
theorem lps_len : ∀ l : List Lp, (lps l).length = l.length * 6
 | [] => rfl
 | x :: l => by
   have := lps_len l
   unfold lps at this ⊢
   rw [List.flatMap_cons, List.length_append, this]
   show 6 + l.length * 6 = (l.length + 1) * 6
   omega
theorem lps_get : ∀ (l : List Lp) (j i : Nat) (x : Lp), l[j]? = some x → i < 6 → (lps l)[j * 6 + i]? = (lpC x)[i]?
 | y :: l, 0, i, x, hx, hi => by
   unfold lps
   rw [List.flatMap_cons, List.getElem?_append_left (by show _ < 6; omega)]
   simp at hx; subst hx; simp
 | y :: l, j + 1, i, x, hx, hi => by
   have := lps_get l j i x (by simpa using hx) hi
   unfold lps at this ⊢
   rw [List.flatMap_cons, List.getElem?_append_right (by show 6 ≤ _; omega)]
   rw [show (j + 1) * 6 + i - (lpC y).length = j * 6 + i by show (j + 1) * 6 + i - 6 = _; omega]
   exact this
theorem owns_lps {w : World} {B e : Nat} {v : Value} {l : List Lp} (h : w.ownsRow B e 6 v l.length (lps l)) (hn : l.length ≤ 9223372036854775807) : ∃ s : Sl, v = .slice s.a s.n s.c ∧ Lst w s 6 lpC l := by
 rcases h.2 with ⟨rfl, h0⟩ | ⟨g, cap, cur, rfl, hB, hg, hc, _, hs, ht⟩
 · refine ⟨⟨none, 0, 0⟩, rfl, h0.symm, by show 0 ≤ _; omega, fun i x hx => ?_⟩
   have := (List.getElem?_eq_some_iff.1 hx).1
   omega
 · refine ⟨⟨some ⟨g, 0, none⟩, l.length, cap⟩, rfl, rfl, hn, fun i x hx => ⟨g, 0, rfl, (Array.getElem?_eq_some_iff.1 hg).1, fun j hj => ?_⟩⟩
   have hi := (List.getElem?_eq_some_iff.1 hx).1
   have h1 := lps_get l i j x hx hj
   rw [← ht, List.getElem?_take] at h1
   have h6 : i * 6 + j < l.length * 6 := by omega
   rw [if_pos h6] at h1
   show w.cell? ⟨g, 0 + i * 6 + j, none⟩ = _
   rw [Nat.zero_add, blk_cell hg]
   simpa using h1
end Go.Proofs.Vf
