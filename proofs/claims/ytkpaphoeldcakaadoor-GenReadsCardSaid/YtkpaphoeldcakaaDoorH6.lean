/- GenReads, by hand: part H6. -/
import Derived.Test.YtkpaphoeldcakaaDoorH5
namespace Go.Proofs.YtkpaphoeldcakaaDoor.Gr
open Go Go.Proofs Go.RowKit Go.Lib
def okOp (o : Int) : Prop := o = 1 ∨ o = 2 ∨ o = 3 ∨ o = 4 ∨ o = 5 ∨ o = 6 ∨ o = 7 ∨ o = 8 ∨ o = 18
def Same0 (m m' : Mk) : Prop := m'.ver = m.ver ∧ m'.binds = m.binds ∧ m'.names = m.names ∧ m'.curs = m.curs ∧ m'.sorts = m.sorts ∧ m'.tots = m.tots ∧ m'.src = m.src ∧ m'.keys = m.keys ∧ m'.tot = m.tot
theorem Same0.refl (m : Mk) : Same0 m m := ⟨rfl, rfl, rfl, rfl, rfl, rfl, rfl, rfl, rfl⟩
theorem Same0.trans {a b c : Mk} (h : Same0 a b) (k : Same0 b c) : Same0 a c := by
  obtain ⟨h1, h2, h3, h4, h5, h6, h7, h8, h9⟩ := h
  obtain ⟨k1, k2, k3, k4, k5, k6, k7, k8, k9⟩ := k
  exact ⟨k1.trans h1, k2.trans h2, k3.trans h3, k4.trans h4, k5.trans h5, k6.trans h6, k7.trans h7, k8.trans h8, k9.trans h9⟩
/-- What putting code does: while nothing has failed, more instructions stand behind, each one right; the registers that P allows. -/
structure Grow (P : Int → Prop) (m : Mk) (xs : List Con) (ys : List Ins) (m' : Mk) (xs' : List Con) (ys' : List Ins) : Prop where
  same : Same0 m m'
  good : m'.bad = 0 → m.bad = 0 ∧ m.regs ≤ m'.regs ∧ m'.regs ≤ max m.regs 250 ∧ ∃ cs zs, xs' = xs ++ cs ∧ ys' = ys ++ zs ∧ ∀ z ∈ zs, okOp z.o ∧ P z.a ∧ z.a < m'.regs
theorem Grow.refl (P : Int → Prop) (m : Mk) (xs : List Con) (ys : List Ins) : Grow P m xs ys m xs ys :=
  ⟨Same0.refl m, fun h => ⟨h, Int.le_refl _, by omega, [], [], by simp, by simp, by simp⟩⟩
theorem Grow.trans {P : Int → Prop} {m1 m2 m3 : Mk} {xs1 xs2 xs3 : List Con} {ys1 ys2 ys3 : List Ins} (h : Grow P m1 xs1 ys1 m2 xs2 ys2) (k : Grow P m2 xs2 ys2 m3 xs3 ys3) : Grow P m1 xs1 ys1 m3 xs3 ys3 := by
  refine ⟨h.same.trans k.same, fun hb => ?_⟩
  obtain ⟨k1, k2, k3, cs2, zs2, rfl, rfl, k6⟩ := k.good hb
  obtain ⟨h1, h2, h3, cs, zs, rfl, rfl, h6⟩ := h.good k1
  refine ⟨h1, by omega, by omega, cs ++ cs2, zs ++ zs2, by simp, by simp, fun z hz => ?_⟩
  rcases List.mem_append.1 hz with hz | hz
  · obtain ⟨a, b, c⟩ := h6 z hz
    exact ⟨a, b, by omega⟩
  · exact k6 z hz
theorem Grow.mono {P Q : Int → Prop} {m1 m2 : Mk} {xs1 xs2 : List Con} {ys1 ys2 : List Ins} (h : Grow P m1 xs1 ys1 m2 xs2 ys2) (hpq : m2.bad = 0 → ∀ a, P a → Q a) : Grow Q m1 xs1 ys1 m2 xs2 ys2 := by
  refine ⟨h.same, fun hb => ?_⟩
  obtain ⟨h1, h2, h3, cs, zs, h4, h5, h6⟩ := h.good hb
  exact ⟨h1, h2, h3, cs, zs, h4, h5, fun z hz => ⟨(h6 z hz).1, hpq hb _ (h6 z hz).2.1, (h6 z hz).2.2⟩⟩
theorem Grow.fail (P : Int → Prop) (m : Mk) (xs : List Con) (ys xs' : List Ins) (xs'' : List Con) : Grow P m xs ys m.failed xs'' xs' :=
  ⟨⟨rfl, rfl, rfl, rfl, rfl, rfl, rfl, rfl, rfl⟩, fun hb => absurd hb m.failed_bad⟩
theorem Put.grow {P : Int → Prop} {m m' : Mk} {ys ys' : List Ins} {i : Ins} (h : Put m ys i m' ys') (xs : List Con) (ho : okOp i.o) (hP : m.bad = 0 → P i.a) (hr : m.bad = 0 → i.a < m.regs) : Grow P m xs ys m' xs ys' := by
  rcases h with ⟨rfl, rfl⟩ | ⟨s, rfl, rfl⟩
  · exact Grow.fail _ _ _ _ _ _
  · refine ⟨⟨rfl, rfl, rfl, rfl, rfl, rfl, rfl, rfl, rfl⟩, fun hb => ⟨hb, Int.le_refl _, Int.le_max_left _ _, [], [i], by simp, rfl, fun z hz => ?_⟩⟩
    obtain rfl := List.mem_singleton.1 hz
    exact ⟨ho, hP hb, hr hb⟩
theorem Stp.grow {P : Int → Prop} {m m' : Mk} {ys ys' : List Ins} {i : Ins} (h : Stp m ys i m' ys') (xs : List Con) (ho : okOp i.o) (hP : m.bad = 0 → P i.a) (hr : m.bad = 0 → i.a < m.regs) : Grow P m xs ys m' xs ys' := by
  rcases h with ⟨rfl, rfl⟩ | h
  · exact Grow.refl _ _ _ _
  · exact h.grow xs ho hP hr
theorem Cst.grow {P : Int → Prop} {m m' : Mk} {xs xs' : List Con} (h : Cst m xs m' xs') (ys : List Ins) : Grow P m xs ys m' xs' ys := by
  rcases h with ⟨rfl, rfl⟩ | ⟨rfl, rfl⟩ | ⟨s, x, rfl, rfl⟩
  · exact Grow.refl _ _ _ _
  · exact Grow.fail _ _ _ _ _ _
  · exact ⟨⟨rfl, rfl, rfl, rfl, rfl, rfl, rfl, rfl, rfl⟩, fun hb => ⟨hb, Int.le_refl _, Int.le_max_left _ _, [x], [], rfl, by simp, by simp⟩⟩
theorem Cst.regs {m m' : Mk} {xs xs' : List Con} (h : Cst m xs m' xs') : m'.regs = m.regs ∧ (m'.bad = 0 → m.bad = 0) := by
  rcases h with ⟨rfl, rfl⟩ | ⟨rfl, rfl⟩ | ⟨s, x, rfl, rfl⟩
  · exact ⟨rfl, id⟩
  · exact ⟨rfl, fun h => absurd h m.failed_bad⟩
  · exact ⟨rfl, id⟩
theorem needed_grow (P : Int → Prop) (m : Mk) (xs : List Con) (ys : List Ins) (r : Int) (hr : -9223372036854775808 ≤ r) :
    Grow P m xs ys (m.needed r) xs ys ∧ ((m.needed r).bad = 0 → r < 250 ∧ r < (m.needed r).regs) := by
  unfold Mk.needed
  split
  · exact ⟨Grow.fail _ _ _ _ _ _, fun h => absurd h m.failed_bad⟩
  · have hw : wrap64 (r + 1) = r + 1 := by unfold wrap64; omega
    refine ⟨⟨⟨rfl, rfl, rfl, rfl, rfl, rfl, rfl, rfl, rfl⟩, fun hb => ⟨hb, ?_, ?_, [], [], by simp, by simp, by simp⟩⟩, fun _ => ⟨by omega, ?_⟩⟩ <;> simp only [hw] <;> omega

/-- The end of a callee's: the maker as it stands then. -/
def Fin (P : Int → Prop) (mb B : Nat) (m : Mk) (xs : List Con) (ys : List Ins) (w w' : World) : Prop :=
  ∃ m' xs' ys', Grow P m xs ys m' xs' ys' ∧ MkAt w' mb B m' xs' ys' ∧ Fr w w' (m.has mb) (m'.has mb)

/-- An expression's own cells. -/
structure Ev where
  (k : Int) (s t : ByteArray) (n a : Int) (kids : Sl)
abbrev Ev.v (e : Ev) : Value := .agg #[.int .u8 e.k, .string e.s, .string e.t, .int .i64 e.n, .int .i64 e.a, .slice e.kids.a e.kids.n e.kids.c]
abbrev Ev.cells (e : Ev) : Array Value := #[.int .u8 e.k, .string e.s, .string e.t, .int .i64 e.n, .int .i64 e.a, .slice e.kids.a e.kids.n e.kids.c]
abbrev W3 (mb : Nat) (e : Ev) (to : Int) (w : World) : World := ((w.alloc (.cells #[mp mb] 64)).alloc (.cells e.cells 33)).alloc (.cells #[.int .i64 to] 3)
theorem W3_facts (mb : Nat) (e : Ev) (to : Int) (w : World) : Below w.heap.size w (W3 mb e to w) ∧ (W3 mb e to w).heap.size = w.heap.size + 3 ∧ (W3 mb e to w).heap[w.heap.size]? = some (.cells #[mp mb] 64) ∧ (W3 mb e to w).heap[w.heap.size + 1]? = some (.cells e.cells 33) ∧ (W3 mb e to w).heap[w.heap.size + 2]? = some (.cells #[.int .i64 to] 3) := by
  refine ⟨((((Below.refl _ w).alloc (Nat.le_refl _) _).alloc (by rw [heap_size_alloc]; omega) _).alloc (by rw [heap_size_alloc, heap_size_alloc]; omega) _), ?_, ?_, ?_, ?_⟩
  · rw [heap_size_alloc, heap_size_alloc, heap_size_alloc]
  all_goals show (((w.heap.push _).push _).push _)[_]? = _
  · rw [Array.getElem?_push, Array.getElem?_push, Array.getElem?_push]; simp; omega
  · rw [Array.getElem?_push, Array.getElem?_push]; simp
  · rw [Array.getElem?_push]; simp

theorem leaf_facts (P : Int → Prop) (mb B : Nat) (m : Mk) (xs : List Con) (ys : List Ins) (ev : Ev) (to : Int) (w : World) (h : MkAt w mb B m xs ys) (hP : P to) (hr : m.bad = 0 → to < m.regs) :
    (∀ (k n : Int) (s : ByteArray), Calls Tryd.prog 41 #[.agg #[.int .u8 k, .int .i64 n, .string s], .pointer (some ⟨w.heap.size, 0, none⟩), .pointer (some ⟨w.heap.size + 1 + 1, 0, none⟩)] (W3 mb ev to w) fun e w' => e = .returned (.tuple #[]) ∧ Fin P mb B m xs ys w w') ∧
    (∀ (r : Int) (W : World), Below (w.heap.size + 3) (W3 mb ev to w) W → Calls Tryd.prog 42 #[.int .i64 r, .pointer (some ⟨w.heap.size + 1 + 1, 0, none⟩), .pointer (some ⟨w.heap.size, 0, none⟩)] W fun e w' => e = .returned (.tuple #[]) ∧ Fin P mb B m xs ys w w') ∧
    (∀ (o a b c d : Int) (W : World), okOp o → a = to → Below (w.heap.size + 3) (W3 mb ev to w) W → Calls Tryd.prog 28 #[mp mb, .agg #[.int .u8 o, .int .i64 a, .int .i64 b, .int .i64 c, .int .i64 d]] W fun e w' => e = .returned (.tuple #[]) ∧ Fin P mb B m xs ys w w') ∧ Fin P mb B m xs ys w (W3 mb ev to w) ∧ (∀ j, (W3 mb ev to w).cell? ⟨mb, j, none⟩ = m.cells[j]?) := by
  obtain ⟨hb0, hs, ha1, ha2, ha3⟩ := W3_facts mb ev to w
  have hK : ∀ (k n : Int) (s : ByteArray), Calls Tryd.prog 41 #[.agg #[.int .u8 k, .int .i64 n, .string s], .pointer (some ⟨w.heap.size, 0, none⟩), .pointer (some ⟨w.heap.size + 1 + 1, 0, none⟩)] (W3 mb ev to w) fun e w' => e = .returned (.tuple #[]) ∧ Fin P mb B m xs ys w w' := by
    intro k n s
    refine (leaf_const mb B w.heap.size (w.heap.size + 2) m xs ys ⟨k, n, s⟩ to _ (h.below hb0) ha1 ha3).mono ?_
    rintro e w' ⟨rfl, c, m1, xs', m', ys', hc, hp, hm, hf⟩
    exact ⟨rfl, m', xs', ys', (hc.grow ys).trans (hp.grow xs' (.inl rfl) (fun _ => hP) (fun hb => hc.regs.1 ▸ hr (hc.regs.2 hb))), hm, (Fr.of_below hb0 (Nat.le_refl _)).trans hf⟩
  have hM : ∀ (r : Int) (W : World), Below (w.heap.size + 3) (W3 mb ev to w) W → Calls Tryd.prog 42 #[.int .i64 r, .pointer (some ⟨w.heap.size + 1 + 1, 0, none⟩), .pointer (some ⟨w.heap.size, 0, none⟩)] W fun e w' => e = .returned (.tuple #[]) ∧ Fin P mb B m xs ys w w' := by
    intro r W hW
    have hb1 := hb0.trans (hW.mono (by omega))
    refine (leaf_move mb B (w.heap.size + 2) w.heap.size m xs ys r to _ (h.below hb1) ((hW.block _ (by omega)).trans ha3) ((hW.block _ (by omega)).trans ha1)).mono ?_
    rintro e w' ⟨rfl, m', ys', hp, hm, hf⟩
    exact ⟨rfl, m', xs, ys', hp.grow xs (.inr (.inr (.inl rfl))) (fun _ => hP) hr, hm, (Fr.of_below hb1 (Nat.le_refl _)).trans hf⟩
  have hU : ∀ (o a b c d : Int) (W : World), okOp o → a = to → Below (w.heap.size + 3) (W3 mb ev to w) W → Calls Tryd.prog 28 #[mp mb, .agg #[.int .u8 o, .int .i64 a, .int .i64 b, .int .i64 c, .int .i64 d]] W fun e w' => e = .returned (.tuple #[]) ∧ Fin P mb B m xs ys w w' := by
    rintro o a b c d W ho rfl hW
    have hb1 := hb0.trans (hW.mono (by omega))
    refine (put_any mb B m xs ys ⟨o, a, b, c, d⟩ _ (h.below hb1)).mono ?_
    rintro e w' ⟨rfl, m', ys', hp, hm, hf⟩
    exact ⟨rfl, m', xs, ys', hp.grow xs ho (fun _ => hP) hr, hm, (Fr.of_below hb1 (Nat.le_refl _)).trans hf⟩
  exact ⟨hK, hM, hU, ⟨m, xs, ys, Grow.refl _ _ _ _, h.below hb0, Fr.of_below hb0 (Nat.le_refl _)⟩, blk_cell ((hb0.block mb (h.has_lt (.inl rfl))).trans h.at_)⟩

set_option maxHeartbeats 2000000 in
set_option maxRecDepth 100000 in
theorem leaf_any (P : Int → Prop) (mb B : Nat) (m : Mk) (xs : List Con) (ys : List Ins) (ev : Ev) (to : Int) (w : World) (h : MkAt w mb B m xs ys) (hP : P to) (hr : m.bad = 0 → to < m.regs) (hk : ev.k ≠ 13) :
    Calls Tryd.prog 27 #[mp mb, ev.v, .int .i64 to] w fun e w' => e = .returned (.tuple #[]) ∧ Fin P mb B m xs ys w w' := by
  have hmf : ∀ (fn : Fn) (first cap : Array Value) (w : World), (Instr.makeFunc fn first cap).run Tryd.prog w = .ok (.func fn first cap) w := fun _ _ _ _ => rfl
  obtain ⟨hK, hM, hU, hE, c1⟩ := leaf_facts P mb B m xs ys ev to w h hP hr
  have hmb : mb < w.heap.size := h.has_lt (.inl rfl)
  obtain ⟨k, s, t, n, a, kids⟩ := ev
  by_cases k1 : k = 1
  · subst k1
    go_enter Tryd.func27, Tryd.ntmps27
    go_wp2_with (first | (go_at_call 41; refine (hK _ _ _).mono ?_; rintro e w2 ⟨rfl, hfin⟩))
    refine bodyPost_end (results_none rfl _ _ _) rfl ?_
    exact ⟨rfl, hfin⟩
  by_cases k2 : k = 2
  · subst k2
    go_enter Tryd.func27, Tryd.ntmps27
    go_wp2_with (first | (go_at_call 41; refine (hK _ _ _).mono ?_; rintro e w2 ⟨rfl, hfin⟩))
    refine bodyPost_end (results_none rfl _ _ _) rfl ?_
    exact ⟨rfl, hfin⟩
  by_cases k3 : k = 3
  · subst k3
    go_enter Tryd.func27, Tryd.ntmps27
    go_wp2_with (first | (go_at_call 41; refine (hK _ _ _).mono ?_; rintro e w2 ⟨rfl, hfin⟩))
    refine bodyPost_end (results_none rfl _ _ _) rfl ?_
    exact ⟨rfl, hfin⟩
  by_cases k4 : k = 4
  · subst k4
    go_enter Tryd.func27, Tryd.ntmps27
    go_wp2_with (first | (go_at_call 41; refine (hK _ _ _).mono ?_; rintro e w2 ⟨rfl, hfin⟩))
    refine bodyPost_end (results_none rfl _ _ _) rfl ?_
    exact ⟨rfl, hfin⟩
  by_cases k5 : k = 5
  · subst k5
    go_enter Tryd.func27, Tryd.ntmps27
    go_wp2_with (first | (go_at_call 28; refine (hU _ _ _ _ _ _ (.inr (.inl rfl)) rfl (Below.refl _ _)).mono ?_; rintro e w2 ⟨rfl, hfin⟩))
    refine bodyPost_end (results_none rfl _ _ _) rfl ?_
    exact ⟨rfl, hfin⟩
  by_cases k15 : k = 15
  · subst k15
    go_enter Tryd.func27, Tryd.ntmps27
    go_wp2
    go_region_with (first | (go_at_call 42; refine (hM _ _ (Below.refl _ _).drew).mono ?_; rintro e w2 ⟨rfl, hfin⟩))
    all_goals go_wp2
    all_goals refine bodyPost_end (results_none rfl _ _ _) rfl ?_
    all_goals exact ⟨rfl, hfin⟩
  by_cases k14 : k = 14
  · subst k14
    go_enter Tryd.func27, Tryd.ntmps27
    go_wp2
    go_region_with (first | (go_at_call 42; refine (hM _ _ (Below.refl _ _).drew).mono ?_; rintro e w2 ⟨rfl, hfin⟩))
    all_goals go_wp2
    all_goals refine bodyPost_end (results_none rfl _ _ _) rfl ?_
    all_goals exact ⟨rfl, hfin⟩
  have hk13 : k ≠ 13 := hk
  go_enter Tryd.func27, Tryd.ntmps27
  go_wp2
  refine bodyPost_end (results_none rfl _ _ _) rfl ?_
  exact ⟨rfl, hE⟩
end Go.Proofs.YtkpaphoeldcakaaDoor.Gr
