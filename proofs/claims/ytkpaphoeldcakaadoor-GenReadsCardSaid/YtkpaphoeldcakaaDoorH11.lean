/- GenReads, by hand: part H11. -/
import Derived.Test.YtkpaphoeldcakaaDoorH10
import Derived.Deep.CutBlock
namespace Go.Proofs.YtkpaphoeldcakaaDoor.Gr
open Go Go.Proofs Go.RowKit Go.Lib
/-- What is asked of a part. -/
def Part (srcn : Nat) (e : Ev) : Prop := (e.k = 13 → 0 ≤ e.a ∧ e.a < srcn) ∧ e.kids.n ≤ 1000000
/-- An expression of at most f levels is put as it should. -/
def ExprOK (P : Int → Prop) (B : Nat) (src : Sl) (W0 : World) (f : Nat) : Prop :=
  ∀ (ev : Ev), Tr W0 B (Part src.n) f ev → ∀ (mb : Nat) (m : Mk) (xs : List Con) (ys : List Ins) (tt free : Int) (w : World), MkAt w mb B m xs ys → m.src = src → Below B W0 w →
    (m.bad = 0 → P tt ∧ -9223372036854775808 ≤ tt) → (m.bad = 0 → tt < 250 → 0 ≤ free ∧ free < 9223372036854775808 ∧ ∀ r, free ≤ r → P r) →
    Calls Tryd.prog 16 #[mp mb, ev.v, .int .i64 tt, .int .i64 free] w fun e w' => e = .returned (.tuple #[]) ∧ Fin P mb B m xs ys w w'
theorem Fin.of_below {P : Int → Prop} {mb B : Nat} {m : Mk} {xs : List Con} {ys : List Ins} {w w' : World} (h : MkAt w mb B m xs ys) (hb : Below w.heap.size w w') : Fin P mb B m xs ys w w' :=
  ⟨m, xs, ys, Grow.refl _ _ _ _, h.below hb, Fr.of_below hb (Nat.le_refl _)⟩
/-- need, on the way: other blocks of expressions stand. -/
theorem St.need2 {P : Int → Prop} {mb B : Nat} {m m1 : Mk} {xs xs1 : List Con} {ys ys1 : List Ins} {b : Nat} {vals : Array Value} {w W : World} (h : St P mb B m xs ys b vals w W m1 xs1 ys1) (r : Int) (hr : -9223372036854775808 ≤ r) (hP : m1.bad = 0 → P r)
    {b' : Nat} {vals' : Array Value} (h' : W.heap[b']? = some (.cells vals' 33)) :
    Calls Tryd.prog 26 #[mp mb, .int .i64 r] W fun e w' => ∃ q, e = .returned (.int .i64 q) ∧ ∃ m2, St P mb B m xs ys b vals w w' m2 xs1 ys1 ∧ Has m2 P q ∧ Grow P m1 xs1 ys1 m2 xs1 ys1 ∧ (m2.bad = 0 → q = r ∧ r < 250) ∧ w'.heap[b']? = some (.cells vals' 33) := by
  refine (need_any mb B m1 xs1 ys1 r W h.maker).mono ?_
  rintro e w' ⟨rfl, hm, hf⟩
  obtain ⟨hg, hh⟩ := needed_grow P m1 xs1 ys1 r hr
  refine ⟨_, rfl, _, h.on hg hm hf, fun hb => ?_, hg, fun hb => ?_, h.maker.stand hf h' (by decide) (by decide) (by decide)⟩
  · obtain ⟨h1, h2⟩ := hh hb
    rw [if_neg (by omega)]
    exact ⟨hP (hg.good hb).1, h2⟩
  · obtain ⟨h1, h2⟩ := hh hb
    rw [if_neg (by omega)]
    exact ⟨rfl, h1⟩

set_option maxHeartbeats 1000000 in
set_option maxRecDepth 100000 in
theorem expr_off (P : Int → Prop) (mb B : Nat) (m : Mk) (xs : List Con) (ys : List Ins) (ev : Ev) (tt free : Int) (w : World) (h : MkAt w mb B m xs ys) (hb0 : m.bad ≠ 0) :
    Calls Tryd.prog 16 #[mp mb, ev.v, .int .i64 tt, .int .i64 free] w fun e w' => e = .returned (.tuple #[]) ∧ Fin P mb B m xs ys w w' := by
  have hd : (m.bad == 0) = false := by simp [hb0]
  have hst := St.start P h ev.cells
  have c1 := blk_cell hst.maker.at_
  clear hb0
  go_enter Tryd.func16, Tryd.ntmps16
  go_wp2
  refine bodyPost_ret (results_none rfl _ _ _) rfl ?_
  exact ⟨rfl, hst.fin⟩

set_option maxHeartbeats 1000000 in
set_option maxRecDepth 100000 in
theorem expr_leaf (P : Int → Prop) (mb B : Nat) (m : Mk) (xs : List Con) (ys : List Ins) (ev : Ev) (tt free : Int) (w : World) (h : MkAt w mb B m xs ys) (hb0 : m.bad = 0) (hn : ev.kids.n = 0)
    (hsrc : Src w B m.src) (hq : ev.k = 13 → 0 ≤ ev.a ∧ ev.a < m.src.n) (hP : P tt) (htg : -9223372036854775808 ≤ tt) :
    Calls Tryd.prog 16 #[mp mb, ev.v, .int .i64 tt, .int .i64 free] w fun e w' => e = .returned (.tuple #[]) ∧ Fin P mb B m xs ys w w' := by
  have hd : (m.bad == 0) = true := by simp [hb0]
  have hst := St.start P h ev.cells
  have c1 := blk_cell hst.maker.at_
  have HQ := Lib.hid hq
  have HB := Lib.hid hb0
  have HP := Lib.hid hP
  obtain ⟨k, s, t, n, a, ⟨ka, kn, kc⟩⟩ := ev
  simp only at hn
  subst hn
  clear hb0 hq hP
  go_enter Tryd.func16, Tryd.ntmps16
  go_wp2_with (first
    | (go_at_call 26
       refine (hst.need tt htg (fun _ => HP.out)).mono ?_
       rintro e w2 ⟨q1, rfl, m2, hst2, hq1, hg2, hr2⟩
       have c2 := blk_cell hst2.own)
    | (go_at_call 27
       refine (leaf_all P mb B m2 xs ys ⟨k, s, t, n, a, ⟨ka, 0, kc⟩⟩ tt _ hst2.maker HP.out (fun hb => by have h1 := hq1 hb; rw [(hr2 hb).1] at h1; exact h1.2)
         (by rw [hg2.same.2.2.2.2.2.2.1]; exact hsrc.on (h.fr_below hst2.fr)) (by rw [hg2.same.2.2.2.2.2.2.1]; exact HQ.out)).mono ?_
       rintro e w3 ⟨rfl, m3, xs3, ys3, hg3, hm3, hf3⟩))
  refine bodyPost_ret (results_none rfl _ _ _) rfl ?_
  exact ⟨rfl, _, _, _, hg2.trans hg3, hm3, hst2.fr.trans hf3⟩
end Go.Proofs.YtkpaphoeldcakaaDoor.Gr
