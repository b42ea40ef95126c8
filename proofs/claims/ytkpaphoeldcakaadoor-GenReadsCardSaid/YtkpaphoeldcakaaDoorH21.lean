/- GenReads, by hand: part H21. -/
import Derived.Test.YtkpaphoeldcakaaDoorH20
namespace Go.Proofs.YtkpaphoeldcakaaDoor.Gr
open Go Go.Proofs Go.RowKit Go.Lib
attribute [local go_sem ↓] Go.wp_at_zero Go.wp_at_succ
/-- It has not too many kids. -/
def Sm (e : Ev) : Prop := e.kids.n ≤ 1000000
/-- What small gives: the counter goes down; true tells that all is small. -/
def Smd (W0 : World) (B f : Nat) (a : Option Addr) (n : Nat) (nb : Nat) (N : Int) (W : World) (e : Ending) (w' : World) : Prop :=
  ∃ b N', e = .returned (.bool b) ∧ w'.heap[nb]? = some (.cells #[.int .i64 N'] 3) ∧ Below nb W w' ∧ (b = true → 0 ≤ N' ∧ N' + n ≤ N ∧ KidsOK W0 B Sm f a n)
def SmallOK (W0 : World) (B f : Nat) : Prop :=
  ∀ (a : Option Addr) (n c : Nat) (lv : Int) (nb : Nat) (N : Int) (W : World), KidsOK W0 B Len f a n → n ≤ 9223372036854775807 → Below B W0 W → B ≤ nb → W.heap[nb]? = some (.cells #[.int .i64 N] 3) → 0 ≤ N → N ≤ 500 →
    Calls Tryd.prog 20 #[.slice a n c, .int .i64 lv, .pointer (some ⟨nb, 0, none⟩)] W fun e w' => Smd W0 B f a n nb N W e w'
set_option maxHeartbeats 4000000 in
set_option maxRecDepth 100000 in
theorem small_step (W0 : World) (B f : Nat) (ih : ∀ f', f = f' + 1 → SmallOK W0 B f') : SmallOK W0 B f := by
  intro a n c lv nb N W ht hn hbw hB hnb hN0 hN5
  have hlt : nb < W.heap.size := (Array.getElem?_eq_some_iff.1 hnb).1
  have HT := Lib.hid ht
  have HI := Lib.hid ih
  have HNB := Lib.hid hnb
  clear ht ih hnb
  go_enter Tryd.func20, Tryd.ntmps20
  go_wp2
  go_loopg [7] n (fun lft i wr => ∃ (kk : Nat) (M : Int), kk + lft = n ∧ i = .int .i64 kk ∧ 0 ≤ M ∧ M + kk ≤ N ∧ Hid (wr.heap[nb]? = some (.cells #[.int .i64 M] 3) ∧ Below nb W wr ∧ KidsOK W0 B Sm f a kk))
  case atStart => exact ⟨0, N, by omega, rfl, hN0, by omega, Lib.hid ⟨HNB.out, Below.refl _ _, fun i hi => by omega⟩⟩
  case round =>
    obtain ⟨kk, M, hl, rfl, hM0, hM, hst⟩ := hrel
    by_cases hlk : kk < n
    · have hlt' : ((kk : Int) < (n : Int)) = True := by simp; omega
      obtain ⟨g, o, e', rfl, hg, h6, htr⟩ := HT.out kk hlk
      obtain ⟨f', rfl⟩ : ∃ f', f = f' + 1 := by
        cases f with
        | zero => exact htr.elim
        | succ f' => exact ⟨_, rfl⟩
      have hbr : Below B W0 wr := hbw.trans (hst.out.2.1.mono hB)
      have d := h6.on hbr hg
      obtain ⟨k', s', t', n', a', ⟨ka, kn, kc⟩⟩ := e'
      have m0 := blk_cell hst.out.1
      have m1 := blk_frozen hst.out.1
      have hne : nb ≠ g := by omega
      have hne2 : g ≠ nb := by omega
      have d1 : wr.cell? ⟨g, o + kk * 6 + 1, none⟩ = some (.string s') := d.c1
      have d5 : wr.cell? ⟨g, o + kk * 6 + 5, none⟩ = some (.slice ka kn kc) := d.c5
      have hset : (wr.setCell ⟨nb, 0, none⟩ (.int .i64 (M - 1))).heap[nb]? = some (.cells #[.int .i64 (M - 1)] 3) := (heap_setCell_same _ _ _ _ _ _ hst.out.1).trans rfl
      have hsb : Below nb W (wr.setCell ⟨nb, 0, none⟩ (.int .i64 (M - 1))) := hst.out.2.1.setCell (Nat.le_refl nb) _
      have HSET := Lib.hid hset
      have HSB := Lib.hid hsb
      clear hset hsb d
      by_cases hm : M - 1 < 0
      · have hm' : (M < 1) = True := by simp; omega
        have hm2 : (M - 1 < 0) = True := by simp; omega
        clear hm
        go_wp2
        go_ret
        exact ⟨false, _, rfl, HSET.out, HSB.out, fun h => by cases h⟩
      · have hm' : (M < 1) = False := by simp; omega
        have hm2 : (M - 1 < 0) = False := by simp; omega
        have hm3 : 0 ≤ M - 1 := by omega
        have HM3 := Lib.hid hm3
        clear hm hm3
        by_cases hv : lv = 0
        · have hv' : (lv == 0) = true := by simp [hv]
          clear hv
          go_wp2
          go_ret
          exact ⟨false, _, rfl, HSET.out, HSB.out, fun h => by cases h⟩
        · have hv' : (lv == 0) = false := by simp [hv]
          clear hv
          go_wp2_with (first
            | (go_at_call 20
               refine (HI.out f' rfl ka kn kc _ nb (M - 1) _ htr.2 htr.1 (hbw.trans (HSB.out.mono hB)) hB HSET.out HM3.out (by omega)).mono ?_
               rintro e w5 ⟨b, N', rfl, hn5, hb5, hr5⟩))
          all_goals first
            | (go_ret; exact ⟨false, _, rfl, HSET.out, HSB.out, fun h => by cases h⟩)
            | (go_ret; exact ⟨false, _, rfl, hn5, HSB.out.trans hb5, fun h => by cases h⟩)
            | skip
          all_goals
            have hbt : b = true := by first | assumption | (cases b <;> simp_all)
            obtain ⟨q1, q2, q3⟩ := hr5 hbt
            go_roundg (n - kk - 1)
            case measure => omega
            case rel => exact ⟨kk + 1, N', by omega, by first | rfl | go_num, q1, by omega, Lib.hid ⟨hn5, HSB.out.trans hb5, fun i hi => by
              by_cases hi2 : i < kk
              · exact hst.out.2.2 i hi2
              · obtain rfl : i = kk := by omega
                exact ⟨g, o, _, rfl, hg, h6, ⟨show kn ≤ 1000000 by omega, q3⟩⟩⟩⟩
    · have hlt' : ((kk : Int) < (n : Int)) = False := by simp; omega
      have hnn : n = kk := by omega
      subst hnn
      go_wp2
      go_ret
      exact ⟨true, M, rfl, hst.out.1, hst.out.2.1, fun _ => ⟨hM0, hM, hst.out.2.2⟩⟩
theorem small_ok (W0 : World) (B : Nat) : ∀ f, SmallOK W0 B f
  | 0 => small_step W0 B 0 fun f' h => by omega
  | f + 1 => small_step W0 B (f + 1) fun f' h => by
    obtain rfl : f' = f := by omega
    exact small_ok W0 B f'
set_option maxHeartbeats 1000000 in
set_option maxRecDepth 100000 in
/-- Small: true tells that the tree has nowhere too many kids. -/
theorem Small_any (W0 : World) (B f : Nat) (a : Option Addr) (n c : Nat) (W : World) (ht : KidsOK W0 B Len f a n) (hn : n ≤ 9223372036854775807) (hbw : Below B W0 W) (hB : B ≤ W.heap.size) :
    Calls Tryd.prog 12 #[.slice a n c] W fun e w' => IsT (KidsOK W0 B Sm f a n) e ∧ Below W.heap.size W w' := by
  have hb : ∀ o, Below W.heap.size W (W.alloc o) := fun o => (Below.refl _ W).alloc (Nat.le_refl _) o
  go_enter Tryd.func12, Tryd.ntmps12
  go_wp2_with (first
    | (go_at_call 20
       refine (small_ok W0 B f a n c 60 W.heap.size 500 _ ht hn (hbw.trans ((hb _).mono hB)) hB (heap_alloc_new W _) (by omega) (by omega)).mono ?_
       rintro e w2 ⟨b, N', rfl, hn5, hb5, hr5⟩))
  go_ret
  exact ⟨⟨b, rfl, fun h => (hr5 h).2.2⟩, (hb _).trans hb5⟩
end Go.Proofs.YtkpaphoeldcakaaDoor.Gr
