/- GenReads, by hand: part H5. -/
import Derived.Test.YtkpaphoeldcakaaDoorH4
namespace Go.Proofs.YtkpaphoeldcakaaDoor.Gr
open Go Go.Proofs Go.RowKit Go.Lib
/-- One step: perhaps an instruction has been put. -/
def Stp (m : Mk) (ys : List Ins) (i : Ins) (m' : Mk) (ys' : List Ins) : Prop := (m' = m ∧ ys' = ys) ∨ Put m ys i m' ys'
set_option maxHeartbeats 1000000 in
set_option maxRecDepth 100000 in
theorem leaf_move (mb B b1 b2 : Nat) (m : Mk) (xs : List Con) (ys : List Ins) (r to : Int) (w : World) (h : MkAt w mb B m xs ys)
    (h1 : w.heap[b1]? = some (.cells #[.int .i64 to] 3)) (h2 : w.heap[b2]? = some (.cells #[mp mb] 64)) :
    Calls Tryd.prog 42 #[.int .i64 r, .pointer (some ⟨b1, 0, none⟩), .pointer (some ⟨b2, 0, none⟩)] w fun e w' => e = .returned (.tuple #[]) ∧ ∃ m' ys', Stp m ys ⟨3, to, r, 0, 0⟩ m' ys' ∧ MkAt w' mb B m' xs ys' ∧ Fr w w' (m.has mb) (m'.has mb) := by
  have c1 := blk_cell h1
  have c2 := blk_cell h2
  by_cases hr : r = to
  · have hd : (r == to) = true := by simp [hr]
    go_enter Tryd.func42, Tryd.ntmps42
    go_wp2
    refine bodyPost_end (results_none rfl _ _ _) rfl ?_
    exact ⟨rfl, _, _, .inl ⟨rfl, rfl⟩, h, Fr.refl _ _⟩
  · have hd : (r == to) = false := by simp [hr]
    go_enter Tryd.func42, Tryd.ntmps42
    go_wp2_with (first | (go_at_call 28; refine (put_any mb B m xs ys ⟨3, to, r, 0, 0⟩ _ h).mono ?_; rintro e w2 ⟨rfl, m', ys', hp, hm, hf⟩))
    refine bodyPost_end (results_none rfl _ _ _) rfl ?_
    exact ⟨rfl, _, _, .inr hp, hm, hf⟩

/-- Blocks of other types stand. -/
theorem MkAt.stand {w w' : World} {mb B : Nat} {m m' : Mk} {xs : List Con} {ys : List Ins} (h : MkAt w mb B m xs ys) (hf : Fr w w' (m.has mb) (m'.has mb)) {i : Nat} {vals : Array Value} {t : TypeId} (hi : w.heap[i]? = some (.cells vals t (0, 0))) (h1 : t ≠ 66) (h2 : t ≠ 53) (h3 : t ≠ 46) : w'.heap[i]? = some (.cells vals t (0, 0)) :=
  (hf.block i (Array.getElem?_eq_some_iff.1 hi).1 (h.not hi h1 h2 h3)).trans hi
attribute [local go_sem ↓] Go.wp_at_zero Go.wp_at_succ
set_option maxHeartbeats 1000000 in
set_option maxRecDepth 100000 in
theorem leaf_const (mb B b1 b2 : Nat) (m : Mk) (xs : List Con) (ys : List Ins) (v : Con) (to : Int) (w : World) (h : MkAt w mb B m xs ys)
    (h1 : w.heap[b1]? = some (.cells #[mp mb] 64)) (h2 : w.heap[b2]? = some (.cells #[.int .i64 to] 3)) :
    Calls Tryd.prog 41 #[v.v, .pointer (some ⟨b1, 0, none⟩), .pointer (some ⟨b2, 0, none⟩)] w fun e w' => e = .returned (.tuple #[]) ∧ ∃ c m1 xs' m' ys', Cst m xs m1 xs' ∧ Put m1 ys ⟨1, to, c, 0, 0⟩ m' ys' ∧ MkAt w' mb B m' xs' ys' ∧ Fr w w' (m.has mb) (m'.has mb) := by
  have hl1 : b1 < w.heap.size := (Array.getElem?_eq_some_iff.1 h1).1
  have hl2 : b2 < w.heap.size := (Array.getElem?_eq_some_iff.1 h2).1
  have n1 : b1 ≠ w.heap.size := by omega
  have n2 : b2 ≠ w.heap.size := by omega
  have c1 := blk_cell h1
  have c2 := blk_cell h2
  have hb : Below w.heap.size w (w.alloc (.cells #[.int .u8 v.k, .int .i64 v.n, .string v.s] 53)).drew := ((Below.refl _ w).alloc (Nat.le_refl _) _).drew
  have hh := h.below hb
  have hC : Calls Tryd.prog 19 #[mp mb, v.v] (w.alloc (.cells #[.int .u8 v.k, .int .i64 v.n, .string v.s] 53)).drew fun e w' => (∃ c : Int, e = .returned (.int .i64 c)) ∧ ∃ m' xs', Cst m xs m' xs' ∧ MkAt w' mb B m' xs' ys ∧ Fr w w' (m.has mb) (m'.has mb) ∧ (∀ j, w'.cell? ⟨b1, j, none⟩ = (#[mp mb] : Array Value)[j]?) ∧ (∀ j, w'.cell? ⟨b2, j, none⟩ = (#[.int .i64 to] : Array Value)[j]?) := by
    refine (constant_any mb B m xs ys v _ hh).mono ?_
    rintro e w' ⟨hc, m', xs', hcs, hm, hf⟩
    have hf2 := (Fr.of_below hb (Nat.le_refl _)).trans hf
    exact ⟨hc, m', xs', hcs, hm, hf2, blk_cell (h.stand hf2 h1 (by decide) (by decide) (by decide)), blk_cell (h.stand hf2 h2 (by decide) (by decide) (by decide))⟩
  go_enter Tryd.func41, Tryd.ntmps41
  go_wp2
  go_region_with (first
    | (go_at_call 19; refine hC.mono ?_; rintro e w1 ⟨⟨c, rfl⟩, m1, xs', hcs, hm1, hf1, d1, d2⟩)
    | (go_at_call 28; refine (put_any mb B m1 xs' ys ⟨1, to, c, 0, 0⟩ _ hm1).mono ?_; rintro e w2 ⟨rfl, m', ys', hp, hm, hf⟩))
  all_goals go_wp2
  all_goals refine bodyPost_end (results_none rfl _ _ _) rfl ?_
  all_goals exact ⟨rfl, _, _, _, _, _, hcs, hp, hm, hf1.trans hf⟩
end Go.Proofs.YtkpaphoeldcakaaDoor.Gr
