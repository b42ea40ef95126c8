/- GenReads, by hand: part H4. -/
import Derived.Test.YtkpaphoeldcakaaDoorH3
namespace Go.Proofs.YtkpaphoeldcakaaDoor.Gr
open Go Go.Proofs Go.RowKit Go.Lib
/-- What asking for a constant's place does. -/
def Cst (m : Mk) (xs : List Con) (m' : Mk) (xs' : List Con) : Prop := (m' = m ∧ xs' = xs) ∨ (m' = m.failed ∧ xs' = xs) ∨ (∃ s x, m' = { m with cons := s } ∧ xs' = xs ++ [x])
/-- The world behind the search. -/
structure Seen (mb B : Nat) (m : Mk) (xs : List Con) (ys : List Ins) (v : Con) (w w1 : World) : Prop where
  maker : MkAt w1 mb B m xs ys
  below : Below w.heap.size w w1
  more : w.heap.size < w1.heap.size
  one : w1.heap[w.heap.size]? = some (.cells #[.int .u8 v.k, .int .i64 v.n, .string v.s] 53)
theorem index_at (mb B : Nat) (m : Mk) (xs : List Con) (ys : List Ins) (v : Con) (w : World) (h : MkAt w mb B m xs ys) :
    Calls Tryd.prog 34 #[m.cons.v, v.v] (w.alloc (.cells #[.int .u8 v.k, .int .i64 v.n, .string v.s] 53)).drew fun e w' => (∃ r : Int, e = .returned (.int .i64 r) ∧ -1 ≤ r) ∧ Seen mb B m xs ys v w w' ∧ (∀ j, w'.cell? ⟨mb, j, none⟩ = m.cells[j]?) ∧ (∀ j, w'.frozen? ⟨mb, j, none⟩ = false) ∧
      (∀ j, w'.cell? ⟨w.heap.size, j, none⟩ = (#[.int .u8 v.k, .int .i64 v.n, .string v.s] : Array Value)[j]?) := by
  refine (index_all B m.cons.v m.cons.n xs v _ ((h.con.alloc _).drew) h.hx h.hx2).mono ?_
  rintro e w' ⟨hr, hb⟩
  have hs : ((w.alloc (.cells #[.int .u8 v.k, .int .i64 v.n, .string v.s] 53)).drew).heap.size = w.heap.size + 1 := heap_size_alloc w _
  rw [hs] at hb
  have hb0 := ((Below.refl w.heap.size w).alloc (Nat.le_refl _) (.cells #[.int .u8 v.k, .int .i64 v.n, .string v.s] 53)).drew.trans (hb.mono (by omega))
  have hx := (hb.block w.heap.size (by omega)).trans (heap_alloc_new w (.cells #[.int .u8 v.k, .int .i64 v.n, .string v.s] 53))
  have hm' := h.below hb0
  exact ⟨hr, ⟨hm', hb0, (Array.getElem?_eq_some_iff.1 hx).1, hx⟩, blk_cell hm'.at_, blk_frozen hm'.at_, blk_cell hx⟩

attribute [local go_sem ↓] Go.wp_at_zero Go.wp_at_succ
set_option maxHeartbeats 1000000 in
set_option maxRecDepth 100000 in
theorem constant_full (mb B : Nat) (m : Mk) (xs : List Con) (ys : List Ins) (v : Con) (w : World) (h : MkAt w mb B m xs ys) (hr : 1000 ≤ m.cons.n) :
    Calls Tryd.prog 19 #[mp mb, v.v] w fun e w' => (∃ c : Int, e = .returned (.int .i64 c)) ∧ ∃ m' xs', Cst m xs m' xs' ∧ MkAt w' mb B m' xs' ys ∧ Fr w w' (m.has mb) (m'.has mb) := by
  have hI := index_at mb B m xs ys v w h
  have c1 := blk_cell h.at_
  have f1 := blk_frozen h.at_
  have hlt : mb < w.heap.size := h.has_lt (.inl rfl)
  have hne : mb ≠ w.heap.size := by omega
  have hd : ((1000 : Int) ≤ (m.cons.n : Int)) = True := by simp; omega
  go_enter Tryd.func19, Tryd.ntmps19
  go_wp2
  go_region_with (first | (go_at_call 34; refine hI.mono ?_; rintro e w1 ⟨⟨r, rfl, hr1⟩, HO, d1, g1, d2⟩))
  all_goals go_wp2_with (first | (go_at_call 35; refine (fail_any mb B m xs ys _ HO.maker).mono ?_; rintro e w2 ⟨rfl, h2⟩))
  all_goals go_ret
  all_goals first
    | exact ⟨⟨_, rfl⟩, _, _, .inr (.inl ⟨rfl, rfl⟩), h2.1, (Fr.of_below HO.below (Nat.le_refl _)).trans h2.2⟩
    | exact ⟨⟨_, rfl⟩, _, _, .inl ⟨rfl, rfl⟩, HO.maker, Fr.of_below HO.below (Nat.le_refl _)⟩

set_option maxHeartbeats 1000000 in
set_option maxRecDepth 100000 in
theorem constant_room (mb B : Nat) (m : Mk) (xs : List Con) (ys : List Ins) (v : Con) (w : World) (h : MkAt w mb B m xs ys) (hr : m.cons.n < 1000) :
    Calls Tryd.prog 19 #[mp mb, v.v] w fun e w' => (∃ c : Int, e = .returned (.int .i64 c)) ∧ ∃ m' xs', Cst m xs m' xs' ∧ MkAt w' mb B m' xs' ys ∧ Fr w w' (m.has mb) (m'.has mb) := by
  have hI := index_at mb B m xs ys v w h
  have c1 := blk_cell h.at_
  have f1 := blk_frozen h.at_
  have hlt : mb < w.heap.size := h.has_lt (.inl rfl)
  have hne : mb ≠ w.heap.size := by omega
  have hd : ((1000 : Int) ≤ (m.cons.n : Int)) = False := by simp; omega
  have hx : xs.length < 1100 := by have := h.hx; omega
  have hk1 : m.cons.n + 1 ≤ maxLen := by unfold maxLen; omega
  have hb1 : (m.cons.n + 1) * 32 ≤ 140737488355328 := by omega
  have hBw : B ≤ w.heap.size := by have := h.hB; omega
  obtain ⟨i0, hi, hz0, hz1, hz2⟩ := info_parts info74
  go_enter Tryd.func19, Tryd.ntmps19
  go_wp2
  go_region_with (first | (go_at_call 34; refine hI.mono ?_; rintro e w1 ⟨⟨r, rfl, hr1⟩, HO, d1, g1, d2⟩))
  all_goals go_wp2
  all_goals try (go_ret; exact ⟨⟨_, rfl⟩, _, _, .inl ⟨rfl, rfl⟩, HO.maker, Fr.of_below HO.below (Nat.le_refl _)⟩)
  all_goals
    have hne1 : mb ≠ w1.heap.size := by have := HO.more; omega
    have hne2 : w.heap.size ≠ w1.heap.size := by have := HO.more; omega
    have hA : ∀ o, Below w1.heap.size w1 ((w1.alloc o).drew) := fun o => ((Below.refl _ w1).alloc (Nat.le_refl _) o).drew
    have hA2 : ∀ o, Below w.heap.size w ((w1.alloc o).drew) := fun o => HO.below.trans ((hA o).mono (by have := HO.more; omega))
    have e4 : ∀ o, (w1.alloc o).cell? ⟨mb, 4, none⟩ = some m.cons.v := fun o => (blk_cell (w := w1.alloc o) (HO.maker.below (hA o)).at_ 4).trans rfl
    go_region_law (first
      | (refine step_append_lies _ (by rfl) _ _ _ (by rfl) B 53 i0 _ 3 32 Tryd.underlying23 hi hz0 hz1 hz2 rfl (by omega) m.cons.v m.cons.n (conCells xs) (by rfl) ((HO.maker.con.alloc _).drew)
          ⟨w1.heap.size, 0, none⟩ 1 1 v.cells (by rfl) (by rfl) (World.news_of_block (cs := #[.int .u8 v.k, .int .i64 v.n, .string v.s]) (t := 53) (fr := (0, 0)) (heap_alloc_new w1 _)) (by simp [Value.oneCell'])
          (by omega) hk1 hb1 (by simp; have := HO.more; omega) (w1.heap.size + 1) (by simp) ?_
         intro gg cap w2 hown1 hgrow hat hlt2
         have hm2 := (hgrow.block mb (Nat.lt_of_lt_of_le hlt (hA2 _).size) (Ne.symm h.cons_ne)).trans ((h.below (hA2 _)).at_)
         have d3 := blk_cell hm2
         have g3 := blk_frozen hm2)
      | (trace_state; fail))
  all_goals go_wp2
  all_goals go_ret
  all_goals exact ⟨⟨_, rfl⟩, _, _, .inr (.inr ⟨_, _, rfl, rfl⟩), h.cons (hA2 _) hx hown1 hgrow (hat.imp id fun e => by have := HO.more; omega)⟩
theorem constant_any (mb B : Nat) (m : Mk) (xs : List Con) (ys : List Ins) (v : Con) (w : World) (h : MkAt w mb B m xs ys) :
    Calls Tryd.prog 19 #[mp mb, v.v] w fun e w' => (∃ c : Int, e = .returned (.int .i64 c)) ∧ ∃ m' xs', Cst m xs m' xs' ∧ MkAt w' mb B m' xs' ys ∧ Fr w w' (m.has mb) (m'.has mb) := by
  by_cases hr : m.cons.n < 1000
  · exact constant_room mb B m xs ys v w h hr
  · exact constant_full mb B m xs ys v w h (by omega)
end Go.Proofs.YtkpaphoeldcakaaDoor.Gr
