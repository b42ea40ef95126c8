/- GenMany, by hand: part G3. -/
import Derived.Test.YtkpaphoeldcakaaDoorG2
import Derived.Deep.RegionWith
import Derived.Deep.DrawnRows
import Derived.Deep.RegionHeld3
import Derived.Deep.RegionLaw
import Derived.Deep.AppendLies
import Derived.StillTailTactics
namespace Go.Proofs.YtkpaphoeldcakaaDoor.Gm
open Go Go.Proofs Go.RowKit Go.Lib
/-- The cells of a maker whose program's constants are cv. -/
abbrev mc (cv : Value) (bad : Int) : Array Value := #[.int .i64 1, .int .i64 1, .int .i64 0, .slice none 0 0, cv, .slice none 0 0, .slice none 0 0, .slice none 0 0, .slice none 0 0, .slice none 0 0, .int .i64 0, .int .i64 0, .int .i64 bad]
abbrev nv (N : Int) : Value := .agg #[.int .u8 1, .int .i64 N, .string ⟨#[]⟩]

set_option maxHeartbeats 1000000 in
set_option maxRecDepth 100000 in
theorem fail_any (mb : Nat) (cv : Value) (w : World) (h : w.heap[mb]? = some (.cells (mc cv 0) 66)) :
    Calls Tryd.prog 35 #[.pointer (some ⟨mb, 0, none⟩), .int .i64 114] w fun e w' => e = .returned (.tuple #[]) ∧ w' = w.setCell ⟨mb, 12, none⟩ (.int .i64 114) := by
  have c1 := blk_cell h
  have f1 := blk_frozen h
  clear h
  go_enter Tryd.func35, Tryd.ntmps35
  go_wp2
  refine bodyPost_end (results_none rfl _ _ _) rfl ?_
  exact ⟨rfl, rfl⟩

set_option maxHeartbeats 1000000 in
set_option maxRecDepth 100000 in
theorem index_nil (N : Int) (w : World) :
    Calls Tryd.prog 34 #[.slice none 0 0, .agg #[.int .u8 1, .int .i64 N, .string ⟨#[]⟩]] w fun e w' => e = .returned (.int .i64 (-1)) ∧ ∃ n, w' = (w.alloc (.cells #[.int .u8 1, .int .i64 N, .string ⟨#[]⟩] 53)).drewN n := by
  go_enter Tryd.func34, Tryd.ntmps34
  go_wp2
  go_loopw [5, 8] (fun _ i wr => ∃ n : Nat, i = .int .i64 0 ∧ wr = (w.alloc (.cells #[.int .u8 1, .int .i64 N, .string ⟨#[]⟩] 53)).drewN n) (fun _ i _ => 0)
  case atStart => exact ⟨0, rfl, rfl⟩
  case round =>
    obtain ⟨n, rfl, hwr⟩ := hrel
    go_wp2
    subst hwr
    go_ret
    exact ⟨rfl, _, by first | rfl | exact World.drewN_drewN _ _ _ | (simp [World.drewN_add]; rfl)⟩

theorem index_all (B k : Nat) (cv : Value) (N : Int) (w : World) (h : Owns w B cv k) (hk : k ≤ 1000) (h0 : 0 ≤ N) :
    Calls Tryd.prog 34 #[cv, nv N] w fun e w' => e = .returned (.int .i64 (idxR N k)) ∧ ∃ n, w' = (w.alloc (.cells #[.int .u8 1, .int .i64 N, .string ⟨#[]⟩] 53)).drewN n := by
  rcases owns_cases h with ⟨rfl, rfl⟩ | ⟨g, cap, rfl, hB, hg, hkc, hc⟩
  · have : idxR N 0 = -1 := by unfold idxR; rw [if_neg (by omega)]
    rw [this]; exact index_nil N w
  · exact index_any g k cap N w (at_of hc) hk hkc h0

/-- The world behind the search: what is wanted of it. -/
structure Seen (B k mb : Nat) (cv : Value) (N : Int) (w w1 : World) : Prop where
  own : Owns w1 B cv k
  below : Below w.heap.size w w1
  more : w.heap.size < w1.heap.size
  maker : w1.heap[mb]? = some (.cells (mc cv 0) 66)
  one : w1.heap[w.heap.size]? = some (.cells #[.int .u8 1, .int .i64 N, .string ⟨#[]⟩] 53)
theorem below_drewN {B : Nat} {a w : World} (h : Below B a w) : ∀ n, Below B a (w.drewN n)
  | 0 => h
  | n + 1 => by rw [show w.drewN (n + 1) = (w.drewN n).drew from rfl]; exact (below_drewN h n).drew
theorem index_at (B k mb : Nat) (cv : Value) (N : Int) (w : World) (h : Owns w B cv k) (hk : k ≤ 1000) (hN0 : 0 ≤ N) (hm : w.heap[mb]? = some (.cells (mc cv 0) 66)) :
    Calls Tryd.prog 34 #[cv, nv N] (w.alloc (.cells #[.int .u8 1, .int .i64 N, .string ⟨#[]⟩] 53)).drew fun e w' => e = .returned (.int .i64 (idxR N k)) ∧ Seen B k mb cv N w w' ∧ (∀ j, w'.cell? ⟨mb, j, none⟩ = (mc cv 0)[j]?) ∧ (∀ j, w'.frozen? ⟨mb, j, none⟩ = false) ∧
      (∀ j, w'.cell? ⟨w.heap.size, j, none⟩ = (#[.int .u8 1, .int .i64 N, .string ⟨#[]⟩] : Array Value)[j]?) := by
  have hlt : mb < w.heap.size := (Array.getElem?_eq_some_iff.1 hm).1
  refine (index_all B k cv N _ ((h.alloc _).drew) hk hN0).mono ?_
  rintro e w' ⟨rfl, n, rfl⟩
  have hs : ((w.alloc (.cells #[.int .u8 1, .int .i64 N, .string ⟨#[]⟩] 53)).drew).heap.size = w.heap.size + 1 := by
    show (w.heap.push _).size = _
    simp
  have hb : Below (w.heap.size + 1) (w.alloc (.cells #[.int .u8 1, .int .i64 N, .string ⟨#[]⟩] 53)) ((((w.alloc (.cells #[.int .u8 1, .int .i64 N, .string ⟨#[]⟩] 53)).drew).alloc (.cells #[.int .u8 1, .int .i64 N, .string ⟨#[]⟩] 53)).drewN n) :=
    below_drewN (((Below.refl _ _).drew).alloc (by rw [hs]; omega) _) n
  have hb0 := ((Below.refl w.heap.size w).alloc (Nat.le_refl _) (.cells #[.int .u8 1, .int .i64 N, .string ⟨#[]⟩] 53)).trans (hb.mono (by omega))
  have hx := (hb.block w.heap.size (by omega)).trans (heap_alloc_new w (.cells #[.int .u8 1, .int .i64 N, .string ⟨#[]⟩] 53))
  have hm' := (hb0.block mb hlt).trans hm
  exact ⟨rfl, ⟨owns_kept h hb0, hb0, (Array.getElem?_eq_some_iff.1 hx).1, hm', hx⟩, blk_cell hm', blk_frozen hm', blk_cell hx⟩

theorem owns_ne {w : World} {B k mb : Nat} {cv : Value} {vals : Array Value} (h : Owns w B cv k) (hm : w.heap[mb]? = some (.cells vals 66)) : cv.ownBlock ≠ some mb := by
  rcases h.2 with ⟨rfl, _⟩ | ⟨g, cap, cur, rfl, hB, hg, rest⟩
  · simp [Value.ownBlock]
  · intro e
    have e : g = mb := by simpa [Value.ownBlock] using e
    subst e
    rw [hm] at hg
    injection hg with hg
    injection hg with _ hg
    cases hg
theorem owns_set {w : World} {B k mb j : Nat} {cv u : Value} {vals : Array Value} (h : Owns w B cv k) (hm : w.heap[mb]? = some (.cells vals 66)) : Owns (w.setCell ⟨mb, j, none⟩ u) B cv k := by
  have hne := owns_ne h hm
  refine ⟨h.1, ?_⟩
  rcases h.2 with hn | ⟨g, cap, cur, rfl, hB, hg, rest⟩
  · exact .inl hn
  · refine .inr ⟨g, cap, cur, rfl, hB, ?_, rest⟩
    rw [heap_setCell_other _ _ _ _ (by intro e; subst e; exact hne rfl)]
    exact hg

attribute [local go_sem ↓] Go.wp_at_zero Go.wp_at_succ
set_option maxHeartbeats 1000000 in
set_option maxRecDepth 100000 in
theorem constant_found (B k mb : Nat) (cv : Value) (N : Int) (w : World) (h : Owns w B cv k) (hk : k ≤ 1000) (hN0 : 0 ≤ N) (hN : N < k) (hm : w.heap[mb]? = some (.cells (mc cv 0) 66)) :
    Calls Tryd.prog 19 #[.pointer (some ⟨mb, 0, none⟩), nv N] w fun e w' => e = .returned (.int .i64 N) ∧ Owns w' B cv k ∧ w'.heap[mb]? = some (.cells (mc cv 0) 66) ∧ Below w.heap.size w w' := by
  have hlt : mb < w.heap.size := (Array.getElem?_eq_some_iff.1 hm).1
  have hI := index_at B k mb cv N w h hk hN0 hm
  rw [show idxR N k = N by unfold idxR; rw [if_pos hN]] at hI
  have c1 := blk_cell hm
  have f1 := blk_frozen hm
  have hne : mb ≠ w.heap.size := by omega
  go_enter Tryd.func19, Tryd.ntmps19
  go_wp2
  go_region_with (first | (go_at_call 34; refine hI.mono ?_; rintro e w1 ⟨rfl, HO, d1, g1, d2⟩))
  all_goals go_wp2
  all_goals go_ret
  all_goals exact ⟨rfl, HO.own, HO.maker, HO.below⟩

set_option maxHeartbeats 1000000 in
set_option maxRecDepth 100000 in
theorem constant_full (B mb : Nat) (cv : Value) (N : Int) (w : World) (h : Owns w B cv 1000) (hN : 1000 ≤ N) (hB : B ≤ mb) (hm : w.heap[mb]? = some (.cells (mc cv 0) 66)) :
    Calls Tryd.prog 19 #[.pointer (some ⟨mb, 0, none⟩), nv N] w fun e w' => e = .returned (.int .i64 0) ∧ Owns w' B cv 1000 ∧ w'.heap[mb]? = some (.cells (mc cv 114) 66) ∧ Below B w w' := by
  have hlt : mb < w.heap.size := (Array.getElem?_eq_some_iff.1 hm).1
  have hI := index_at B 1000 mb cv N w h (by omega) (by omega) hm
  rw [show idxR N 1000 = -1 by unfold idxR; rw [if_neg (by omega)]] at hI
  have c1 := blk_cell hm
  have f1 := blk_frozen hm
  have hne : mb ≠ w.heap.size := by omega
  obtain ⟨a, c, rfl⟩ := owns_slice h
  go_enter Tryd.func19, Tryd.ntmps19
  go_wp2
  go_region_with (first | (go_at_call 34; refine hI.mono ?_; rintro e w1 ⟨rfl, HO, d1, g1, d2⟩))
  all_goals go_wp2_with (first | (go_at_call 35; refine (fail_any mb _ _ HO.maker).mono ?_; rintro e w2 ⟨rfl, rfl⟩))
  all_goals go_ret
  all_goals exact ⟨rfl, owns_set HO.own HO.maker, (heap_setCell_same _ _ _ _ _ _ HO.maker).trans rfl, ((HO.below.mono (by omega : B ≤ w.heap.size))).setCell hB _⟩

set_option maxHeartbeats 1000000 in
set_option maxRecDepth 100000 in
theorem constant_new (B k mb : Nat) (cv : Value) (w : World) (h : Owns w B cv k) (hk : k < 1000) (hB : B ≤ mb) (hm : w.heap[mb]? = some (.cells (mc cv 0) 66)) :
    Calls Tryd.prog 19 #[.pointer (some ⟨mb, 0, none⟩), nv k] w fun e w' => ∃ cv', e = .returned (.int .i64 k) ∧ Owns w' B cv' (k + 1) ∧ w'.heap[mb]? = some (.cells (mc cv' 0) 66) ∧ Below B w w' := by
  have hlt : mb < w.heap.size := (Array.getElem?_eq_some_iff.1 hm).1
  have hI := index_at B k mb cv k w h (by omega) (by omega) hm
  rw [show idxR (k : Int) k = -1 by unfold idxR; rw [if_neg (by omega)]] at hI
  have c1 := blk_cell hm
  have f1 := blk_frozen hm
  have hne : mb ≠ w.heap.size := by omega
  obtain ⟨a, c, rfl⟩ := owns_slice h
  obtain ⟨i0, hi, hz0, hz1, hz2⟩ := info_parts info74
  go_enter Tryd.func19, Tryd.ntmps19
  go_wp2
  go_region_with (first | (go_at_call 34; refine hI.mono ?_; rintro e w1 ⟨rfl, HO, d1, g1, d2⟩))
  all_goals go_wp2
  all_goals
    have hB1 : B ≤ w1.heap.size := by have := HO.more; omega
    have hk1 : k + 1 ≤ maxLen := by unfold maxLen; omega
    have hb1 : (k + 1) * 32 ≤ 140737488355328 := by omega
    have hnb := owns_ne HO.own HO.maker
    have hm1 : ∀ o, ((w1.alloc o).drew).heap[mb]? = some (.cells (mc (.slice a k c) 0) 66) := fun o => (Below.heap_alloc w1 o mb (by have := HO.more; omega)).trans HO.maker
    have e4 : ∀ o, (w1.alloc o).cell? ⟨mb, 4, none⟩ = some (.slice a k c) := fun o => blk_cell (w := w1.alloc o) ((Below.heap_alloc w1 o mb (by have := HO.more; omega)).trans HO.maker) 4
    have hmb1 : ∀ o, mb < ((w1.alloc o).drew).heap.size := fun o => (Array.getElem?_eq_some_iff.1 (hm1 o)).1
    have hne1 : mb ≠ w1.heap.size := by have := HO.more; omega
    have hne2 : w.heap.size ≠ w1.heap.size := by have := HO.more; omega
    go_region_law (first
      | (refine step_append_lies _ (by rfl) _ _ _ (by rfl) B 53 i0 _ 3 32 Tryd.underlying23 hi hz0 hz1 hz2 rfl (by omega) (.slice a k c) k (cellsK k) (by rfl) ((HO.own.alloc _).drew)
          ⟨w1.heap.size, 0, none⟩ 1 1 [.int .u8 1, .int .i64 k, .string ⟨#[]⟩] (by rfl) (by rfl) (World.news_of_block (cs := #[.int .u8 1, .int .i64 k, .string ⟨#[]⟩]) (t := 53) (fr := (0, 0)) (heap_alloc_new w1 _)) (by simp [Value.oneCell'])
          (by omega) hk1 hb1 (by simp; omega) (w1.heap.size + 1) (by simp) ?_
         intro gg cap w2 hown1 hgrow hat hlt2
         have hm2 := (hgrow.block mb (hmb1 _) (Ne.symm hnb)).trans (hm1 _)
         have d3 := blk_cell hm2
         have g3 := blk_frozen hm2)
      | (trace_state; fail))
  all_goals go_wp2
  all_goals go_ret
  all_goals
    rw [← cellsK_succ] at hown1
    refine ⟨.slice (some ⟨gg, 0, none⟩) (k + 1) cap, by simp, owns_set hown1 hm2, (heap_setCell_same _ _ _ _ _ _ hm2).trans rfl, ?_⟩
    exact ((((HO.below.mono (by omega : B ≤ w.heap.size)).alloc (by omega) _).drew).grown hgrow (by simp; omega) (fun j hj => (HO.own.lt j hj).1)).setCell hB _
end Go.Proofs.YtkpaphoeldcakaaDoor.Gm
