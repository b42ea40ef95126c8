/- GenMany, by hand: part G4. -/
import Derived.Test.YtkpaphoeldcakaaDoorG3
namespace Go.Proofs.YtkpaphoeldcakaaDoor.Gm
open Go Go.Proofs Go.RowKit Go.Lib
def nk (N : Int) (k : Nat) : Nat := if N = k ∧ k < 1000 then k + 1 else k
def nAt (N : Int) : Int := if N < 1000 then N else 0
def nBad (N : Int) : Int := if N < 1000 then 0 else 114
theorem constant_all (B k mb : Nat) (cv : Value) (N : Int) (w : World) (h : Owns w B cv k) (hk : k ≤ 1000) (hN0 : 0 ≤ N) (hN : N ≤ k ∨ k = 1000) (hB : B ≤ mb) (hm : w.heap[mb]? = some (.cells (mc cv 0) 66)) :
    Calls Tryd.prog 19 #[.pointer (some ⟨mb, 0, none⟩), nv N] w fun e w' => ∃ cv', e = .returned (.int .i64 (nAt N)) ∧ Owns w' B cv' (nk N k) ∧ w'.heap[mb]? = some (.cells (mc cv' (nBad N)) 66) ∧ Below B w w' := by
  have hlt : mb < w.heap.size := (Array.getElem?_eq_some_iff.1 hm).1
  by_cases h1 : N < k
  · refine (constant_found B k mb cv N w h hk hN0 h1 hm).mono ?_
    rintro e w' ⟨rfl, a, b, c⟩
    have e1 : nAt N = N := if_pos (by omega)
    have e2 : nBad N = 0 := if_pos (by omega)
    have e3 : nk N k = k := if_neg (by omega)
    rw [e1, e2, e3]
    exact ⟨cv, rfl, a, b, c.mono (by omega)⟩
  · by_cases h2 : k = 1000
    · subst h2
      refine (constant_full B mb cv N w h (by omega) hB hm).mono ?_
      rintro e w' ⟨rfl, a, b, c⟩
      have e1 : nAt N = 0 := if_neg (by omega)
      have e2 : nBad N = 114 := if_neg (by omega)
      have e3 : nk N 1000 = 1000 := if_neg (by omega)
      rw [e1, e2, e3]
      exact ⟨cv, rfl, a, b, c⟩
    · obtain rfl : N = k := by omega
      refine (constant_new B k mb cv w h (by omega) hB hm).mono ?_
      rintro e w' ⟨cv', rfl, a, b, c⟩
      have e1 : nAt (k : Int) = k := if_pos (by omega)
      have e2 : nBad (k : Int) = 0 := if_pos (by omega)
      have e3 : nk (k : Int) k = k + 1 := if_pos ⟨rfl, by omega⟩
      rw [e1, e2, e3]
      exact ⟨cv', rfl, a, b, c⟩

abbrev cc (N : Int) : Array Value := #[.int .u8 1, .int .i64 N, .string ⟨#[]⟩]
/-- The world behind a callee of Const's: its own blocks stand. -/
structure Stood (b : Nat) (N : Int) (w1 : World) : Prop where
  two : w1.heap[b + 1]? = some (.cells (cc N) 53)
  out : w1.heap[b + 2]? = some (.cells pz 29)
theorem Stood.on {b : Nat} {N : Int} {w w' : World} (h : Stood b N w) (hb : Below (b + 3) w w') : Stood b N w' :=
  ⟨(hb.block _ (by omega)).trans h.two, (hb.block _ (by omega)).trans h.out⟩
set_option maxHeartbeats 1000000 in
set_option maxRecDepth 100000 in
theorem const_any (B0 k : Nat) (cv : Value) (N : Int) (w : World) (h : Owns w B0 cv k) (hk : k ≤ 1000) (hN0 : 0 ≤ N) (hN : N ≤ k ∨ k = 1000) :
    Calls Tryd.prog 10 #[pv cv, nv N] w fun e w' => ∃ cv', e = .returned (.tuple #[pv cv', .int .i64 (nAt N), .int .i64 (nBad N)]) ∧ Owns w' w.heap.size cv' (nk N k) ∧ Below w.heap.size w w' := by
  have hs : (((w.alloc (.cells (pc cv) 29)).alloc (.cells (cc N) 53)).alloc (.cells pz 29)).heap.size = w.heap.size + 3 := by
    show (((w.heap.push _).push _).push _).size = _
    simp
  have hOwn : Calls Tryd.prog 15 #[pv cv] (((w.alloc (.cells (pc cv) 29)).alloc (.cells (cc N) 53)).alloc (.cells pz 29)) fun e w' => ∃ v', e = .returned (pv v') ∧ Owns w' (w.heap.size + 3) v' k ∧ Below (w.heap.size + 3) (((w.alloc (.cells (pc cv) 29)).alloc (.cells (cc N) 53)).alloc (.cells pz 29)) w' ∧ Stood w.heap.size N w' := by
    refine (own_any B0 k cv _ (((h.alloc _).alloc _).alloc _) hk).mono ?_
    rintro e w' ⟨v', rfl, ho, hb⟩
    rw [hs] at ho hb
    refine ⟨v', rfl, ho, hb, ?_, ?_⟩
    · rw [hb.block _ (by omega)]; show (((w.heap.push _).push _).push _)[_]? = _; rw [Array.getElem?_push, Array.getElem?_push]; simp
    · rw [hb.block _ (by omega)]; show (((w.heap.push _).push _).push _)[_]? = _; rw [Array.getElem?_push]; simp
  have hb0 := (((Below.refl w.heap.size w).alloc (Nat.le_refl _) (.cells (pc cv) 29)).alloc (by simp) (.cells (cc N) 53)).alloc (by simp; omega) (.cells pz 29)
  unfold pv at hOwn ⊢
  go_enter Tryd.func10, Tryd.ntmps10
  go_wp2_with (first
    | (go_at_call 15
       refine hOwn.mono ?_
       rintro e w1 ⟨v', rfl, ho, hb1, hst⟩
       have hB : w.heap.size + 3 ≤ w1.heap.size := by have := hb1.size; rw [hs] at this; exact this
       have c2 : ∀ o j, (w1.alloc o).cell? ⟨w.heap.size + 1, j, none⟩ = (cc N)[j]? := fun o j => blk_cell ((Below.heap_alloc w1 o _ (by omega)).trans hst.two) j)
    | (go_at_call 18
       refine (right_any N (w1.alloc (.cells (mc v' 0) 66))).mono ?_
       rintro e w2 ⟨rfl, hb2⟩
       have hs1 : (w1.alloc (.cells (mc v' 0) 66)).heap.size = w1.heap.size + 1 := by
         show (w1.heap.push _).size = _
         simp
       rw [hs1] at hb2
       have ho2 := owns_kept (owns_kept ho ((Below.refl w1.heap.size w1).alloc (Nat.le_refl _) (.cells (mc v' 0) 66))) (hs1 ▸ hb2)
       have hst2 := (hst.on (((Below.refl w1.heap.size w1).alloc (Nat.le_refl _) (.cells (mc v' 0) 66)).mono hB)).on (hb2.mono (by omega))
       have hm2 := (hb2.block w1.heap.size (by omega)).trans (heap_alloc_new w1 (.cells (mc v' 0) 66))
       have c3 := blk_cell hst2.two)
    | (go_at_call 19
       refine (constant_all (w.heap.size + 3) k w1.heap.size v' N _ ho2 hk hN0 hN hB hm2).mono ?_
       rintro e w3 ⟨cv', rfl, ho3, hm3, hb3⟩
       obtain ⟨a3, n3, rfl⟩ := owns_slice ho3
       have hst3 := hst2.on hb3
       have c4 := blk_cell hm3
       have g4 := blk_frozen hm3
       have c5 : ∀ j, w3.cell? ⟨w.heap.size + 1 + 1, j, none⟩ = pz[j]? := blk_cell hst3.out
       have g5 : ∀ j, w3.frozen? ⟨w.heap.size + 1 + 1, j, none⟩ = false := blk_frozen hst3.out
       have n5 : w.heap.size + 1 + 1 ≠ w1.heap.size := by omega))
  go_region
  all_goals go_wp2
  all_goals
    refine bodyPost_ret (v := .tuple #[pv (.slice a3 (nk N k) n3), .int .i64 (nAt N), .int .i64 (nBad N)]) (by simp [results, Tryd.results10, go_sem, c5, pv]) rfl ⟨_, rfl, ?_, ?_⟩
    · refine owns_mono (B := w.heap.size + 3) ?_ (by omega)
      refine World.ownsRow.drew ?_
      repeat (refine ownsRow_setCell_below ?_ (by simp) _)
      exact ho3
    · refine Below.drew ?_
      repeat (refine Below.setCell ?_ (by simp; omega) _)
      have hb4 := hb0.trans (hb1.mono (by omega))
      exact (((hb4.alloc hb4.size _).trans (hb2.mono (by omega)))).trans (hb3.mono (by omega))
end Go.Proofs.YtkpaphoeldcakaaDoor.Gm
