/- The program's verify, flow and code, followed by hand: part 16. -/
import Derived.Test.YtmdcccegkamhaaaGreatDoorP15
import Derived.Laws.EntriesVeiled
set_option maxHeartbeats 4000000
set_option maxRecDepth 100000
set_option linter.unusedSectionVars false
set_option linter.unusedVariables false
set_option linter.unusedSimpArgs false
namespace Go.Proofs.Vf
open Go Go.Proofs Go.RowKit Go.Lib
attribute [local go_sem ↓] Go.wp_at_zero Go.wp_at_succ
theorem cl95_100 (bb q ob nb : Nat) (j : Nat) (s : Sl) (l : List Cur) (w : World) (hj : j < s.n) (x : Cur) (hx : l[j]? = some x) (hD : Lst w s 3 Cur.cells l)
 (h1 : ∀ w', Below w.heap.size w w' → w'.cell? ⟨bb, 0, none⟩ = some (.func (.func 92) #[] #[.pointer (some ⟨nb, 0, none⟩)])) (h2 : ∀ w', Below w.heap.size w w' → w'.cell? ⟨q, 5, none⟩ = some (.slice s.a s.n s.c))
 (h3 : ∀ w', Below w.heap.size w w' → w'.cell? ⟨ob, 0, none⟩ = some (.func (.func 100) #[] #[])) (h4 : ∀ w', Below w.heap.size w w' → w'.cell? ⟨nb, 0, none⟩ = some (.int .i64 j)) :
 Gives 95 #[.pointer (some ⟨bb, 0, none⟩), .pointer (some ⟨q, 0, none⟩), .pointer (some ⟨ob, 0, none⟩), .pointer (some ⟨nb, 0, none⟩)] w (.bool (curOK 100 x)) := by
 have a1 := h1 w (Below.refl _ _)
 have a2 := h2 w (Below.refl _ _)
 have a3 := h3 w (Below.refl _ _)
 have a4 := h4 w (Below.refl _ _)
 have b1 := fun o => h1 _ (Below.one w o).drew
 have b2 := fun o => h2 _ (Below.one w o).drew
 have b3 := fun o => h3 _ (Below.one w o).drew
 have b4 := fun o => h4 _ (Below.one w o).drew
 have k93 : Calls Tryz.prog 93 #[.pointer (some ⟨nb, 0, none⟩), .pointer (some ⟨w.heap.size, 0, none⟩)] (w.alloc (.cells #[.int .i64 s.n] 3)).drew fun e w' => e = .returned (.bool true) ∧ w' = (w.alloc (.cells #[.int .i64 s.n] 3)).drew := by
  have := cl93t nb w.heap.size j s.n _ (b4 _) (blk_cell (w := (w.alloc (.cells #[.int .i64 s.n] 3)).drew) (heap_alloc_new w _) 0)
  rw [show below (j : Int) (s.n : Int) = true by unfold below; simp; omega] at this
  exact this
 have hsm := hD.small
 obtain ⟨gc, oc, e1, hgc, hc⟩ := hD.at' j x hx
 have hco : ∀ w', Below w.heap.size w w' → ∀ i, i < 3 → w'.cell? ⟨gc, oc + j * 3 + i, none⟩ = (x.cells)[i]? := fun w' hb i hi => (hb.cell (p := ⟨gc, oc + j * 3 + i, none⟩) hgc).trans (hc i hi)
 have c0 := fun o => (hco _ (Below.one w o).drew 0 (by omega)).trans rfl
 have c1 := fun o => (hco _ (Below.one w o).drew 1 (by omega)).trans rfl
 have c2 := fun o => (hco _ (Below.one w o).drew 2 (by omega)).trans rfl
 simp only [Nat.add_zero] at c0
 have hkx : ∀ w, Calls Tryz.prog 100 #[.agg #[.string x.s, .bool x.i, .bool x.w]] w fun e w' => e = .returned (.bool (curOK 100 x)) ∧ Below w.heap.size w w' := fun w => cl_ok (by simp) x w
 obtain ⟨ka, kn, kc⟩ := s
 obtain rfl : ka = some ⟨gc, oc, none⟩ := e1
 have HK := Lib.hid hkx
 have hj' : j < kn := hj
 have hsm' : kn ≤ 9223372036854775807 := hsm
 have hlj : ((j : Int) < (kn : Int)) = True := by simp; omega
 clear hkx h1 h2 h3 h4 hD hco hc hsm hj hx
 generalize curOK 100 x = b at *
 unfold Gives
 go_enter Tryz.func95, Tryz.ntmps95
 go_wp2
 go_region_with (first
  | (go_at_call 92; with_reducible refine (cl92 _ _ _).mono ?_; rintro e w2 ⟨rfl, rfl⟩)
  | (go_at_call 93; with_reducible refine k93.mono ?_; rintro e w3 ⟨rfl, rfl⟩)
  | (go_at_call 100; with_reducible refine (HK.out _).mono ?_; rintro e w4 ⟨rfl, hb4⟩))
 all_goals go_wp2
 all_goals go_ret
 all_goals exact ⟨by first | rfl | simp, (Below.one _ _).drew.on hb4⟩
end Go.Proofs.Vf
