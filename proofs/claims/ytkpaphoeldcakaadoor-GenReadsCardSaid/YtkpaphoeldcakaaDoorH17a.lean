/- GenReads, by hand: part H17a. -/
import Derived.Test.YtkpaphoeldcakaaDoorH16
namespace Go.Proofs.YtkpaphoeldcakaaDoor.Gr
open Go Go.Proofs Go.RowKit Go.Lib
attribute [local go_sem ↓] Go.wp_at_zero Go.wp_at_succ
set_option maxHeartbeats 2000000 in
set_option maxRecDepth 100000 in
theorem may_bad (R : Prop) (p : Pg) (q : Pl) (ev : Ev) (tt free : Int) (W : World) (h : tt < 0 ∨ free < 0 ∨ free < tt) :
    Calls Tryd.prog 14 #[p.v, ev.v, q.v, .int .i64 tt, .int .i64 free] W fun e w' => IsMay R e ∧ Below W.heap.size W w' := by
  have hb3 : ∀ o o2 o3 nn, Below W.heap.size W ((((W.alloc o).alloc o2).alloc o3).drewN nn) := fun o o2 o3 nn => below_drewN ((((Below.refl _ W).alloc (Nat.le_refl _) o).alloc (by rw [heap_size_alloc]; omega) o2).alloc (by rw [heap_size_alloc, heap_size_alloc]; omega) o3) nn
  by_cases h1 : tt < 0
  · have hd : (tt < 0) = True := by simp [h1]
    clear h h1
    go_enter Tryd.func14, Tryd.ntmps14
    go_wp2
    go_quiet (fail)
    go_wp2
    go_ret
    exact ⟨⟨_, rfl, fun h => by cases h⟩, hb3 _ _ _ _⟩
  by_cases h2 : free < 0
  · have hd : (tt < 0) = False := by simp [h1]
    have hd2 : (free < 0) = True := by simp [h2]
    clear h h1 h2
    go_enter Tryd.func14, Tryd.ntmps14
    go_wp2
    go_quiet (fail)
    go_wp2
    go_ret
    exact ⟨⟨_, rfl, fun h => by cases h⟩, hb3 _ _ _ _⟩
  have h3 : free < tt := by omega
  have hd : (tt < 0) = False := by simp [h1]
  have hd2 : (free < 0) = False := by simp [h2]
  have hd3 : (free < tt) = True := by simp [h3]
  clear h h1 h2 h3
  go_enter Tryd.func14, Tryd.ntmps14
  go_wp2
  go_quiet (fail)
  go_wp2
  go_ret
  exact ⟨⟨_, rfl, fun h => by cases h⟩, hb3 _ _ _ _⟩
end Go.Proofs.YtkpaphoeldcakaaDoor.Gr
