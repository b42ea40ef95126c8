/- GenReads, by hand: part H7. -/
import Derived.Test.YtkpaphoeldcakaaDoorH6
namespace Go.Proofs.YtkpaphoeldcakaaDoor.Gr
open Go Go.Proofs Go.RowKit Go.Lib
attribute [local go_sem ↓] Go.wp_at_zero Go.wp_at_succ
set_option maxHeartbeats 2000000 in
set_option maxRecDepth 100000 in
theorem leaf_this (P : Int → Prop) (mb B : Nat) (m : Mk) (xs : List Con) (ys : List Ins) (s t : ByteArray) (n : Int) (kids : Sl) (a : Nat) (to : Int) (w : World) (h : MkAt w mb B m xs ys) (hP : P to) (hr : m.bad = 0 → to < m.regs)
    (c : Bool) (q : Int) (g o : Nat) (hsrc : m.src.a = some ⟨g, o, none⟩) (ha : a < m.src.n) (hc : w.cell? ⟨g, o + a * 2, none⟩ = some (.bool c)) (hq : w.cell? ⟨g, o + a * 2 + 1, none⟩ = some (.int .i64 q)) :
    Calls Tryd.prog 27 #[mp mb, (⟨13, s, t, n, a, kids⟩ : Ev).v, .int .i64 to] w fun e w' => e = .returned (.tuple #[]) ∧ Fin P mb B m xs ys w w' := by
  have hmf : ∀ (fn : Fn) (first cap : Array Value) (w : World), (Instr.makeFunc fn first cap).run Tryd.prog w = .ok (.func fn first cap) w := fun _ _ _ _ => rfl
  obtain ⟨hK, hM, hU, hE, c1⟩ := leaf_facts P mb B m xs ys ⟨13, s, t, n, a, kids⟩ to w h hP hr
  obtain ⟨hb0, hs, ha1, ha2, ha3⟩ := W3_facts mb ⟨13, s, t, n, a, kids⟩ to w
  have hmb : mb < w.heap.size := h.has_lt (.inl rfl)
  have hg : g < w.heap.size := World.block_lt_of_cell? _ _ hc
  have ha0 : (0 : Int) ≤ (a : Int) := Int.natCast_nonneg _
  have han : (a : Int) < (m.src.n : Int) := by omega
  have hc' := (hb0.cell (p := ⟨g, o + a * 2, none⟩) hg).trans hc
  have hq' := (hb0.cell (p := ⟨g, o + a * 2 + 1, none⟩) hg).trans hq
  have hA : ∀ o', Below (w.heap.size + 3) (W3 mb ⟨13, s, t, n, a, kids⟩ to w) (((W3 mb ⟨13, s, t, n, a, kids⟩ to w).alloc o').drew) := fun o' => ((Below.refl _ _).alloc (by rw [hs]; omega) o').drew
  have c1' : ∀ o' j, ((W3 mb ⟨13, s, t, n, a, kids⟩ to w).alloc o').cell? ⟨mb, j, none⟩ = m.cells[j]? := fun o' j => ((hA o').cell (p := ⟨mb, j, none⟩) (by show mb < _; omega)).trans (c1 j)
  have hc2 : ∀ o', ((W3 mb ⟨13, s, t, n, a, kids⟩ to w).alloc o').cell? ⟨g, o + a * 2, none⟩ = some (.bool c) := fun o' => ((hA o').cell (p := ⟨g, o + a * 2, none⟩) (by show g < _; omega)).trans hc'
  have hq2 : ∀ o', ((W3 mb ⟨13, s, t, n, a, kids⟩ to w).alloc o').cell? ⟨g, o + a * 2 + 1, none⟩ = some (.int .i64 q) := fun o' => ((hA o').cell (p := ⟨g, o + a * 2 + 1, none⟩) (by show g < _; omega)).trans hq'
  cases c
  · go_enter Tryd.func27, Tryd.ntmps27
    go_wp2
    go_region
    all_goals go_wp2_with (first | (go_at_call 42; refine (hM _ _ (hA _)).mono ?_; rintro e w2 ⟨rfl, hfin⟩))
    all_goals refine bodyPost_end (results_none rfl _ _ _) rfl ?_
    all_goals exact ⟨rfl, hfin⟩
  · go_enter Tryd.func27, Tryd.ntmps27
    go_wp2
    go_region
    all_goals go_wp2_with (first | (go_at_call 28; refine (hU _ _ _ _ _ _ (by unfold okOp; omega) rfl (hA _)).mono ?_; rintro e w2 ⟨rfl, hfin⟩))
    all_goals refine bodyPost_end (results_none rfl _ _ _) rfl ?_
    all_goals exact ⟨rfl, hfin⟩
end Go.Proofs.YtkpaphoeldcakaaDoor.Gr
