/- GenReads, by hand: part H19. -/
import Derived.Test.YtkpaphoeldcakaaDoorH18
namespace Go.Proofs.YtkpaphoeldcakaaDoor.Gr
open Go Go.Proofs Go.RowKit Go.Lib
attribute [local go_sem ↓] Go.wp_at_zero Go.wp_at_succ
abbrev pz : Array Value := #[.int .i64 0, .int .i64 0, .int .i64 0, .slice none 0 0, .slice none 0 0, .slice none 0 0, .slice none 0 0, .slice none 0 0, .slice none 0 0]
theorem owns_slice {w : World} {B e size n : Nat} {v : Value} {L : List Value} (h : w.ownsRow B e size v n L) : ∃ a c, v = .slice a n c := by
  rcases h.2 with ⟨rfl, rfl⟩ | ⟨g, cap, cur, rfl, _⟩ <;> exact ⟨_, _, rfl⟩
theorem owns_low {w : World} {B B' e size n : Nat} {v : Value} {L : List Value} (h : w.ownsRow B e size v n L) (hb : B' ≤ B) : w.ownsRow B' e size v n L :=
  ⟨h.1, h.2.imp id fun ⟨g, cap, cur, a, b, r⟩ => ⟨g, cap, cur, a, Nat.le_trans hb b, r⟩⟩
theorem owns_below {w w' : World} {B e size n : Nat} {v : Value} {L : List Value} (h : w.ownsRow B e size v n L) (hb : Below w.heap.size w w') : w'.ownsRow B e size v n L :=
  owns_same h fun i hi => hb.block i (Array.getElem?_eq_some_iff.1 (owns_block h hi).2.choose_spec).1
/-- What own gives: the program with its own lists of constants and code. -/
def Own (p : Pg) (xs : List Con) (ys : List Ins) (W : World) (e : Ending) (w' : World) : Prop := ∃ s1 s2 : Sl, e = .returned ({ p with cons := s1, code := s2 } : Pg).v ∧ s1.n = xs.length ∧ s2.n = ys.length ∧ w'.ownsRow W.heap.size 53 3 s1.v s1.n (conCells xs) ∧ w'.ownsRow W.heap.size 46 5 s2.v s2.n (insCells ys) ∧ Below W.heap.size W w'
set_option maxHeartbeats 4000000 in
set_option maxRecDepth 100000 in
theorem own_all (p : Pg) (xs : List Con) (ys : List Ins) (W : World) (hx : RowAt W p.cons (conCells xs)) (hxn : p.cons.n = xs.length) (hx2 : xs.length ≤ 1100) (hy : RowAt W p.code (insCells ys)) (hyn : p.code.n = ys.length) (hy2 : ys.length ≤ 5000) :
    Calls Tryd.prog 15 #[p.v] W fun e w' => Own p xs ys W e w' := by
  obtain ⟨W2, hW2⟩ : ∃ W2, W2 = ((W.alloc (.cells p.cells 29)).alloc (.cells pz 29)).drew := ⟨_, rfl⟩
  have s1 : ∀ o, (W.alloc o).heap.size = W.heap.size + 1 := fun o => heap_size_alloc W o
  have hb : Below W.heap.size W W2 := by
    subst hW2
    exact (((Below.refl _ W).alloc (Nat.le_refl _) _).alloc (by rw [s1]; omega) _).drew
  have hz : W2.heap.size = W.heap.size + 2 := by subst hW2; show ((W.alloc _).alloc _).heap.size = _; rw [heap_size_alloc, s1]
  have f1 : W2.heap[W.heap.size]? = some (.cells p.cells 29) := by
    subst hW2
    show ((W.alloc _).alloc _).heap[_]? = _
    rw [Below.heap_alloc _ _ _ (by rw [s1]; omega)]; exact heap_alloc_new W _
  have f2 : W2.heap[W.heap.size + 1]? = some (.cells pz 29) := by
    subst hW2
    show ((W.alloc _).alloc _).heap[_]? = _
    have := heap_alloc_new (W.alloc (.cells p.cells 29)) (.cells pz 29)
    rw [s1] at this; exact this
  have hC1 : Calls Tryd.prog 24 #[p.cons.v] W2 fun e w' => ∃ a c, e = .returned (.slice a p.cons.n c) ∧ w'.ownsRow W2.heap.size 53 3 (.slice a p.cons.n c) p.cons.n (conCells xs) ∧ Below W2.heap.size W2 w' := by
    refine (clone_con xs p.cons W2 (hx.on hb (Nat.le_refl _)) hxn hx2).mono ?_
    rintro e w' ⟨v', rfl, ho, hb'⟩
    obtain ⟨a, c, rfl⟩ := owns_slice ho
    exact ⟨a, c, rfl, ho, hb'⟩
  have hC2 : ∀ w1, Below W2.heap.size W2 w1 → Calls Tryd.prog 25 #[p.code.v] w1 fun e w' => ∃ a c, e = .returned (.slice a p.code.n c) ∧ w'.ownsRow w1.heap.size 46 5 (.slice a p.code.n c) p.code.n (insCells ys) ∧ Below w1.heap.size w1 w' := by
    intro w1 h1
    refine (clone_ins ys p.code w1 ((hy.on hb (Nat.le_refl _)).on h1 (Nat.le_refl _)) hyn hy2).mono ?_
    rintro e w' ⟨v', rfl, ho, hb'⟩
    obtain ⟨a, c, rfl⟩ := owns_slice ho
    exact ⟨a, c, rfl, ho, hb'⟩
  have d1 := blk_cell f1
  rw [hW2] at hC1 d1
  have HE := Lib.hid hW2
  have H1 := Lib.hid hC1
  have H2 := Lib.hid hC2
  have HF1 := Lib.hid f1
  have HF2 := Lib.hid f2
  have HZ := Lib.hid hz
  have HXN := Lib.hid hxn
  have HYN := Lib.hid hyn
  have HB := Lib.hid hb
  clear hW2 hC1 hC2 f1 f2 hz hx hy hxn hyn s1 hb
  go_enter Tryd.func15, Tryd.ntmps15
  go_wp2
  go_region_with (first
    | (go_at_call 24
       refine H1.out.mono ?_
       rintro e w1 ⟨a1, n1, rfl, ho1, hb1⟩
       rw [← HE.out] at hb1 ho1
       have c1 := blk_cell ((hb1.block _ (by rw [HZ.out]; omega)).trans HF1.out)
       have g1 := blk_frozen ((hb1.block _ (by rw [HZ.out]; omega)).trans HF1.out))
    | (go_at_call 25
       refine (H2.out _ hb1).mono ?_
       rintro e w2 ⟨a2, n2, rfl, ho2, hb2⟩
       have hb12 := hb1.trans (hb2.mono hb1.size)
       have c2 := blk_cell ((hb12.block _ (by rw [HZ.out]; omega)).trans HF1.out)
       have g2 := blk_frozen ((hb12.block _ (by rw [HZ.out]; omega)).trans HF1.out)
       have c3 := blk_cell ((hb12.block _ (by rw [HZ.out]; omega)).trans HF2.out)
       have g3 := blk_frozen ((hb12.block _ (by rw [HZ.out]; omega)).trans HF2.out)))
  all_goals go_wp2
  all_goals
    rw [HZ.out] at ho1
    have ho1' := owns_below ho1 hb2
    have ho2' := owns_low ho2 (B' := W.heap.size + 2) (by have := hb1.size; rw [HZ.out] at this; omega)
    refine bodyPost_ret (v := ({ p with cons := ⟨a1, p.cons.n, n1⟩, code := ⟨a2, p.code.n, n2⟩ } : Pg).v) (by simp [results, Tryd.results15, go_sem, c3]) rfl ⟨⟨a1, p.cons.n, n1⟩, ⟨a2, p.code.n, n2⟩, rfl, HXN.out, HYN.out, ?_, ?_, ?_⟩
    · refine owns_low (B := W.heap.size + 2) ?_ (by omega)
      repeat (refine ownsRow_setCell_below ?_ (by simp) _)
      exact ho1'
    · refine owns_low (B := W.heap.size + 2) ?_ (by omega)
      repeat (refine ownsRow_setCell_below ?_ (by simp) _)
      exact ho2'
    · repeat (first | refine Below.setCell ?_ (by simp) _)
      exact HB.out.trans (hb12.mono HB.out.size)
end Go.Proofs.YtkpaphoeldcakaaDoor.Gr
