/- GenReads, by hand: part H17. -/
import Derived.Test.YtkpaphoeldcakaaDoorH17a
namespace Go.Proofs.YtkpaphoeldcakaaDoor.Gr
open Go Go.Proofs Go.RowKit Go.Lib
attribute [local go_sem ↓] Go.wp_at_zero Go.wp_at_succ
set_option maxHeartbeats 4000000 in
set_option maxRecDepth 100000 in
theorem may_good {tb : Obj} (hS : Tells tb 31 15) (hF : Tells tb 32 10) (W0 : World) (B f : Nat) (p : Pg) (q : Pl) (ev : Ev) (tt free : Int) (W : World) (h1 : 0 ≤ tt) (h2 : 0 ≤ free) (h3 : tt ≤ free) (ht : Tr W0 B Len f ev) (hw : Below B W0 W) (hB : B ≤ W.heap.size) (hsrc : Src W0 B q.src) (hT : TOK tb W) :
    Calls Tryd.prog 14 #[p.v, ev.v, q.v, .int .i64 tt, .int .i64 free] W fun e w' => IsMay (Tr W0 B (Here q.src.n) f ev) e ∧ Below W.heap.size W w' := by
  have hd : (tt < 0) = False := by simp; omega
  have hd2 : (free < 0) = False := by simp; omega
  have hd3 : (free < tt) = False := by simp; omega
  obtain ⟨W3, hW3⟩ : ∃ W3, W3 = (((W.alloc (.cells p.cells 29)).alloc (.cells ev.cells 33)).alloc (.cells q.cells 36)).drew := ⟨_, rfl⟩
  have s1 : ∀ o, (W.alloc o).heap.size = W.heap.size + 1 := fun o => heap_size_alloc W o
  have s2 : ∀ o o2, ((W.alloc o).alloc o2).heap.size = W.heap.size + 2 := fun o o2 => by rw [heap_size_alloc, s1]
  have s3 : ∀ o o2 o3, (((W.alloc o).alloc o2).alloc o3).heap.size = W.heap.size + 3 := fun o o2 o3 => by rw [heap_size_alloc, s2]
  have hb : Below W.heap.size W W3 := by
    subst hW3
    exact ((((Below.refl _ W).alloc (Nat.le_refl _) _).alloc (by rw [s1]; omega) _).alloc (by rw [s2]; omega) _).drew
  have hz : W3.heap.size = W.heap.size + 3 := by subst hW3; exact s3 _ _ _
  have f1 : W3.heap[W.heap.size]? = some (.cells p.cells 29) := by
    subst hW3
    show (((W.alloc _).alloc _).alloc _).heap[_]? = _
    rw [Below.heap_alloc _ _ _ (by rw [s2]; omega), Below.heap_alloc _ _ _ (by rw [s1]; omega)]; exact heap_alloc_new W _
  have f2 : W3.heap[W.heap.size + 1]? = some (.cells ev.cells 33) := by
    subst hW3
    show (((W.alloc _).alloc _).alloc _).heap[_]? = _
    rw [Below.heap_alloc _ _ _ (by rw [s2]; omega)]
    have := heap_alloc_new (W.alloc (.cells p.cells 29)) (.cells ev.cells 33)
    rw [s1] at this; exact this
  have f3 : W3.heap[W.heap.size + 1 + 1]? = some (.cells q.cells 36) := by
    subst hW3
    show (((W.alloc _).alloc _).alloc _).heap[_]? = _
    have := heap_alloc_new ((W.alloc (.cells p.cells 29)).alloc (.cells ev.cells 33)) (.cells q.cells 36)
    rw [s2] at this; exact this
  have hon : On W0 W3 B W3 := ⟨hw.trans (hb.mono hB), Below.refl _ _, Nat.le_trans hB hb.size⟩
  have hth := there_any B p q free W3 (hsrc.on (hw.trans (hb.mono hB))) (Nat.le_trans hB hb.size)
  have hst := shaped_test hS hF W3 (hT.on hb hT.lt)
  have d1 := blk_cell f1
  have d2 := blk_cell f2
  have d3 := blk_cell f3
  rw [hW3] at hth d1 d2 d3
  have HE := Lib.hid hW3
  have HTH := Lib.hid hth
  have HF1 := Lib.hid f1
  have HF2 := Lib.hid f2
  have HF3 := Lib.hid f3
  have HZ := Lib.hid hz
  clear hW3 hth f1 f2 f3 hz s1 s2 s3
  go_enter Tryd.func14, Tryd.ntmps14
  go_upto_region 1 with (fail)
  go_cut [11] (fun s11 wx => ∃ b, s11 = .bool b ∧ Hid ((b = false → Tr W0 B (Here q.src.n) f ev) ∧ Below W3.heap.size W3 wx))
  case first =>
    go_region_held3 (fun w' => (∀ j, w'.cell? ⟨W.heap.size, j, none⟩ = p.cells[j]?) ∧ (∀ j, w'.cell? ⟨W.heap.size + 1, j, none⟩ = ev.cells[j]?) ∧ (∀ j, w'.cell? ⟨W.heap.size + 1 + 1, j, none⟩ = q.cells[j]?))
      (first | exact ⟨e1, e2, e3⟩ | exact ⟨c1, c2, c3⟩ | exact ⟨d1, d2, d3⟩)
      (first
        | (go_at_call 22
           refine HTH.out.mono ?_
           rintro e w2 ⟨x, y, z, rfl, hb2, hT2⟩
           rw [← HE.out] at hb2
           have c1 := blk_cell ((hb2.block _ (by rw [HZ.out]; omega)).trans HF1.out)
           have c2 := blk_cell ((hb2.block _ (by rw [HZ.out]; omega)).trans HF2.out)
           have c3 := blk_cell ((hb2.block _ (by rw [HZ.out]; omega)).trans HF3.out))
        | (go_at_call 21
           refine (all39 W0 w2 B x y z (Here q.src.n) hT2 f ev ht _ ⟨hon.tree.trans (hb2.mono hon.low), Below.refl _ _, Nat.le_trans hon.low hb2.size⟩).mono ?_
           rintro e w3 ⟨b, rfl, hr, hb3⟩
           have hb23 := hb2.trans (hb3.mono hb2.size)
           have e1 := blk_cell ((hb23.block _ (by rw [HZ.out]; omega)).trans HF1.out)
           have e2 := blk_cell ((hb23.block _ (by rw [HZ.out]; omega)).trans HF2.out)
           have e3 := blk_cell ((hb23.block _ (by rw [HZ.out]; omega)).trans HF3.out)))
    all_goals (go_wp2_with fail)
    all_goals go_meet
    all_goals exact ⟨_, rfl, Lib.hid ⟨fun h => hr (by simpa using h), hb23⟩⟩
  case rest =>
    obtain ⟨b, rfl, hbb⟩ := hcut
    have hbw := hbb.out.2
    have hon2 := hon.on hbw
    have e2 := blk_cell ((hbw.block _ (by rw [HZ.out]; omega)).trans HF2.out)
    clear d1 d2 d3
    cases b
    · go_wp2_with (first
        | (go_at_call 21
           refine (all23 W0 W3 B (fun _ => True) hst f ev ht _ hon2).mono ?_
           rintro e w4 ⟨b4, rfl, _, hb4⟩))
      all_goals go_ret
      all_goals exact ⟨⟨_, rfl, fun _ => by first | exact hbb.out.1 rfl | exact hbb.out.1 trivial | simpa using hbb.out.1⟩, (hb.trans (hbw.mono hb.size)).trans (hb4.mono (hb.trans (hbw.mono hb.size)).size)⟩
    · go_wp2
      go_ret
      exact ⟨⟨_, rfl, fun h => by cases h⟩, hb.trans (hbw.mono hb.size)⟩
theorem may_any {tb : Obj} (hS : Tells tb 31 15) (hF : Tells tb 32 10) (W0 : World) (B f : Nat) (p : Pg) (q : Pl) (ev : Ev) (tt free : Int) (W : World) (ht : Tr W0 B Len f ev) (hw : Below B W0 W) (hB : B ≤ W.heap.size) (hsrc : Src W0 B q.src) (hT : TOK tb W) :
    Calls Tryd.prog 14 #[p.v, ev.v, q.v, .int .i64 tt, .int .i64 free] W fun e w' => IsMay (0 ≤ tt ∧ tt ≤ free ∧ Tr W0 B (Here q.src.n) f ev) e ∧ Below W.heap.size W w' := by
  by_cases h : tt < 0 ∨ free < 0 ∨ free < tt
  · exact may_bad _ p q ev tt free W h
  · refine (may_good hS hF W0 B f p q ev tt free W (by omega) (by omega) (by omega) ht hw hB hsrc hT).mono ?_
    rintro e w' ⟨⟨r, rfl, hr⟩, hb⟩
    exact ⟨⟨r, rfl, fun h0 => ⟨by omega, by omega, hr h0⟩⟩, hb⟩
end Go.Proofs.YtkpaphoeldcakaaDoor.Gr
