/- GenReads, by hand: part H26. -/
import Derived.Test.YtkpaphoeldcakaaDoorH25
namespace Go.Proofs.YtkpaphoeldcakaaDoor.Gr
open Go Go.Proofs Go.RowKit Go.Lib
attribute [local go_sem ↓] Go.wp_at_zero Go.wp_at_succ
set_option maxHeartbeats 4000000 in
set_option maxRecDepth 100000 in
theorem same_any (ver regs binds : Int) (names curs sorts tots : Sl) (ca ca2 : Option Addr) (nc cc cc2 : Nat) (da da2 : Option Addr) (nd dc dc2 : Nat) (W : World) (h : SameIn W names curs sorts tots ca ca2 nc da da2 nd) :
    Calls Tryd.prog 8 #[(⟨ver, regs, binds, names, ⟨ca, nc, cc⟩, curs, sorts, tots, ⟨da, nd, dc⟩⟩ : Pg).v, (⟨ver, regs, binds, names, ⟨ca2, nc, cc2⟩, curs, sorts, tots, ⟨da2, nd, dc2⟩⟩ : Pg).v] W fun e w' => e = .returned (.bool true) ∧ Below W.heap.size W w' := by
  have H := Lib.hid h
  obtain ⟨W2, hW2⟩ : ∃ W2, W2 = (W.alloc (.cells (⟨ver, regs, binds, names, ⟨ca, nc, cc⟩, curs, sorts, tots, ⟨da, nd, dc⟩⟩ : Pg).cells 29)).alloc (.cells (⟨ver, regs, binds, names, ⟨ca2, nc, cc2⟩, curs, sorts, tots, ⟨da2, nd, dc2⟩⟩ : Pg).cells 29) := ⟨_, rfl⟩
  have s1 : ∀ o, (W.alloc o).heap.size = W.heap.size + 1 := fun o => heap_size_alloc W o
  have hb : Below W.heap.size W W2 := by
    subst hW2
    exact ((Below.refl _ W).alloc (Nat.le_refl _) _).alloc (by rw [s1]; omega) _
  have hz : W2.heap.size = W.heap.size + 2 := by subst hW2; rw [heap_size_alloc, s1]
  have h2 : Two W (⟨ver, regs, binds, names, ⟨ca, nc, cc⟩, curs, sorts, tots, ⟨da, nd, dc⟩⟩ : Pg) (⟨ver, regs, binds, names, ⟨ca2, nc, cc2⟩, curs, sorts, tots, ⟨da2, nd, dc2⟩⟩ : Pg) W2 := by
    subst hW2
    refine ⟨hb, ?_, ?_⟩
    · rw [Below.heap_alloc _ _ _ (by rw [s1]; omega)]; exact heap_alloc_new W _
    · have := heap_alloc_new (W.alloc (.cells (⟨ver, regs, binds, names, ⟨ca, nc, cc⟩, curs, sorts, tots, ⟨da, nd, dc⟩⟩ : Pg).cells 29)) (.cells (⟨ver, regs, binds, names, ⟨ca2, nc, cc2⟩, curs, sorts, tots, ⟨da2, nd, dc2⟩⟩ : Pg).cells 29)
      rw [s1] at this; exact this
  have hN : ∀ w, w = W2 → Calls Tryd.prog 17 #[.slice names.a names.n names.c, .slice names.a names.n names.c] w fun e w' => e = .returned (.bool true) ∧ Below W2.heap.size W2 w' := by
    intro w hw
    rw [hw]
    refine texts_any names.a names.n names.c W2 (fun i hi => ?_) h.n1
    obtain ⟨g, o, e1, hg, x, hx⟩ := h.names i hi
    exact ⟨g, o, e1, by omega, x, (hb.cell (p := ⟨g, _, none⟩) hg).trans hx⟩
  have d1 := blk_cell h2.b0
  have d2 := blk_cell h2.b1
  rw [hW2] at d1 d2
  have HE := Lib.hid hW2
  have HN := Lib.hid hN
  have HT := Lib.hid h2
  have HZ := Lib.hid hz
  clear hW2 hN h2 hz s1 h
  go_enter Tryd.func8, Tryd.ntmps8
  go_upto_region 3 with (first
    | (go_at_call 17
       refine (HN.out _ HE.out.symm).mono ?_
       rintro e w1 ⟨rfl, hb1⟩
       have ht1 : Hid (Two W (⟨ver, regs, binds, names, ⟨ca, nc, cc⟩, curs, sorts, tots, ⟨da, nd, dc⟩⟩ : Pg) (⟨ver, regs, binds, names, ⟨ca2, nc, cc2⟩, curs, sorts, tots, ⟨da2, nd, dc2⟩⟩ : Pg) w1) := Lib.hid (HT.out.on (by rw [← HZ.out]; exact hb1))
       have c1 := blk_cell ht1.out.b0
       have c2 := blk_cell ht1.out.b1))
  go_upto_block 0 with (fail)
  go_cut [4] from 5 (fun s4 wx => Hid (Two W (⟨ver, regs, binds, names, ⟨ca, nc, cc⟩, curs, sorts, tots, ⟨da, nd, dc⟩⟩ : Pg) (⟨ver, regs, binds, names, ⟨ca2, nc, cc2⟩, curs, sorts, tots, ⟨da2, nd, dc2⟩⟩ : Pg) wx))
  case first =>
    go_wp2_with (fail)
    go_loopg [88] (nc) (fun lft i wr => ∃ (kk : Nat), kk + lft = nc ∧ i = .int .i64 kk ∧ Hid (Two W (⟨ver, regs, binds, names, ⟨ca, nc, cc⟩, curs, sorts, tots, ⟨da, nd, dc⟩⟩ : Pg) (⟨ver, regs, binds, names, ⟨ca2, nc, cc2⟩, curs, sorts, tots, ⟨da2, nd, dc2⟩⟩ : Pg) wr))
    case atStart => exact ⟨0, by omega, rfl, ht1⟩
    case round =>
      obtain ⟨kk, hl, rfl, ht⟩ := hrel
      have c1 := blk_cell ht.out.b0
      have c2 := blk_cell ht.out.b1
      by_cases hlk : kk < nc
      · have hlt : ((kk : Int) < (nc : Int)) = True := by simp; omega
        have hlt2 := H.out.n5
        obtain ⟨g, o, g2, o2, k, q, s, e1, e2, hg, hg2, x0, x1, x2, y0, y1, y2⟩ := H.out.cons kk hlk
        have d0 : wr.cell? ⟨g, o + kk * 3, none⟩ = some (.int .u8 k) := ht.out.cell (by first | exact hg | exact hg2) (by first | exact x0 | exact x1 | exact x2 | exact x3 | exact x4 | exact y0 | exact y1 | exact y2 | exact y3 | exact y4)
        have f0 : wr.cell? ⟨g2, o2 + kk * 3, none⟩ = some (.int .u8 k) := ht.out.cell (by first | exact hg | exact hg2) (by first | exact x0 | exact x1 | exact x2 | exact x3 | exact x4 | exact y0 | exact y1 | exact y2 | exact y3 | exact y4)
        have d1 : wr.cell? ⟨g, o + kk * 3 + 1, none⟩ = some (.int .i64 q) := ht.out.cell (by first | exact hg | exact hg2) (by first | exact x0 | exact x1 | exact x2 | exact x3 | exact x4 | exact y0 | exact y1 | exact y2 | exact y3 | exact y4)
        have f1 : wr.cell? ⟨g2, o2 + kk * 3 + 1, none⟩ = some (.int .i64 q) := ht.out.cell (by first | exact hg | exact hg2) (by first | exact x0 | exact x1 | exact x2 | exact x3 | exact x4 | exact y0 | exact y1 | exact y2 | exact y3 | exact y4)
        have d2 : wr.cell? ⟨g, o + kk * 3 + 2, none⟩ = some (.string s) := ht.out.cell (by first | exact hg | exact hg2) (by first | exact x0 | exact x1 | exact x2 | exact x3 | exact x4 | exact y0 | exact y1 | exact y2 | exact y3 | exact y4)
        have f2 : wr.cell? ⟨g2, o2 + kk * 3 + 2, none⟩ = some (.string s) := ht.out.cell (by first | exact hg | exact hg2) (by first | exact x0 | exact x1 | exact x2 | exact x3 | exact x4 | exact y0 | exact y1 | exact y2 | exact y3 | exact y4)
        have he := fun w => neq53 k q s w
        have hg0 : ∀ (op : BinOp) (a b : Operand) (w : World), (eqGuard op 53 a b (.agg #[.int .u8 k, .int .i64 q, .string s]) (.agg #[.int .u8 k, .int .i64 q, .string s])).run Tryd.prog w = .ok () w := fun op a b w => run_eqGuard_agg w op 53 a b _ _ (by kernel_rfl)
        clear x0 x1 x2 y0 y1 y2
        go_wp2
        go_quiet (fail)
        go_wp2
        go_roundg (nc - kk - 1)
        case measure => omega
        case rel => exact ⟨kk + 1, by omega, by first | rfl | go_num, Lib.hid (ht.out.drewN _)⟩
      · have hlt : ((kk : Int) < (nc : Int)) = False := by simp; omega
        go_wp2_with fail
        go_meet
        exact ht
  case rest =>
    rename (∀ (a : Act) (w : World), Code.wp _ _ _ a w → _) => hK
    refine hK _ _ ?_
    exact ssuf1 ver regs binds names curs sorts tots ca ca2 nc cc cc2 da da2 nd dc dc2 W wc H hcut _ _ _ _ _ _ _ _ _ _ _ _ _ _ _ _ _ _ _ _ _ _ _ _ _ _ _ _ _ _ _ _ _ _ _ _ _ _ _ _ _ _ _ _ _ _ _ _ _ _ _ _ _ _ _ _ _ _ _ _ _ _ _ _ _ _ _ _ _ _ _ _ _ _ _ _ _ _ _ _ _ _ _ _ _ _ _ _ _ _ _ _ _ _ _ _ _ _ _ _ _ _ _ _ _ _ _ _ _ _ _ _ _ _ _ _ _ _ _ _ _ _ _ _ _ _ _ _ _ _ _ _ _ _ _ _ _ _ _ _ _ _ _ _ _ _ _ _ _ _ _ _ _ _ _ _ _ _ _ _ _ _ _ _ _ _ _ _ _ _ _ _ _ _ _ _ _ _ _ _ _ _ _ _ _ _ _ _ _ _ _ _ _ _ _ _ _ _ _ _ _ _ _ _ _ _ _ _ _
end Go.Proofs.YtkpaphoeldcakaaDoor.Gr
