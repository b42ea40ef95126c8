/- GenReads, by hand: part H20. -/
import Derived.Test.YtkpaphoeldcakaaDoorH19
namespace Go.Proofs.YtkpaphoeldcakaaDoor.Gr
open Go Go.Proofs Go.RowKit Go.Lib
attribute [local go_sem ↓] Go.wp_at_zero Go.wp_at_succ
theorem Tr.raise {w : World} {B B' : Nat} (hB : B ≤ B') {Q : Ev → Prop} : ∀ {f : Nat} {e : Ev}, Tr w B Q f e → Tr w B' Q f e
  | 0, _, h => h
  | f + 1, e, h => ⟨h.1, fun i hi => by
    obtain ⟨g, o, e', h1, h2, h3, h4⟩ := h.2 i hi
    exact ⟨g, o, e', h1, by omega, h3, Tr.raise hB h4⟩⟩
theorem Src.raise {w : World} {B B' : Nat} (hB : B ≤ B') {s : Sl} (h : Src w B s) : Src w B' s := fun a ha => by
  obtain ⟨g, o, c, q, h1, h2, h3, h4⟩ := h a ha
  exact ⟨g, o, c, q, h1, by omega, h3, h4⟩
/-- Expr's own four blocks. -/
structure Four (p : Pg) (ev : Ev) (q : Pl) (S : Nat) (w : World) : Prop where
  b0 : w.heap[S]? = some (.cells p.cells 29)
  b1 : w.heap[S + 1]? = some (.cells ev.cells 33)
  b2 : w.heap[S + 1 + 1]? = some (.cells q.cells 36)
  b3 : w.heap[S + 1 + 1 + 1]? = some (.cells pz 29)
theorem Four.on {p : Pg} {ev : Ev} {q : Pl} {S : Nat} {w w' : World} (h : Four p ev q S w) (hb : Below (S + 4) w w') : Four p ev q S w' :=
  ⟨(hb.block _ (by omega)).trans h.b0, (hb.block _ (by omega)).trans h.b1, (hb.block _ (by omega)).trans h.b2, (hb.block _ (by omega)).trans h.b3⟩
theorem four_made (p : Pg) (ev : Ev) (q : Pl) (W : World) : Four p ev q W.heap.size ((((W.alloc (.cells p.cells 29)).alloc (.cells ev.cells 33)).alloc (.cells q.cells 36)).alloc (.cells pz 29)) ∧
    ((((W.alloc (.cells p.cells 29)).alloc (.cells ev.cells 33)).alloc (.cells q.cells 36)).alloc (.cells pz 29)).heap.size = W.heap.size + 4 ∧ Below W.heap.size W ((((W.alloc (.cells p.cells 29)).alloc (.cells ev.cells 33)).alloc (.cells q.cells 36)).alloc (.cells pz 29)) := by
  have s1 : ∀ o, (W.alloc o).heap.size = W.heap.size + 1 := fun o => heap_size_alloc W o
  have s2 : ∀ o o2, ((W.alloc o).alloc o2).heap.size = W.heap.size + 2 := fun o o2 => by rw [heap_size_alloc, s1]
  have s3 : ∀ o o2 o3, (((W.alloc o).alloc o2).alloc o3).heap.size = W.heap.size + 3 := fun o o2 o3 => by rw [heap_size_alloc, s2]
  refine ⟨⟨?_, ?_, ?_, ?_⟩, by rw [heap_size_alloc, s3], ((((Below.refl _ W).alloc (Nat.le_refl _) _).alloc (by rw [s1]; omega) _).alloc (by rw [s2]; omega) _).alloc (by rw [s3]; omega) _⟩
  · rw [Below.heap_alloc _ _ _ (by rw [s3]; omega), Below.heap_alloc _ _ _ (by rw [s2]; omega), Below.heap_alloc _ _ _ (by rw [s1]; omega)]; exact heap_alloc_new W _
  · rw [Below.heap_alloc _ _ _ (by rw [s3]; omega), Below.heap_alloc _ _ _ (by rw [s2]; omega)]
    have := heap_alloc_new (W.alloc (.cells p.cells 29)) (.cells ev.cells 33)
    rw [s1] at this; exact this
  · rw [Below.heap_alloc _ _ _ (by rw [s3]; omega)]
    have := heap_alloc_new ((W.alloc (.cells p.cells 29)).alloc (.cells ev.cells 33)) (.cells q.cells 36)
    rw [s2] at this; exact this
  · have := heap_alloc_new (((W.alloc (.cells p.cells 29)).alloc (.cells ev.cells 33)).alloc (.cells q.cells 36)) (.cells pz 29)
    rw [s3] at this; exact this
/-- What the law asks of a program that was made. -/
structure Done (P : Int → Prop) (p : Pg) (xs : List Con) (ys : List Ins) (B : Nat) (w' : World) (p2 : Pg) (cs : List Con) (zs : List Ins) : Prop where
  ver : p2.ver = p.ver
  binds : p2.binds = p.binds
  names : p2.names = p.names
  curs : p2.curs = p.curs
  sorts : p2.sorts = p.sorts
  tots : p2.tots = p.tots
  regs : p.regs ≤ p2.regs
  regs2 : p2.regs ≤ max p.regs 250
  con : w'.ownsRow B 53 3 p2.cons.v p2.cons.n (conCells (xs ++ cs))
  ins : w'.ownsRow B 46 5 p2.code.v p2.code.n (insCells (ys ++ zs))
  cn : p2.cons.n = (xs ++ cs).length
  yn : p2.code.n = (ys ++ zs).length
  cn2 : (xs ++ cs).length ≤ 1100
  yn2 : (ys ++ zs).length ≤ 5000
  right : ∀ z ∈ zs, okOp z.o ∧ P z.a ∧ z.a < p2.regs
/-- What Expr gives. -/
def Exd (P : Int → Prop) (p : Pg) (xs : List Con) (ys : List Ins) (W : World) (e : Ending) (w' : World) : Prop :=
  ∃ (p2 : Pg) (r : Int), e = .returned (.tuple #[p2.v, .int .i64 r]) ∧ Below W.heap.size W w' ∧ (r = 0 → ∃ cs zs, Done P p xs ys W.heap.size w' p2 cs zs)
/-- A program's nine cells are stored. -/
abbrev set9 (w : World) (X : Nat) (p : Pg) : World :=
  ((((((((w.setCell ⟨X, 0, none⟩ (.int .i64 p.ver)).setCell ⟨X, 1, none⟩ (.int .i64 p.regs)).setCell ⟨X, 2, none⟩ (.int .i64 p.binds)).setCell ⟨X, 3, none⟩ (.slice p.names.a p.names.n p.names.c)).setCell ⟨X, 4, none⟩ (.slice p.cons.a p.cons.n p.cons.c)).setCell ⟨X, 5, none⟩ (.slice p.curs.a p.curs.n p.curs.c)).setCell ⟨X, 6, none⟩ (.slice p.sorts.a p.sorts.n p.sorts.c)).setCell ⟨X, 7, none⟩ (.slice p.tots.a p.tots.n p.tots.c)).setCell ⟨X, 8, none⟩ (.slice p.code.a p.code.n p.code.c)
/-- The maker that Expr begins with. -/
abbrev mk0 (p : Pg) (q : Pl) (s1 s2 : Sl) : Mk := ⟨p.ver, p.regs, p.binds, p.names, s1, p.curs, p.sorts, p.tots, s2, q.src, q.keys, q.tot, 0⟩
theorem mk_made {p : Pg} {q : Pl} {s1 s2 : Sl} {xs : List Con} {ys : List Ins} {B B' : Nat} {w : World} (hB : B ≤ w.heap.size) (hB' : B ≤ B') (o1 : w.ownsRow B' 53 3 s1.v s1.n (conCells xs)) (o2 : w.ownsRow B' 46 5 s2.v s2.n (insCells ys)) (n1 : s1.n = xs.length) (n2 : s2.n = ys.length) (hx : xs.length ≤ 1100) (hy : ys.length ≤ 5000) :
    MkAt (w.alloc (.cells (mk0 p q s1 s2).cells 66)) w.heap.size B (mk0 p q s1 s2) xs ys :=
  ⟨heap_alloc_new _ _, (owns_low o1 hB').alloc _, (owns_low o2 hB').alloc _, hB, n1, n2, hx, hy⟩
set_option maxHeartbeats 4000000 in
set_option maxRecDepth 100000 in
theorem expr_top (P : Int → Prop) {tb : Obj} (hS : Tells tb 31 15) (hF : Tells tb 32 10) (p : Pg) (ev : Ev) (q : Pl) (tt free : Int) (xs : List Con) (ys : List Ins) (W : World) (f : Nat)
    (ht : Tr W W.heap.size Len f ev) (hsm : Tr W W.heap.size (fun e => e.kids.n ≤ 1000000) f ev) (hsrc : Src W W.heap.size q.src)
    (hx : RowAt W p.cons (conCells xs)) (hxn : p.cons.n = xs.length) (hx2 : xs.length ≤ 1100) (hy : RowAt W p.code (insCells ys)) (hyn : p.code.n = ys.length) (hy2 : ys.length ≤ 5000)
    (hP1 : P tt) (hP2 : ∀ r, free ≤ r → P r) (hfree : free < 9223372036854775808) (hT : TOK tb W) :
    Calls Tryd.prog 7 #[p.v, ev.v, q.v, .int .i64 tt, .int .i64 free] W fun e w' => Exd P p xs ys W e w' := by
  obtain ⟨h4, h4s, h4b⟩ := four_made p ev q W
  obtain ⟨W4, hW4⟩ : ∃ W4, W4 = ((((W.alloc (.cells p.cells 29)).alloc (.cells ev.cells 33)).alloc (.cells q.cells 36)).alloc (.cells pz 29)) := ⟨_, rfl⟩
  rw [← hW4] at h4 h4s h4b
  have ht4 := (ht.on h4b).raise (B' := W4.heap.size) h4b.size
  have hsm4 := (hsm.on h4b).raise (B' := W4.heap.size) h4b.size
  have hsrc4 := (hsrc.on h4b).raise (B' := W4.heap.size) h4b.size
  have hM : ∀ w, w = W4 → Calls Tryd.prog 14 #[p.v, ev.v, q.v, .int .i64 tt, .int .i64 free] w fun e w' => IsMay (0 ≤ tt ∧ tt ≤ free ∧ Tr W4 W4.heap.size (Here q.src.n) f ev) e ∧ Below W4.heap.size W4 w' := by
    intro w hw
    rw [hw]
    exact may_any hS hF W4 W4.heap.size f p q ev tt free W4 ht4 (Below.refl _ _) (Nat.le_refl _) hsrc4 (hT.on h4b hT.lt)
  have hO : ∀ w, Below W4.heap.size W4 w → Calls Tryd.prog 15 #[p.v] w fun e w' => Own p xs ys w e w' := fun w hb =>
    own_all p xs ys w ((hx.on h4b (Nat.le_refl _)).on hb (Nat.le_refl _)) hxn hx2 ((hy.on h4b (Nat.le_refl _)).on hb (Nat.le_refl _)) hyn hy2
  have d0 := blk_cell h4.b0
  have d1 := blk_cell h4.b1
  have d2 := blk_cell h4.b2
  rw [hW4] at d0 d1 d2
  have HE := Lib.hid hW4
  have HM := Lib.hid hM
  have HO := Lib.hid hO
  have H4S := Lib.hid h4s
  have HP2 := Lib.hid hP2
  clear hW4 hM hO h4s hP2 hx hy hxn hyn ht hsm hsrc
  go_enter Tryd.func7, Tryd.ntmps7
  go_upto_region 2 with (first
    | (go_at_call 14
       refine (HM.out _ HE.out.symm).mono ?_
       rintro e w1 ⟨⟨r, rfl, hr⟩, hb1⟩
       have f1 := h4.on (w' := w1) (by rw [← H4S.out]; exact hb1)
       have c0 := blk_cell f1.b0
       have c1 := blk_cell f1.b1
       have c2 := blk_cell f1.b2))
  have hbw1 := h4b.trans (hb1.mono h4b.size)
  by_cases hr0 : r = 0
  · obtain ⟨ht0, htf, htr⟩ := hr hr0
    subst hr0
    have htp : Tr W4 W4.heap.size (Part q.src.n) f ev := (htr.and hsm4).mono fun e h => ⟨h.1, h.2⟩
    have hs1 : W.heap.size + 4 ≤ w1.heap.size := by have := hb1.size; rw [H4S.out] at this; exact this
    have HS1 := Lib.hid hs1
    have hsrc4' := hsrc4
    clear hr d0 d1 d2 htr ht4 hsm4 hs1
    go_upto_region 4 with (fail)
    go_cut [13] (fun s13 wx => ∃ mb s1 s2, s13 = .pointer (some ⟨mb, 0, none⟩) ∧ Hid (MkAt wx mb W4.heap.size (mk0 p q s1 s2) xs ys ∧ Below W4.heap.size W4 wx))
    case first =>
      go_region_with (first
        | (go_at_call 15
           refine (HO.out _ (hb1.drew)).mono ?_
           rintro e w2 ⟨s1, s2, rfl, n1, n2, o1, o2, hb2⟩
           have N1 := Lib.hid n1
           have N2 := Lib.hid n2
           clear n1 n2
           have f2 := (show Four p ev q W.heap.size w1.drew from ⟨f1.b0, f1.b1, f1.b2, f1.b3⟩).on (hb2.mono HS1.out)
           have c3 := blk_cell f2.b0
           have c4 := blk_cell f2.b1
           have c5 := blk_cell f2.b2))
      all_goals (go_wp2_with fail)
      all_goals go_meet
      all_goals exact ⟨w2.heap.size, s1, s2, rfl, Lib.hid ⟨mk_made (Nat.le_trans hb1.size hb2.size) hb1.size o1 o2 N1.out N2.out hx2 hy2, (hb1.drew.trans (hb2.mono hb1.size)).alloc (Nat.le_trans hb1.size hb2.size) _⟩⟩
    case rest =>
      obtain ⟨mb, s1, s2, rfl, hmk⟩ := hcut
      have f3 := h4.on (w' := wc) (by rw [← H4S.out]; exact hmk.out.2)
      have c6 := blk_cell f3.b0
      have c7 := blk_cell f3.b1
      have c8 := blk_cell f3.b2
      go_upto_if 34 with (fail)
      go_cut [14] (fun s14 wx => wx = wc ∧ ∃ F, s14 = .int .i64 F ∧ Hid (tt < 250 → 0 ≤ F ∧ F < 9223372036854775808 ∧ ∀ r, F ≤ r → P r))
      case first =>
        by_cases he : tt = free
        · have hd : (tt == free) = true := by simp [he]
          have HTE := Lib.hid he
          obtain ⟨F, hFe⟩ : ∃ F, IntKind.i64.wrap (free + 1) = F := ⟨_, rfl⟩
          have HFE : Hid (tt < 250 → F = free + 1) := Lib.hid fun h => by rw [← hFe]; exact wrap_in (by omega) (by omega)
          clear he
          go_wp2_with fail
          go_meet
          exact ⟨rfl, F, rfl, Lib.hid fun h => by
            have h1 := HFE.out h
            have h2 := HTE.out
            exact ⟨by omega, by omega, fun r hr => HP2.out r (by omega)⟩⟩
        · have hd : (tt == free) = false := by simp [he]
          clear he
          go_wp2_with fail
          go_meet
          exact ⟨rfl, free, rfl, Lib.hid fun _ => ⟨by omega, hfree, HP2.out⟩⟩
      case rest =>
        obtain ⟨rfl, F, rfl, hFF⟩ := hcut
        go_upto_region 9 with (first
          | (go_at_call 16
             refine (expr_ok P W4.heap.size q.src W4 hS hF (hT.on h4b hT.lt) (hT.on h4b hT.lt).lt hsrc4' f ev htp mb (mk0 p q s1 s2) xs ys tt F _ hmk.out.1 rfl hmk.out.2 (fun _ => ⟨hP1, by omega⟩) (fun _ => hFF.out)).mono ?_
             rintro e w5 ⟨rfl, m5, xs5, ys5, hg5, hm5, hf5⟩
             have c9 := blk_cell hm5.at_
             have hb5 := hmk.out.2.trans (hmk.out.1.fr_below hf5)
             have f5 := h4.on (w' := w5) (by rw [← H4S.out]; exact hb5)
             have c10 := blk_cell f5.b0
             have c11 := blk_cell f5.b3
             have g11 := blk_frozen f5.b3))
        have hbw5 := h4b.trans (hb5.mono h4b.size)
        clear c0 c1 c2 c6 c7 c8
        by_cases hbad : m5.bad = 0
        · have hd : (m5.bad == 0) = true := by simp [hbad]
          have HBAD := Lib.hid hbad
          have hne : mb ≠ W.heap.size + 1 + 1 + 1 := by have := hmk.out.1.hB; rw [H4S.out] at this; omega
          clear hbad
          go_wp2
          obtain ⟨_, r1, r2, cs, zs, rfl, rfl, hz⟩ := hg5.good HBAD.out
          obtain ⟨a1, a2, a3, a4, a5, a6, _, _, _⟩ := hg5.same
          have o1 := hm5.con
          have o2 := hm5.ins
          rw [H4S.out] at o1 o2
          refine bodyPost_ret (v := .tuple #[(⟨m5.ver, m5.regs, m5.binds, m5.names, m5.cons, m5.curs, m5.sorts, m5.tots, m5.code⟩ : Pg).v, .int .i64 0]) (by simp [results, Tryd.results7, go_sem, c11]) rfl
            ⟨⟨m5.ver, m5.regs, m5.binds, m5.names, m5.cons, m5.curs, m5.sorts, m5.tots, m5.code⟩, 0, rfl, ?_, fun _ => ⟨cs, zs, a1, a2, a3, a4, a5, a6, r1, r2, ?_, ?_, hm5.hx, hm5.hy, hm5.hx2, hm5.hy2, hz⟩⟩
          · repeat (refine Below.setCell ?_ (show W.heap.size ≤ W.heap.size + 1 + 1 + 1 by omega) _)
            exact hbw5
          · refine owns_low (B := W.heap.size + 4) ?_ (by omega)
            repeat (refine ownsRow_setCell_below ?_ (show W.heap.size + 1 + 1 + 1 < W.heap.size + 4 by omega) _)
            exact o1
          · refine owns_low (B := W.heap.size + 4) ?_ (by omega)
            repeat (refine ownsRow_setCell_below ?_ (show W.heap.size + 1 + 1 + 1 < W.heap.size + 4 by omega) _)
            exact o2
        · have hd : (m5.bad == 0) = false := by simp [hbad]
          have HBAD := Lib.hid hbad
          clear hbad
          go_wp2
          go_region_with (first
            | (go_at_call 15
               refine (HO.out _ (hb5.drew)).mono ?_
               rintro e w6 ⟨s3, s4, rfl, -, -, -, -, hb6⟩
               have c12 := blk_cell ((hb6.block mb (hm5.has_lt (.inl rfl))).trans hm5.at_)
               have f6 := (show Four p ev q W.heap.size w5.drew from ⟨f5.b0, f5.b1, f5.b2, f5.b3⟩).on (hb6.mono (by have := hb5.size; rw [H4S.out] at this; exact this))
               have c13 := blk_cell f6.b3
               have g13 := blk_frozen f6.b3
               have c14 := blk_cell f6.b0))
          all_goals go_wp2
          all_goals
            refine bodyPost_ret (v := .tuple #[({ p with cons := s3, code := s4 } : Pg).v, .int .i64 m5.bad]) (by simp [results, Tryd.results7, go_sem, c13]) rfl ⟨_, m5.bad, rfl, ?_, fun h => absurd h HBAD.out⟩
            repeat (refine Below.setCell ?_ (show W.heap.size ≤ W.heap.size + 1 + 1 + 1 by omega) _)
            exact hbw5.drew.trans (hb6.mono hbw5.size)
  · have hd : (r == 0) = false := by simp [hr0]
    have HR0 := Lib.hid hr0
    clear hr0 d0 d1 d2
    go_wp2_with (first
      | (go_at_call 15
         refine (HO.out _ hb1).mono ?_
         rintro e w2 ⟨s1, s2, rfl, -, -, -, -, hb2⟩
         have f2 := f1.on (hb2.mono (by have := hb1.size; rw [H4S.out] at this; omega))
         have c3 := blk_cell f2.b3
         have g3 := blk_frozen f2.b3))
    refine bodyPost_ret (v := .tuple #[({ p with cons := s1, code := s2 } : Pg).v, .int .i64 r]) (by simp [results, Tryd.results7, go_sem, c3]) rfl ⟨_, r, rfl, ?_, fun h => absurd h HR0.out⟩
    repeat (refine Below.setCell ?_ (show W.heap.size ≤ W.heap.size + 1 + 1 + 1 by omega) _)
    exact hbw1.trans (hb2.mono hbw1.size)
end Go.Proofs.YtkpaphoeldcakaaDoor.Gr
