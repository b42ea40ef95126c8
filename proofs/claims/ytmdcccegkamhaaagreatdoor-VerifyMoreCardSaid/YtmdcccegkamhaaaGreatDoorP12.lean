/- The program's verify, flow and code, followed by hand: part 12. -/
import Derived.Test.YtmdcccegkamhaaaGreatDoorP11
import Derived.Deep.CutBlock
import Derived.Deep.CutRange
import Derived.Deep.DeepCutAuto
set_option maxHeartbeats 4000000
set_option maxRecDepth 100000
set_option linter.unusedSectionVars false
set_option linter.unusedVariables false
set_option linter.unusedSimpArgs false
namespace Go.Proofs.Vf
open Go Go.Proofs Go.RowKit Go.Lib Go.Maps Go.ChangeMaps
open Go.Proofs.Vg (Lp inside insF insFrom top prod doneF upd putAll beginF stepF runF st0 boundF Sm St)
attribute [local go_sem ↓] Go.wp_at_zero Go.wp_at_succ
theorem bound_bad (p : Pg) (W : World) (rows : Int) (c : Int) (hc : (c == 0) = false) (hlp : ∀ w, Below W.heap.size W w → Calls Tryz.prog 9 #[p.v] w fun e w' => (∃ s : Sl, e = .returned (.tuple #[.slice s.a s.n s.c, .int .i64 c])) ∧ Below w.heap.size w w') :
 Calls Tryz.prog 10 #[p.v, .int .i64 rows] W fun e w' => e = .returned (.tuple #[.int .i64 0, .int .i64 c]) ∧ Below W.heap.size W w' := by
 have hc2 : (c != 0) = true := by simpa using hc
 obtain ⟨ver, regs, binds, names, cons, curs, sorts, tots, ⟨ca, cn, cc⟩⟩ := p
 have HLP := Lib.hid hlp
 clear hlp
 go_enter Tryz.func10, Tryz.ntmps10
 go_wp2_with (first | (go_at_call 9; with_reducible refine (HLP.out _ (by with_reducible repeat (first | exact Below.refl _ _ | exact Below.one _ _ | refine Below.drew ?_ | refine Below.drewN ?_ _ | refine Below.new ?_ _))).mono ?_; rintro e w2 ⟨⟨s, rfl⟩, hb2⟩))
 refine bodyPost_ret (v := .tuple #[.int .i64 0, .int .i64 c]) (by simp [results, Tryz.results10, go_sem]) rfl ⟨rfl, (Below.one W _).on hb2⟩
structure Ahead (W : World) (p : Pg) (D : Dat) : Prop where
 has : Has W p D
 jumps : Jumps D
 small : D.code.length ≤ 4000
 nest : nestB (begs 0 D.code) = true
 lp : ∀ w, Below W.heap.size W w → Calls Tryz.prog 9 #[p.v] w fun e w' => (∃ s : Sl, e = .returned (.tuple #[.slice s.a s.n s.c, .int .i64 0]) ∧ Lps w' s (loopsL D.code)) ∧ Below w.heap.size w w'
theorem Ahead.writes {W : World} {p : Pg} {D : Dat} (h : Ahead W p D) {w : World} (hb : Below W.heap.size W w) {s : Sl} (hl : Lps w s (loopsL D.code)) : Calls Tryz.prog 26 #[p.v, .slice s.a s.n s.c] w fun e w' => e = .returned (.bool (writesF D.code (loopsL D.code))) ∧ Below w.heap.size w w' :=
 writes_any p D w (h.has.on hb) h.small s _ hl
theorem bound_write (p : Pg) (D : Dat) (W : World) (rows : Int) (h : Ahead W p D) (hw : writesF D.code (loopsL D.code) = false) :
 Calls Tryz.prog 10 #[p.v, .int .i64 rows] W fun e w' => e = .returned (.tuple #[.int .i64 0, .int .i64 143]) ∧ Below W.heap.size W w' := by
 have hwr := fun w hb s hl => h.writes (w := w) hb (s := s) hl
 rw [hw] at hwr
 obtain ⟨ver, regs, binds, names, cons, curs, sorts, tots, ⟨ca, cn, cc⟩⟩ := p
 have hbox : ∀ w, Below (W.alloc (.cells (⟨ver, regs, binds, names, cons, curs, sorts, tots, ⟨ca, cn, cc⟩⟩ : Pg).cells 29)).heap.size (W.alloc (.cells (⟨ver, regs, binds, names, cons, curs, sorts, tots, ⟨ca, cn, cc⟩⟩ : Pg).cells 29)) w → Below W.heap.size W w ∧ (∀ j, w.cell? ⟨W.heap.size, j, none⟩ = (⟨ver, regs, binds, names, cons, curs, sorts, tots, ⟨ca, cn, cc⟩⟩ : Pg).cells[j]?) := fun w hb =>
  ⟨(Below.one W _).on hb, blk_cell ((hb.block _ (by rw [heap_size_alloc]; omega)).trans (heap_alloc_new _ _))⟩
 have HO := Lib.hid hbox
 have HLP := Lib.hid h.lp
 have HWR := Lib.hid hwr
 clear h hwr hw hbox
 go_enter Tryz.func10, Tryz.ntmps10
 go_wp2_with (first
  | (go_at_call 9; with_reducible refine (HLP.out _ (by with_reducible repeat (first | exact Below.refl _ _ | exact Below.one _ _ | refine Below.drew ?_ | refine Below.drewN ?_ _ | refine Below.new ?_ _))).mono ?_; rintro e w2 ⟨⟨s, rfl, hl2⟩, hb2⟩; have hx2 := HO.out _ hb2; have k2 := hx2.2)
  | (go_at_call 26; with_reducible refine (HWR.out _ hx2.1 _ hl2).mono ?_; rintro e w3 ⟨rfl, hb3⟩))
 refine bodyPost_ret (v := .tuple #[.int .i64 0, .int .i64 143]) (by simp [results, Tryz.results10, go_sem]) rfl ⟨rfl, hx2.1.on hb3⟩
theorem bound_neg (p : Pg) (D : Dat) (W : World) (rows : Int) (h : Ahead W p D) (hw : writesF D.code (loopsL D.code) = true) (hr : rows < 0) :
 Calls Tryz.prog 10 #[p.v, .int .i64 rows] W fun e w' => e = .returned (.tuple #[.int .i64 0, .int .i64 2]) ∧ Below W.heap.size W w' := by
 have hwr := fun w hb s hl => h.writes (w := w) hb (s := s) hl
 rw [hw] at hwr
 have hr' : (rows < 0) = True := by simpa using hr
 obtain ⟨ver, regs, binds, names, cons, curs, sorts, tots, ⟨ca, cn, cc⟩⟩ := p
 have hbox : ∀ w, Below (W.alloc (.cells (⟨ver, regs, binds, names, cons, curs, sorts, tots, ⟨ca, cn, cc⟩⟩ : Pg).cells 29)).heap.size (W.alloc (.cells (⟨ver, regs, binds, names, cons, curs, sorts, tots, ⟨ca, cn, cc⟩⟩ : Pg).cells 29)) w → Below W.heap.size W w ∧ (∀ j, w.cell? ⟨W.heap.size, j, none⟩ = (⟨ver, regs, binds, names, cons, curs, sorts, tots, ⟨ca, cn, cc⟩⟩ : Pg).cells[j]?) := fun w hb =>
  ⟨(Below.one W _).on hb, blk_cell ((hb.block _ (by rw [heap_size_alloc]; omega)).trans (heap_alloc_new _ _))⟩
 have HO := Lib.hid hbox
 have HLP := Lib.hid h.lp
 have HWR := Lib.hid hwr
 clear h hwr hw hbox
 go_enter Tryz.func10, Tryz.ntmps10
 go_wp2_with (first
  | (go_at_call 9; with_reducible refine (HLP.out _ (by with_reducible repeat (first | exact Below.refl _ _ | exact Below.one _ _ | refine Below.drew ?_ | refine Below.drewN ?_ _ | refine Below.new ?_ _))).mono ?_; rintro e w2 ⟨⟨s, rfl, hl2⟩, hb2⟩; have hx2 := HO.out _ hb2; have k2 := hx2.2)
  | (go_at_call 26; with_reducible refine (HWR.out _ hx2.1 _ hl2).mono ?_; rintro e w3 ⟨rfl, hb3⟩))
 refine bodyPost_ret (v := .tuple #[.int .i64 0, .int .i64 2]) (by simp [results, Tryz.results10, go_sem]) rfl ⟨rfl, hx2.1.on hb3⟩
theorem bound_ok (p : Pg) (D : Dat) (W : World) (rows : Nat) (h : Ahead W p D) (hw : writesF D.code (loopsL D.code) = true) (hr : rows ≤ 9223372036854775807) (hwc : ∀ i ∈ D.code, (Lit.int .i64 i.a).wf = true) (hcap : p.code.n ≤ p.code.c) (h1 : 1 ≤ D.code.length) :
 Calls Tryz.prog 10 #[p.v, .int .i64 rows] W fun e w' => e = .returned (.tuple #[.int .i64 (boundF D.code (loopsL D.code) rows : Nat), .int .i64 0]) ∧ Below W.heap.size W w' := by
 have hwr := fun w hb s hl => h.writes (w := w) hb (s := s) hl
 rw [hw] at hwr
 have hr' : ((rows : Int) < 0) = False := by simp
 have hmm := @run_makeMap Tryz.prog
 obtain ⟨gc, oc, hca, hgc, _, _⟩ := h.has.ins (List.getElem?_eq_getElem h1 : D.code[0]? = _)
 obtain ⟨ver, regs, binds, names, cons, curs, sorts, tots, ⟨ca, cn, cc⟩⟩ := p
 obtain rfl : ca = some ⟨gc, oc, none⟩ := hca
 have hbox : ∀ w, Below (W.alloc (.cells (⟨ver, regs, binds, names, cons, curs, sorts, tots, ⟨some ⟨gc, oc, none⟩, cn, cc⟩⟩ : Pg).cells 29)).heap.size (W.alloc (.cells (⟨ver, regs, binds, names, cons, curs, sorts, tots, ⟨some ⟨gc, oc, none⟩, cn, cc⟩⟩ : Pg).cells 29)) w → Below W.heap.size W w ∧ (∀ j, w.cell? ⟨W.heap.size, j, none⟩ = (⟨ver, regs, binds, names, cons, curs, sorts, tots, ⟨some ⟨gc, oc, none⟩, cn, cc⟩⟩ : Pg).cells[j]?) := fun w hb =>
  ⟨(Below.one W _).on hb, blk_cell ((hb.block _ (by rw [heap_size_alloc]; omega)).trans (heap_alloc_new _ _))⟩
 have HO := Lib.hid hbox
 have HLP := Lib.hid h.lp
 have HWR := Lib.hid hwr
 have HH := Lib.hid h
 clear h hwr hw hbox
 go_enter Tryz.func10, Tryz.ntmps10
 go_wp2_with (first
  | (go_at_call 9; with_reducible refine (HLP.out _ (by with_reducible repeat (first | exact Below.refl _ _ | exact Below.one _ _ | refine Below.drew ?_ | refine Below.drewN ?_ _ | refine Below.new ?_ _))).mono ?_; rintro e w2 ⟨⟨s, rfl, hl2⟩, hb2⟩; have hx2 := HO.out _ hb2; have k2 := hx2.2)
  | (go_at_call 26; with_reducible refine (HWR.out _ hx2.1 _ hl2).mono ?_; rintro e w3 ⟨rfl, hb3⟩; have hy3 := (HO.out _ (hb2.on hb3)); have k3 := fun a b c => (HO.out _ (((((hb2.on hb3).new a).new b).new c))).2; have hl3 := hl2.on hb3))
 have hW3 : W.heap.size + 1 ≤ w3.heap.size := by have := hb2.size; have := hb3.size; rw [heap_size_alloc] at *; omega
 have HL3 := Lib.hid hl3
 have HY3 := Lib.hid hy3.1
 clear hx2 k2 hl2 hb2 hb3 hy3 hl3
 obtain ⟨L, hL⟩ : ∃ L, L = loopsL D.code := ⟨_, rfl⟩
 have HL0 : Hid (L = loopsL D.code) := Lib.hid hL
 rw [← hL] at HL3
 clear hL
 have HMIN : Hid ((min (rows : Int) 1152921504606846976) = ((min rows top : Nat) : Int)) := Lib.hid (by unfold top; omega)
 have HCN : Hid (cn = D.code.length) := Lib.hid HH.out.has.code.len
 go_loopg [9, 10, 42] cn (fun lft nv nx i wr => ∃ kk : Nat, kk + lft = cn ∧ i = .int .i64 kk ∧ nv = .int .i64 ((runF D.code L 0 (D.code.take kk) (st0 rows)).n : Nat) ∧ nx = .int .i64 ((runF D.code L 0 (D.code.take kk) (st0 rows)).next : Nat) ∧ Hid (Below w3.heap.size w3 wr ∧ w3.heap.size + 3 ≤ wr.heap.size ∧ (runF D.code L 0 (D.code.take kk) (st0 rows)).next ≤ kk ∧ Sm (runF D.code L 0 (D.code.take kk) (st0 rows)) ∧ ∃ n1, n1 ≤ kk ∧
  Cnt wr (w3.heap.size + 1 + 1) w3.heap.size (w3.heap.size + 1) n1 (runF D.code L 0 (D.code.take kk) (st0 rows)).next (⟨ver, regs, binds, names, cons, curs, sorts, tots, ⟨some ⟨gc, oc, none⟩, cn, cc⟩⟩ : Pg) s (runF D.code L 0 (D.code.take kk) (st0 rows)).rows (runF D.code L 0 (D.code.take kk) (st0 rows)).sorted (runF D.code L 0 (D.code.take kk) (st0 rows)).rounds))
 case atStart =>
  refine ⟨0, by omega, rfl, rfl, rfl, Lib.hid ⟨?_, ?_, Nat.le_refl _, Vg.st0_small _, 0, Nat.le_refl _, ?_⟩⟩
  · exact ((Below.one w3 _).new _).new _
  · rw [heap_size_alloc, heap_size_alloc, heap_size_alloc]; omega
  · rw [HMIN.out]
    refine ⟨topb (by simp only [heap_size_alloc]), ⟨fun _ => none, ?_, fun _ _ => rfl⟩, ⟨fun _ => none, ?_, fun _ => rfl⟩⟩
    · exact ((OwnM.made w3).on (Below.one _ _)).on (Below.one _ _)
    · have := (OwnM.made (w3.alloc (.map #[] 0))).on (Below.one _ (.cells (cntC (⟨ver, regs, binds, names, cons, curs, sorts, tots, ⟨some ⟨gc, oc, none⟩, cn, cc⟩⟩ : Pg) s (min rows top) w3.heap.size (w3.heap.size + 1)) 75))
      rw [heap_size_alloc] at this
      exact this
 case round =>
  obtain ⟨kk, hl, rfl, rfl, rfl, hst⟩ := hrel
  by_cases hlk : kk < cn
  · have hlt' : ((kk : Int) < (cn : Int)) = True := by simp; omega
    obtain ⟨i, hi2⟩ : ∃ i, D.code[kk]? = some i := ⟨_, List.getElem?_eq_getElem (by have := HCN.out; omega)⟩
    have hnext := runF_take (c2 := D.code) (l := L) hi2 (st0 rows)
    obtain ⟨g', o', e1, _, _, hd⟩ := HH.out.has.ins hi2
    injection e1 with e1; injection e1 with q1 q2
    subst q1 q2
    have hbW : Below W.heap.size W wr := HY3.out.on hst.out.1
    obtain ⟨d0, d1, d2, d3, d4⟩ := hd wr hbW
    have hkk4 : kk < 4000 := by have := HCN.out; have := HH.out.small; omega
    have hia := hwc i (List.mem_of_getElem? hi2)
    obtain ⟨st, hS⟩ : ∃ st, st = runF D.code L 0 (D.code.take kk) (st0 rows) := ⟨_, rfl⟩
    rw [← hS] at hst hnext
    rw [← hS]
    have HS := Lib.hid hS
    have HNX := Lib.hid hnext
    clear hS hnext hd
    obtain ⟨hq1, hq2, hq3, hq4, n1, hq5, hcnt⟩ := hst.out
    have HLP2 : Hid (∀ w, Below wr.heap.size wr w → Lps w s L) := Lib.hid fun w hb => HL3.out.on (hq1.on hb)
    have hdone : ∀ w, Below wr.heap.size wr w → Calls Tryz.prog 27 #[.pointer (some ⟨w3.heap.size + 1 + 1, 0, none⟩), .int .i64 kk] w fun e w' => e = .returned (.int .i64 (doneF L st.rounds kk : Nat)) ∧ Below w.heap.size w w' := fun w hb => by
     have hc := hcnt.on hb
     obtain ⟨f2, hm2, hf2⟩ := hc.m2
     exact done_any w _ _ _ _ (⟨ver, regs, binds, names, cons, curs, sorts, tots, ⟨some ⟨gc, oc, none⟩, cn, cc⟩⟩ : Pg) s L st.rows hc.blk (HLP2.out w hb) f2 hm2 st.rounds hf2 hq4.rounds kk (by omega)
    have hdl : doneF L st.rounds kk ≤ top := Vg.done_le _ _ _
    obtain ⟨q, hq⟩ : ∃ q, q = doneF L st.rounds kk := ⟨_, rfl⟩
    rw [← hq] at hdone hdl
    have hplus : ∀ w, Calls Tryz.prog 28 #[.int .i64 (st.n : Nat), .int .i64 (q : Nat)] w fun e w' => e = .returned (.int .i64 (Vg.plus st.n q : Nat)) ∧ w' = w := fun w => plus_any _ _ hq4.n hdl w
    have HD := Lib.hid hdone
    have HPN := Lib.hid hplus
    have HQ := Lib.hid hq
    have HC := Lib.hid hcnt
    have HSM := Lib.hid hq4
    clear hdone hplus hq hcnt hq4
    obtain ⟨io, ia, ib, ic, id⟩ := i
    go_upto_block 3 with (first
     | (go_at_call 27; with_reducible refine (HD.out _ (by with_reducible repeat (first | exact Below.refl _ _ | exact Below.one _ _ | refine Below.drew ?_ | refine Below.drewN ?_ _ | refine Below.new ?_ _))).mono ?_; rintro e w5 ⟨rfl, hb5⟩
        have hb6 := (Below.one wr _).on hb5
        have k5 := blk_cell ((hb5.block wr.heap.size (by rw [heap_size_alloc]; omega)).trans (heap_alloc_new wr _)))
     | (go_at_call 28; with_reducible refine (HPN.out _).mono ?_; rintro e w6 ⟨rfl, rfl⟩))
    have hc5 : Cnt w6 (w3.heap.size + 1 + 1) w3.heap.size (w3.heap.size + 1) n1 st.next (⟨ver, regs, binds, names, cons, curs, sorts, tots, ⟨some ⟨gc, oc, none⟩, cn, cc⟩⟩ : Pg) s st.rows st.sorted st.rounds := HC.out.on hb6
    have hb36 : Below w3.heap.size w3 w6 := hq1.on hb6
    have hsz6 : w3.heap.size + 3 ≤ w6.heap.size := Nat.le_trans hq2 hb6.size
    have HC5 := Lib.hid hc5
    have HB6 := Lib.hid (And.intro hb6 (And.intro hb36 hsz6))
    have hcw := blk_cell hc5.blk
    clear hc5 hb36 hsz6 hb5 hb6 d0 d1 d2 d3 d4 hst
    go_cut [] from 53 to 90 (fun wx => Hid (Below w3.heap.size w3 wx ∧ w3.heap.size + 3 ≤ wx.heap.size ∧ ∃ n1, n1 ≤ kk + 1 ∧ Cnt wx (w3.heap.size + 1 + 1) w3.heap.size (w3.heap.size + 1) n1 (sw L kk ⟨io, ia, ib, ic, id⟩ st).next (⟨ver, regs, binds, names, cons, curs, sorts, tots, ⟨some ⟨gc, oc, none⟩, cn, cc⟩⟩ : Pg) s (sw L kk ⟨io, ia, ib, ic, id⟩ st).rows (sw L kk ⟨io, ia, ib, ic, id⟩ st).sorted (sw L kk ⟨io, ia, ib, ic, id⟩ st).rounds))
    case first =>
     by_cases h20 : io = 20
     · subst h20
       obtain ⟨f1, hm1, hf1⟩ := HC5.out.m1
       obtain ⟨f2, hm2, hf2⟩ := HC5.out.m2
       have hsw : sw L kk ⟨20, ia, ib, ic, id⟩ st = { st with n := Vg.plus st.n (doneF L st.rounds kk), sorted := upd st.sorted ia (Vg.plus (st.sorted ia) q) } := by
        rw [HQ.out]; rfl
       have hlk : (Instr.lookup 55 (.map (some w3.heap.size)) (.int .i64 ia) false).run Tryz.prog w6.drew = .ok (.int .i64 (st.sorted ia : Nat)) w6.drew := by
        have h1 := (hm1.on (Below.refl _ w6).drew).look hia
        rw [hf1 ia hia] at h1; exact h1
       have hpl2 : ∀ w, Calls Tryz.prog 28 #[.int .i64 (st.sorted ia : Nat), .int .i64 (q : Nat)] w fun e w' => e = .returned (.int .i64 (Vg.plus (st.sorted ia) q : Nat)) ∧ w' = w := fun w => plus_any _ _ (HSM.out.sorted ia) hdl w
       have hsl : Vg.plus (st.sorted ia) q ≤ top := Vg.plus_le _ _
       have hsw2 : (Lit.int .i64 ((Vg.plus (st.sorted ia) q : Nat) : Int)).wf = true := wf_nat (by unfold top at hsl; omega)
       have hrel : ∀ w7, OwnM w7 w3.heap.size (n1 + 1) (updO f1 ia (Vg.plus (st.sorted ia) q : Nat)) → w6.drew.grownBy w7 (some w3.heap.size) → Hid (Below w3.heap.size w3 w7 ∧ w3.heap.size + 3 ≤ w7.heap.size ∧ ∃ n1, n1 ≤ kk + 1 ∧ Cnt w7 (w3.heap.size + 1 + 1) w3.heap.size (w3.heap.size + 1) n1 st.next (⟨ver, regs, binds, names, cons, curs, sorts, tots, ⟨some ⟨gc, oc, none⟩, cn, cc⟩⟩ : Pg) s st.rows (upd st.sorted ia (Vg.plus (st.sorted ia) q)) st.rounds) := fun w7 ho hg =>
        have h6 : w6.drew.heap.size = w6.heap.size := rfl
        have hz := hg.size
        Lib.hid ⟨HB6.out.2.1.drew.grown hg (by have := HB6.out.2.2; omega) (fun k hk => by injection hk with hk; omega), by have := HB6.out.2.2; omega, n1 + 1, by omega,
         (hg.block _ (by have := HB6.out.2.2; omega) (by simp; omega)).trans HC5.out.blk, ⟨_, ho, upd_fits1 hf1 ia _⟩, ⟨f2, hm2.block (hg.block _ (by have := HB6.out.2.2; omega) (by simp)), hf2⟩⟩
       have HSW := Lib.hid hsw
       have HRL := Lib.hid hrel
       have HM1 := Lib.hid (hm1.on (Below.refl _ w6).drew)
       have HPL := Lib.hid hpl2
       have hn1 : n1 < maxLen := by unfold maxLen; omega
       clear hsw hrel hm1 hm2 hf1 hf2 hpl2 hsl
       go_wp2
       refine (fun (key : ∀ w7, OwnM w7 w3.heap.size (n1 + 1) (updO f1 ia (Vg.plus (st.sorted ia) q : Nat)) → w6.drew.grownBy w7 (some w3.heap.size) → (?Tail : World → Prop) w7) => ?main) ?kp
       case main =>
        go_region_with (first
         | (go_at_call 28; with_reducible refine (HPL.out _).mono ?_; rintro e w8 ⟨rfl, rfl⟩)
         | (with_reducible refine upon_put HM1.out hn1 hia hsw2 ?_; intro w7 hown7 hgrow7))
        all_goals exact key w7 hown7 hgrow7
       intro w7 hown7 hgrow7
       go_wp2
       go_meet
       case rel =>
        rw [HSW.out]
        exact HRL.out w7 hown7 hgrow7
     by_cases h29 : io = 29
     · subst h29
       have hins : ∀ w, Below w6.heap.size w6 w → Calls Tryz.prog 11 #[.slice s.a s.n s.c, .int .i64 kk] w fun e w' => (∃ va vn vc, e = .returned (.slice va vn vc) ∧ vn = (insF L kk).length) ∧ Below w.heap.size w w' := fun w hb =>
        (inside_any w s L (HLP2.out w (HB6.out.1.on hb)) kk (by omega)).mono fun e w' ⟨⟨v, he, hv⟩, hb'⟩ => ⟨⟨v.a, v.n, v.c, he, hv.len⟩, hb'⟩
       have HIN := Lib.hid hins
       clear hins
       cases hik : insF L kk with
       | nil =>
         simp only [hik] at HIN
         have hsw : sw L kk ⟨29, ia, ib, ic, id⟩ st = { st with n := Vg.plus st.n (doneF L st.rounds kk), rows := Vg.plus st.rows 1 } := by
          unfold sw; rw [if_neg (by simp), if_pos ⟨rfl, hik⟩]
         have hpl2 : ∀ w, Calls Tryz.prog 28 #[.int .i64 (st.rows : Nat), .int .i64 1] w fun e w' => e = .returned (.int .i64 (Vg.plus st.rows 1 : Nat)) ∧ w' = w := fun w => plus_any _ 1 HSM.out.rows (by decide) w
         have hk8 : ∀ w8, Below w6.heap.size w6 w8 → w8.heap[w3.heap.size + 1 + 1]? = some (.cells (cntC (⟨ver, regs, binds, names, cons, curs, sorts, tots, ⟨some ⟨gc, oc, none⟩, cn, cc⟩⟩ : Pg) s st.rows w3.heap.size (w3.heap.size + 1)) 75) := fun w8 hb => (HC5.out.on hb).blk
         have HK8 := Lib.hid hk8
         have HSW := Lib.hid hsw
         have HPL := Lib.hid hpl2
         clear hsw hpl2 hk8 hik
         go_wp2_with (first
          | (go_at_call 11; with_reducible refine (HIN.out _ (by with_reducible repeat (first | exact Below.refl _ _ | exact Below.one _ _ | refine Below.drew ?_ | refine Below.drewN ?_ _ | refine Below.new ?_ _))).mono ?_; rintro e w8 ⟨⟨va, vn, vc, rfl, rfl⟩, hb8⟩
             have hk8 := HK8.out w8 hb8
             have k8 := blk_cell hk8
             have f8 := blk_frozen hk8 10
             clear hk8)
          | (go_at_call 28; with_reducible refine (HPL.out _).mono ?_; rintro e w9 ⟨rfl, rfl⟩))
         go_meet
         case rel =>
          rw [HSW.out]
          exact Lib.hid ⟨(HB6.out.2.1.on hb8).setCell (p := ⟨w3.heap.size + 1 + 1, 10, none⟩) (by show w3.heap.size ≤ w3.heap.size + 1 + 1; omega) _, by
           rw [show ∀ (w : World) (a : Addr) (v : Value), (w.setCell a v).heap.size = w.heap.size from fun _ _ _ => by simp [World.setCell]]
           exact Nat.le_trans HB6.out.2.2 hb8.size, n1, by omega, (HC5.out.on hb8).rows (by omega) (by omega) _⟩
       | cons j js =>
         simp only [hik] at HIN
         have hsw : sw L kk ⟨29, ia, ib, ic, id⟩ st = { st with n := Vg.plus st.n (doneF L st.rounds kk) } := by
          unfold sw; rw [if_neg (by simp), if_neg (by rw [hik]; simp)]
         have HSW := Lib.hid hsw
         clear hsw hik
         go_wp2_with (first
          | (go_at_call 11; with_reducible refine (HIN.out _ (by with_reducible repeat (first | exact Below.refl _ _ | exact Below.one _ _ | refine Below.drew ?_ | refine Below.drewN ?_ _ | refine Below.new ?_ _))).mono ?_; rintro e w8 ⟨⟨va, vn, vc, rfl, rfl⟩, hb8⟩))
         go_meet
         case rel =>
          rw [HSW.out]
          exact Lib.hid ⟨HB6.out.2.1.on hb8, Nat.le_trans HB6.out.2.2 hb8.size, n1, by omega, HC5.out.on hb8⟩
     · have x20 : (io == 20) = false := by simpa using h20
       have x29 : (io == 29) = false := by simpa using h29
       have hsw : sw L kk ⟨io, ia, ib, ic, id⟩ st = { st with n := Vg.plus st.n (doneF L st.rounds kk) } := by
        unfold sw
        rw [if_neg h20, if_neg (fun h => h29 h.1)]
       have HSW := Lib.hid hsw
       clear hsw
       go_wp2
       go_meet
       case rel =>
        rw [HSW.out]
        exact Lib.hid ⟨HB6.out.2.1, HB6.out.2.2, n1, by omega, HC5.out⟩
    case rest =>
     obtain ⟨hbc, hszc, n1c, hn1c, hcc⟩ := hcut.out
     obtain ⟨s2, hs2⟩ : ∃ s2, s2 = sw L kk ⟨io, ia, ib, ic, id⟩ st := ⟨_, rfl⟩
     have hs2n : s2.n = Vg.plus st.n q := by rw [hs2, HQ.out]; unfold sw; split <;> (try split) <;> rfl
     have hs2x : s2.next = st.next := by rw [hs2]; exact sw_next _ _ _ _
     have hs2m : Sm s2 := by rw [hs2]; exact sw_small HSM.out
     have HS2 := Lib.hid hs2
     rw [← hs2] at hcc
     rw [← hs2n, ← hs2x]
     have hlc := HL3.out.on hbc
     have hsn : s.n = L.length := hlc.lst.len
     have hsmn : s.n ≤ 9223372036854775807 := hlc.lst.small
     have HSN := Lib.hid hsn
     have HCC := Lib.hid (And.intro hbc (And.intro hszc (And.intro hn1c hcc)))
     have HLC := Lib.hid hlc
     have HMM := Lib.hid hs2m
     have HX2 := Lib.hid hs2x
     clear hcut hbc hszc hcc hs2m hs2n hs2x hlc hsn hs2 k5 hcw
     cases hlx : L[s2.next]? with
     | none =>
       have hlt2 : ((s2.next : Int) < (s.n : Int)) = False := by simp; have := List.getElem?_eq_none_iff.1 hlx; have := HSN.out; omega
       have hnx2 : runF D.code L 0 (D.code.take (kk + 1)) (st0 rows) = s2 := by rw [HNX.out, stepF_sw, ← HS2.out, hlx]
       have HN2 := Lib.hid hnx2
       clear hnx2
       go_wp2
       go_roundg (cn - kk - 1)
       case measure => omega
       case rel =>
        refine ⟨kk + 1, by omega, by first | rfl | go_num, ?_⟩
        rw [HN2.out]
        exact ⟨by first | rfl | go_num, by first | rfl | go_num, Lib.hid ⟨HCC.out.1, HCC.out.2.1, by rw [HX2.out]; omega, HMM.out, n1c, HCC.out.2.2.1, HCC.out.2.2.2⟩⟩
     | some x =>
       have hlt2 : ((s2.next : Int) < (s.n : Int)) = True := by simp; have := (List.getElem?_eq_some_iff.1 hlx).1; have := HSN.out; omega
       have hnx4 : s2.next ≤ 4000 := by rw [HX2.out]; omega
       obtain ⟨gl, ol, e2, hgl, hjl, hcx⟩ := Lps.cells HLC.out.lst hlx
       obtain ⟨sa, sn, sc⟩ := s
       have e2 : sa = some ⟨gl, ol, none⟩ := e2
       subst e2
       have hjl : s2.next < sn := hjl
       have c0 := (hcx wc (Below.refl _ _)).1
       have hxm := List.mem_of_getElem? hlx
       rw [HL0.out] at hxm
       obtain ⟨hx1, hx2⟩ := loops_in HH.out.jumps x hxm
       have hxw := loops_sor hwc x hxm
       have hbg : Calls Tryz.prog 29 #[.pointer (some ⟨w3.heap.size + 1 + 1, 0, none⟩), .int .i64 s2.next] wc fun e w' => e = .returned (.tuple #[]) ∧ Cnt w' (w3.heap.size + 1 + 1) w3.heap.size (w3.heap.size + 1) n1c (s2.next + 1) (⟨ver, regs, binds, names, cons, curs, sorts, tots, ⟨some ⟨gc, oc, none⟩, cn, cc⟩⟩ : Pg) ⟨some ⟨gl, ol, none⟩, sn, sc⟩ (beginF D.code x s2.next s2).rows (beginF D.code x s2.next s2).sorted (beginF D.code x s2.next s2).rounds ∧ Below w3.heap.size wc w' :=
        begin_any wc _ _ _ n1c (⟨ver, regs, binds, names, cons, curs, sorts, tots, ⟨some ⟨gc, oc, none⟩, cn, cc⟩⟩ : Pg) D (HH.out.has.on (HY3.out.on HCC.out.1)) hcap ⟨some ⟨gl, ol, none⟩, sn, sc⟩ L s2 HCC.out.2.2.2 w3.heap.size ⟨by have := HCC.out.2.1; omega, by omega, by omega, by omega⟩ ⟨by omega, by omega, by omega⟩ hnx4 HMM.out HLC.out.lst x hlx hxw hx1 hx2 gc oc rfl (by omega)
       have HBG := Lib.hid hbg
       have HLX := Lib.hid hlx
       clear hbg hxm hx1 hx2 hxw hcx hlx
       by_cases hfr : x.fr = kk
       · have hnx2 : runF D.code L 0 (D.code.take (kk + 1)) (st0 rows) = { beginF D.code x s2.next s2 with next := s2.next + 1 } := by
          rw [HNX.out, stepF_sw, ← HS2.out, HLX.out]; exact if_pos hfr
         have hsm2 : Sm ({ beginF D.code x s2.next s2 with next := s2.next + 1 } : St) := by
          have := Vg.step_small (code := D.code) (l := L) (at_ := kk) (i := ⟨io, ia, ib, ic, id⟩) HSM.out
          rw [← HNX.out, hnx2] at this; exact this
         have HN2 := Lib.hid hnx2
         have HS4 := Lib.hid hsm2
         clear hnx2 hsm2
         rw [hfr] at c0
         go_wp2_with (first
          | (go_at_call 29; with_reducible refine HBG.out.mono ?_; rintro e w9 ⟨rfl, hc9, hb9⟩))
         go_roundg (cn - kk - 1)
         case measure => omega
         case rel =>
          refine ⟨kk + 1, by omega, by first | rfl | go_num, ?_⟩
          rw [HN2.out]
          exact ⟨by rw [show ({ beginF D.code x s2.next s2 with next := s2.next + 1 } : St).n = s2.n from beginF_n], by first | rfl | go_num, Lib.hid ⟨HCC.out.1.trans hb9, Nat.le_trans HCC.out.2.1 hb9.size, by show s2.next + 1 ≤ kk + 1; rw [HX2.out]; omega, HS4.out, n1c, HCC.out.2.2.1, hc9⟩⟩
       · have hfr2 : ((x.fr : Int) == (kk : Int)) = false := by simp; omega
         have hnx2 : runF D.code L 0 (D.code.take (kk + 1)) (st0 rows) = s2 := by rw [HNX.out, stepF_sw, ← HS2.out, HLX.out]; exact if_neg hfr
         have HN2 := Lib.hid hnx2
         have hfr3 : (x.fr = kk) = False := by simpa using hfr
         clear hnx2
         go_wp2
         go_roundg (cn - kk - 1)
         case measure => omega
         case rel =>
          refine ⟨kk + 1, by omega, by first | rfl | go_num, ?_⟩
          rw [HN2.out]
          exact ⟨by first | rfl | go_num, by first | rfl | go_num, Lib.hid ⟨HCC.out.1, HCC.out.2.1, by rw [HX2.out]; omega, HMM.out, n1c, HCC.out.2.2.1, HCC.out.2.2.2⟩⟩
  · have hlt' : ((kk : Int) < (cn : Int)) = False := by simp; omega
    have hfin : (runF D.code L 0 (D.code.take kk) (st0 rows)).n = boundF D.code (loopsL D.code) rows := by
     unfold boundF
     rw [List.take_of_length_le (by have := HCN.out; omega), HL0.out]
    have HF := Lib.hid hfin
    have HE := Lib.hid (HY3.out.on hst.out.1)
    clear hfin hst
    go_wp2
    refine bodyPost_ret (v := .tuple #[.int .i64 (boundF D.code (loopsL D.code) rows : Nat), .int .i64 0]) (by simp [results, Tryz.results10, go_sem, HF.out]) rfl ⟨rfl, HE.out⟩
end Go.Proofs.Vf
