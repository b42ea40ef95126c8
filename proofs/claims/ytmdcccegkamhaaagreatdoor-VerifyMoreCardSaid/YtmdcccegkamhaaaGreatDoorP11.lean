/- The program's verify, flow and code, followed by hand: part 11. -/
import Derived.Test.YtmdcccegkamhaaaGreatDoorP10
import Derived.Laws.EntriesVeiled
import Derived.Test.YtmdcccegkamhaaaGreatDoorP6
set_option maxHeartbeats 4000000
set_option maxRecDepth 100000
set_option linter.unusedSectionVars false
set_option linter.unusedVariables false
set_option linter.unusedSimpArgs false
namespace Go.Proofs.Vf
open Go Go.Proofs Go.RowKit Go.Lib
open Go.Proofs.Vg (Lp inside insF insFrom)
attribute [local go_sem ↓] Go.wp_at_zero Go.wp_at_succ
theorem loops_no (p : Pg) (W : World) (c : Int) (hc : (c == 0) = false) (hck : ∀ w, Below W.heap.size W w → Gives 20 #[p.v] w (.int .i64 c)) :
 Calls Tryz.prog 9 #[p.v] W fun e w' => e = .returned (.tuple #[.slice none 0 0, .int .i64 c]) ∧ Below W.heap.size W w' := by
 have hck2 : ∀ w, Below W.heap.size W w → Calls Tryz.prog 20 #[p.v] w (fun e w' => e = .returned (.int .i64 c) ∧ Below w.heap.size w w') := hck
 have hc2 : (c != 0) = true := by simpa using hc
 obtain ⟨ver, regs, binds, names, cons, curs, sorts, tots, ⟨ca, cn, cc⟩⟩ := p
 have HCK := Lib.hid hck2
 clear hck hck2
 go_enter Tryz.func9, Tryz.ntmps9
 go_wp2_with (first | (go_at_call 20; with_reducible refine (HCK.out _ (by with_reducible repeat (first | exact Below.refl _ _ | refine Below.drew ?_ | refine Below.drewN ?_ _ | refine Below.new ?_ _))).mono ?_; rintro e w2 ⟨rfl, hb2⟩))
 refine bodyPost_ret (v := .tuple #[.slice none 0 0, .int .i64 c]) (by simp [results, Tryz.results9, go_sem]) rfl ⟨rfl, (Below.one W _).on hb2⟩
theorem Rw.low {w : World} {B B' : Nat} {s : Sl} {l : List Lp} (h : Rw w B s l) (hB : B' ≤ B) : Rw w B' s l :=
 ⟨h.1, h.2.1, h.2.2.1, fun h0 => by
  obtain ⟨g, vals, e, hg, hh, hv⟩ := h.2.2.2 h0
  exact ⟨g, vals, e, Nat.le_trans hB hg, hh, hv⟩⟩
theorem found_yes (p : Pg) (D : Dat) (w : World) (hp : Has w p D) (hj : Jumps D) (hc4 : D.code.length ≤ 4000) (hao : allOK D.code 0 D.code = true) :
 Calls Tryz.prog 21 #[p.v] w fun e w' => (∃ a n c, e = .returned (.tuple #[.slice a n c, .bool (decide (ends D.code = (begs 0 D.code).length))]) ∧ Rw w' w.heap.size ⟨a, n, c⟩ (begs 0 D.code)) ∧ Below w.heap.size w w' := by
 refine (found_any p D w hp hj hc4).mono ?_
 rintro e w' ⟨(⟨h, _⟩ | ⟨_, a, c, he, ho⟩), hb⟩
 · rw [h] at hao; cases hao
 · have hl := begs_len D.code 0
   obtain ⟨s, hs, hr⟩ := owns_rw ho (by omega)
   injection hs with h1 h2 h3
   exact ⟨⟨s.a, s.n, s.c, by rw [he, h1, h2, h3], hr.low (by omega)⟩, hb⟩
theorem found_no (p : Pg) (D : Dat) (w : World) (hp : Has w p D) (hj : Jumps D) (hc4 : D.code.length ≤ 4000) (hao : allOK D.code 0 D.code = false) :
 Calls Tryz.prog 21 #[p.v] w fun e w' => e = .returned (.tuple #[.slice none 0 0, .bool false]) ∧ Below w.heap.size w w' := by
 refine (found_any p D w hp hj hc4).mono ?_
 rintro e w' ⟨(⟨_, h⟩ | ⟨h, _⟩), hb⟩
 · exact ⟨h, hb⟩
 · rw [h] at hao; cases hao
theorem nest_of (W : World) (B : Nat) (a : Option Addr) (n c : Nat) (code : List Ins) (hc4 : code.length ≤ 4000) (h : Rw W B ⟨a, n, c⟩ (begs 0 code)) (hB : B ≤ W.heap.size) :
 Calls Tryz.prog 22 #[.slice a n c] W fun e w' => e = .returned (.bool (nestB (begs 0 code))) ∧ (nestB (begs 0 code) = true → Rw w' B ⟨a, n, c⟩ (loopsL code)) ∧ Below B W w' :=
 nest_any W B ⟨a, n, c⟩ _ h hB (by have h1 := h.1; have h2 := begs_len code 0; show n ≤ 4000; have h1 : n = _ := h1; omega) (begs_zero code 0)
def LoopsP (W : World) (code : List Ins) (e : Ending) (w' : World) : Prop := (∃ s : Sl, e = .returned (.tuple #[.slice s.a s.n s.c, .int .i64 (if loopsB code then 0 else 141)]) ∧ (loopsB code = true → Lst w' s 6 lpC (loopsL code))) ∧ Below W.heap.size W w'
theorem LoopsP.no {W w' : World} {code : List Ins} (h : loopsB code = false) (hb : Below W.heap.size W w') : LoopsP W code (.returned (.tuple #[.slice none 0 0, .int .i64 141])) w' :=
 ⟨⟨⟨none, 0, 0⟩, by rw [h]; rfl, fun h2 => by rw [h] at h2; cases h2⟩, hb⟩
theorem loops_yes (p : Pg) (D : Dat) (W : World) (hp : Has W p D) (hj : Jumps D) (hc4 : D.code.length ≤ 4000) (hwc : ∀ i ∈ D.code, (Lit.int .i64 i.a).wf = true) (hck : ∀ w, Below W.heap.size W w → Gives 20 #[p.v] w (.int .i64 0)) :
 Calls Tryz.prog 9 #[p.v] W (LoopsP W D.code) := by
 have hck2 : ∀ w, Below W.heap.size W w → Calls Tryz.prog 20 #[p.v] w (fun e w' => e = .returned (.int .i64 0) ∧ Below w.heap.size w w') := hck
 have HL0 := Lib.hid hp.code.len
 have HP := Lib.hid hp
 have HJ := Lib.hid hj
 have H4 := Lib.hid hc4
 have HW := Lib.hid hwc
 have HINS := Lib.hid (fun j i (hj : D.code[j]? = some i) => hp.ins hj)
 clear hck hp hj hc4 hwc
 obtain ⟨ver, regs, binds, names, cons, curs, sorts, tots, ⟨ca, cn, cc⟩⟩ := p
 have HL : Hid (cn = D.code.length) := Lib.hid HL0.out
 have hcs : cn ≤ 9223372036854775807 := HP.out.code.small
 have hbox : ∀ w, Below (W.heap.size + 1) (W.alloc (.cells (⟨ver, regs, binds, names, cons, curs, sorts, tots, ⟨ca, cn, cc⟩⟩ : Pg).cells 29)) w → Below W.heap.size W w ∧ (∀ j, w.cell? ⟨W.heap.size, j, none⟩ = (⟨ver, regs, binds, names, cons, curs, sorts, tots, ⟨ca, cn, cc⟩⟩ : Pg).cells[j]?) := fun w hb =>
  ⟨(Below.one W _).trans (hb.mono (by omega)), blk_cell ((hb.block _ (by omega)).trans (heap_alloc_new _ _))⟩
 have HO := Lib.hid hbox
 have hb0 : ∀ w, Below (W.alloc (.cells (⟨ver, regs, binds, names, cons, curs, sorts, tots, ⟨ca, cn, cc⟩⟩ : Pg).cells 29)).heap.size (W.alloc (.cells (⟨ver, regs, binds, names, cons, curs, sorts, tots, ⟨ca, cn, cc⟩⟩ : Pg).cells 29)) w → Below (W.heap.size + 1) (W.alloc (.cells (⟨ver, regs, binds, names, cons, curs, sorts, tots, ⟨ca, cn, cc⟩⟩ : Pg).cells 29)) w := fun w hb => by rw [heap_size_alloc] at hb; exact hb
 have HB0 := Lib.hid hb0
 have HCK := Lib.hid hck2
 clear hck2 hbox hb0 HL0
 cases hao : allOK D.code 0 D.code with
 | false =>
   have hno : loopsB D.code = false := by unfold loopsB; rw [hao]; rfl
   have HNO := Lib.hid hno
   have HFD := Lib.hid (fun w (hb : Below W.heap.size W w) => found_no (⟨ver, regs, binds, names, cons, curs, sorts, tots, ⟨ca, cn, cc⟩⟩ : Pg) D w (HP.out.on hb) HJ.out H4.out hao)
   clear hno hao
   go_enter Tryz.func9, Tryz.ntmps9
   go_wp2_with (first
    | (go_at_call 20; with_reducible refine (HCK.out _ (by with_reducible repeat (first | exact Below.refl _ _ | refine Below.drew ?_ | refine Below.drewN ?_ _ | refine Below.new ?_ _))).mono ?_; rintro e w2 ⟨rfl, hb2⟩; have hx2 := HO.out _ (HB0.out _ hb2); have k2 := hx2.2)
    | (go_at_call 21; with_reducible refine (HFD.out _ hx2.1).mono ?_; rintro e w3 ⟨rfl, hb3⟩))
   refine bodyPost_ret (v := .tuple #[.slice none 0 0, .int .i64 141]) (by simp [results, Tryz.results9, go_sem]) rfl (LoopsP.no HNO.out (hx2.1.on hb3))
 | true =>
   have HFD := Lib.hid (fun w (hb : Below W.heap.size W w) => found_yes (⟨ver, regs, binds, names, cons, curs, sorts, tots, ⟨ca, cn, cc⟩⟩ : Pg) D w (HP.out.on hb) HJ.out H4.out hao)
   have HAO := Lib.hid hao
   clear hao
   cases hen : decide (ends D.code = (begs 0 D.code).length) with
   | false =>
     have hno : loopsB D.code = false := by unfold loopsB; rw [hen]; simp
     have HNO := Lib.hid hno
     simp only [hen] at HFD
     clear hno hen
     go_enter Tryz.func9, Tryz.ntmps9
     go_wp2_with (first
      | (go_at_call 20; with_reducible refine (HCK.out _ (by with_reducible repeat (first | exact Below.refl _ _ | refine Below.drew ?_ | refine Below.drewN ?_ _ | refine Below.new ?_ _))).mono ?_; rintro e w2 ⟨rfl, hb2⟩; have hy2 := HB0.out _ hb2; have hx2 := HO.out _ hy2; have k2 := hx2.2)
      | (go_at_call 21; with_reducible refine (HFD.out _ hx2.1).mono ?_; rintro e w3 ⟨⟨la, ln, lc, rfl, hr3⟩, hb3⟩))
     refine bodyPost_ret (v := .tuple #[.slice none 0 0, .int .i64 141]) (by simp [results, Tryz.results9, go_sem]) rfl (LoopsP.no HNO.out (hx2.1.on hb3))
   | true =>
     simp only [hen] at HFD
     have HEN := Lib.hid hen
     clear hen
     have hup : ∀ w2 w3, Below (W.heap.size + 1) (W.alloc (.cells (⟨ver, regs, binds, names, cons, curs, sorts, tots, ⟨ca, cn, cc⟩⟩ : Pg).cells 29)) w2 → Below w2.heap.size w2 w3 → Below (W.heap.size + 1) (W.alloc (.cells (⟨ver, regs, binds, names, cons, curs, sorts, tots, ⟨ca, cn, cc⟩⟩ : Pg).cells 29)) w3 := fun w2 w3 h2 h3 =>
      h2.trans (h3.mono (by have := h2.size; rw [heap_size_alloc] at this; omega))
     have HUP := Lib.hid hup
     clear hup
     cases hne : nestB (begs 0 D.code) with
     | false =>
       have hno : loopsB D.code = false := by unfold loopsB; rw [hne]; simp
       have HNO := Lib.hid hno
       have HNS := Lib.hid (fun w B a n c (h : Rw w B ⟨a, n, c⟩ (begs 0 D.code)) (hB : B ≤ w.heap.size) => (nest_of w B a n c D.code H4.out h hB).mono (R' := fun e w' => e = .returned (.bool false) ∧ Below B w w') fun e w' ⟨h1, _, h3⟩ => ⟨by rw [h1, hne], h3⟩)
       clear hno hne
       go_enter Tryz.func9, Tryz.ntmps9
       go_wp2_with (first
        | (go_at_call 20; with_reducible refine (HCK.out _ (by with_reducible repeat (first | exact Below.refl _ _ | refine Below.drew ?_ | refine Below.drewN ?_ _ | refine Below.new ?_ _))).mono ?_; rintro e w2 ⟨rfl, hb2⟩; have hy2 := HB0.out _ hb2; have hx2 := HO.out _ hy2; have k2 := hx2.2)
        | (go_at_call 21; with_reducible refine (HFD.out _ hx2.1).mono ?_; rintro e w3 ⟨⟨la, ln, lc, rfl, hr3⟩, hb3⟩)
        | (go_at_call 22; with_reducible refine (HNS.out _ _ _ _ _ hr3 hb3.size).mono ?_; rintro e w4 ⟨rfl, hb4⟩))
       have hy3 := HUP.out _ _ hy2 hb3
       have hy4 : Below W.heap.size W w4 := (HO.out _ hy3).1.trans (hb4.mono hx2.1.size)
       refine bodyPost_ret (v := .tuple #[.slice none 0 0, .int .i64 141]) (by simp [results, Tryz.results9, go_sem]) rfl (LoopsP.no HNO.out hy4)
     | true =>
       have HNE := Lib.hid hne
       have HNS := Lib.hid (fun w B a n c (h : Rw w B ⟨a, n, c⟩ (begs 0 D.code)) (hB : B ≤ w.heap.size) => (nest_of w B a n c D.code H4.out h hB).mono (R' := fun e w' => e = .returned (.bool true) ∧ Rw w' B ⟨a, n, c⟩ (loopsL D.code) ∧ Below B w w') fun e w' ⟨h1, h2, h3⟩ => ⟨by rw [h1, hne], h2 hne, h3⟩)
       clear hne
       have HSO := Lib.hid (fun w B a n c (hb : Below W.heap.size W w) (h : Rw w B ⟨a, n, c⟩ (loopsL D.code)) => show Calls Tryz.prog 23 #[(⟨ver, regs, binds, names, cons, curs, sorts, tots, ⟨ca, cn, cc⟩⟩ : Pg).v, .slice a n c] w (fun e w' => e = .returned (.bool (sortersF D.code (loopsL D.code))) ∧ Below w.heap.size w w') from
        sorters_any (⟨ver, regs, binds, names, cons, curs, sorts, tots, ⟨ca, cn, cc⟩⟩ : Pg) D w (HP.out.on hb) H4.out HW.out ⟨a, n, c⟩ (loopsL D.code) h.lst (by rw [loopsL_len]; have := begs_len D.code 0; have := H4.out; omega) (fun x hx => ⟨loops_sor HW.out x hx, by have := loops_low H4.out x hx; omega⟩))
       cases hso : sortersF D.code (loopsL D.code) with
       | false =>
         have hno : loopsB D.code = false := by unfold loopsB; rw [hso]; simp
         have HNO := Lib.hid hno
         simp only [hso] at HSO
         clear hno hso
         go_enter Tryz.func9, Tryz.ntmps9
         go_wp2_with (first
          | (go_at_call 20; with_reducible refine (HCK.out _ (by with_reducible repeat (first | exact Below.refl _ _ | refine Below.drew ?_ | refine Below.drewN ?_ _ | refine Below.new ?_ _))).mono ?_; rintro e w2 ⟨rfl, hb2⟩; have hy2 := HB0.out _ hb2; have hx2 := HO.out _ hy2; have k2 := hx2.2)
          | (go_at_call 21; with_reducible refine (HFD.out _ hx2.1).mono ?_; rintro e w3 ⟨⟨la, ln, lc, rfl, hr3⟩, hb3⟩)
          | (go_at_call 22; with_reducible refine (HNS.out _ _ _ _ _ hr3 hb3.size).mono ?_; rintro e w4 ⟨rfl, hr4, hb4⟩
             have hy4 := (HUP.out _ _ hy2 hb3).trans (hb4.mono (by have := hy2.size; rw [heap_size_alloc] at this; omega))
             have hx4 := HO.out _ hy4
             have k4 := hx4.2)
          | (go_at_call 23; with_reducible refine (HSO.out _ _ _ _ _ hx4.1 hr4).mono ?_; rintro e w5 ⟨rfl, hb5⟩))
         refine bodyPost_ret (v := .tuple #[.slice none 0 0, .int .i64 141]) (by simp [results, Tryz.results9, go_sem]) rfl (LoopsP.no HNO.out (hx4.1.on hb5))
       | true =>
         simp only [hso] at HSO
         have HSV := Lib.hid hso
         clear hso
         go_enter Tryz.func9, Tryz.ntmps9
         go_wp2_with (first
          | (go_at_call 20; with_reducible refine (HCK.out _ (by with_reducible repeat (first | exact Below.refl _ _ | refine Below.drew ?_ | refine Below.drewN ?_ _ | refine Below.new ?_ _))).mono ?_; rintro e w2 ⟨rfl, hb2⟩; have hy2 := HB0.out _ hb2; have hx2 := HO.out _ hy2; have k2 := hx2.2)
          | (go_at_call 21; with_reducible refine (HFD.out _ hx2.1).mono ?_; rintro e w3 ⟨⟨la, ln, lc, rfl, hr3⟩, hb3⟩)
          | (go_at_call 22; with_reducible refine (HNS.out _ _ _ _ _ hr3 hb3.size).mono ?_; rintro e w4 ⟨rfl, hr4, hb4⟩
             have hy4 := (HUP.out _ _ hy2 hb3).trans (hb4.mono (by have := hy2.size; rw [heap_size_alloc] at this; omega))
             have hx4 := HO.out _ hy4
             have k4 := hx4.2)
          | (go_at_call 23; with_reducible refine (HSO.out _ _ _ _ _ hx4.1 hr4).mono ?_; rintro e w5 ⟨rfl, hb5⟩
             have hy5 := HUP.out _ _ hy4 hb5
             have hx5 := HO.out _ hy5
             have k5 := hx5.2
             have hr5 := hr4.on hb5))
         have HX := Lib.hid (And.intro hx5 hr5.lst)
         have HZ : Hid (W.heap.size + 1 ≤ w5.heap.size) := Lib.hid (by have := hy5.size; rw [heap_size_alloc] at this; exact this)
         have hsm5 : ln ≤ 9223372036854775807 := hr5.2.1
         clear hx2 hx4 hx5 hy2 hy4 hy5 hb2 hb3 hb4 hb5 hr3 hr4 hr5 k2 k4
         obtain ⟨w0, hw0⟩ : ∃ w0, w0 = w5 := ⟨_, rfl⟩
         subst hw0
         go_loopg [35] cn (fun lft i wr => ∃ kk : Nat, kk + lft = cn ∧ i = .int .i64 kk ∧ Hid (Below w0.heap.size w0 wr ∧ allFrom (fun k i => !(entersF k i (loopsL D.code) || busyF k i (loopsL D.code))) 0 (D.code.take kk) = true))
         case atStart => exact ⟨0, by omega, rfl, Lib.hid ⟨Below.refl _ _, rfl⟩⟩
         case round =>
          obtain ⟨kk, hl, rfl, hst⟩ := hrel
          by_cases hlk : kk < cn
          · have hlt' : ((kk : Int) < (cn : Int)) = True := by simp; omega
            obtain ⟨i, hi2⟩ : ∃ i, D.code[kk]? = some i := ⟨_, List.getElem?_eq_getElem (by have := HL.out; omega)⟩
            obtain ⟨g, o, e1, hg, _, hd⟩ := HINS.out kk i hi2
            have e1 : ca = some ⟨g, o, none⟩ := e1
            subst e1
            have hbW : Below W.heap.size W wr := HX.out.1.1.on hst.out.1
            obtain ⟨d0, d1, d2, d3, d4⟩ := hd wr hbW
            have kb : ∀ o2 (j : Nat), (wr.alloc o2).cell? ⟨W.heap.size, j, none⟩ = (⟨ver, regs, binds, names, cons, curs, sorts, tots, ⟨some ⟨g, o, none⟩, cn, cc⟩⟩ : Pg).cells[j]? := fun o2 j => ((hst.out.1.on (Below.one wr o2)).cell (p := ⟨W.heap.size, j, none⟩) (show W.heap.size < w0.heap.size from HZ.out)).trans (HX.out.1.2 j)
            have hA1 := allFrom_take (fun k i => !(entersF k i (loopsL D.code) || busyF k i (loopsL D.code))) hi2
            rw [hst.out.2, Bool.true_and] at hA1
            have hkk4 : kk < 4000 := by have := HL.out; have := H4.out; omega
            have hcE := fun w (hb : Below wr.heap.size wr w) => show Calls Tryz.prog 24 #[(⟨ver, regs, binds, names, cons, curs, sorts, tots, ⟨some ⟨g, o, none⟩, cn, cc⟩⟩ : Pg).v, .int .i64 kk, .slice la ln lc] w (fun e w' => e = .returned (.bool (entersF kk i (loopsL D.code))) ∧ Below w.heap.size w w') from
             enters_any (⟨ver, regs, binds, names, cons, curs, sorts, tots, ⟨some ⟨g, o, none⟩, cn, cc⟩⟩ : Pg) D w (HP.out.on (hbW.on hb)) kk hkk4 i hi2 ⟨la, ln, lc⟩ (loopsL D.code) (HX.out.2.on (hst.out.1.on hb))
            have hcB := fun w (hb : Below wr.heap.size wr w) => show Calls Tryz.prog 25 #[i.v, .int .i64 kk, .slice la ln lc] w (fun e w' => e = .returned (.bool (busyF kk i (loopsL D.code))) ∧ Below w.heap.size w w') from
             busy_any w kk hkk4 i ⟨la, ln, lc⟩ (loopsL D.code) (HX.out.2.on (hst.out.1.on hb))
            have hfail : (entersF kk i (loopsL D.code) || busyF kk i (loopsL D.code)) = true → loopsB D.code = false := fun h => by
             have h1 := allFrom_mono (fun k i => !(entersF k i (loopsL D.code) || busyF k i (loopsL D.code))) (k := kk + 1) (code := D.code) (by rw [hA1, h]; rfl)
             unfold loopsB; rw [h1]; simp
            obtain ⟨io, ia, ib, ic, id⟩ := i
            have HA := Lib.hid hA1
            have HFA := Lib.hid hfail
            have HCE := Lib.hid hcE
            have HCB := Lib.hid hcB
            clear hd hA1 hfail hcE hcB hi2 k5
            generalize entersF kk ⟨io, ia, ib, ic, id⟩ (loopsL D.code) = bE at HA HFA HCE
            generalize busyF kk ⟨io, ia, ib, ic, id⟩ (loopsL D.code) = bB at HA HFA HCB
            cases bE
            · cases bB
              · go_wp2_with (first
                 | (go_at_call 24; with_reducible refine (HCE.out _ (by with_reducible repeat (first | exact Below.refl _ _ | exact Below.one _ _ | refine Below.drew ?_ | refine Below.drewN ?_ _ | refine Below.new ?_ _))).mono ?_; rintro e w6 ⟨rfl, hb6⟩
                    have k6 := blk_cell ((hb6.block wr.heap.size (by rw [heap_size_alloc]; omega)).trans (heap_alloc_new wr _))
                    have hb7 := (Below.one wr _).on hb6)
                 | (go_at_call 25; with_reducible refine (HCB.out _ hb7).mono ?_; rintro e w8 ⟨rfl, hb8⟩))
                go_roundg (cn - kk - 1)
                case measure => omega
                case rel => exact ⟨kk + 1, by omega, by first | rfl | go_num, Lib.hid ⟨hst.out.1.on (hb7.on hb8), by rw [HA.out]; rfl⟩⟩
              · go_wp2_with (first
                 | (go_at_call 24; with_reducible refine (HCE.out _ (by with_reducible repeat (first | exact Below.refl _ _ | exact Below.one _ _ | refine Below.drew ?_ | refine Below.drewN ?_ _ | refine Below.new ?_ _))).mono ?_; rintro e w6 ⟨rfl, hb6⟩
                    have k6 := blk_cell ((hb6.block wr.heap.size (by rw [heap_size_alloc]; omega)).trans (heap_alloc_new wr _))
                    have hb7 := (Below.one wr _).on hb6)
                 | (go_at_call 25; with_reducible refine (HCB.out _ hb7).mono ?_; rintro e w8 ⟨rfl, hb8⟩))
                refine bodyPost_ret (v := .tuple #[.slice none 0 0, .int .i64 141]) (by simp [results, Tryz.results9, go_sem]) rfl (LoopsP.no (HFA.out rfl) (hbW.on (hb7.on hb8)))
            · go_wp2_with (first
               | (go_at_call 24; with_reducible refine (HCE.out _ (by with_reducible repeat (first | exact Below.refl _ _ | exact Below.one _ _ | refine Below.drew ?_ | refine Below.drewN ?_ _ | refine Below.new ?_ _))).mono ?_; rintro e w6 ⟨rfl, hb6⟩))
              refine bodyPost_ret (v := .tuple #[.slice none 0 0, .int .i64 141]) (by simp [results, Tryz.results9, go_sem]) rfl (LoopsP.no (HFA.out rfl) (hbW.on ((Below.one wr _).on hb6)))
          · have hlt' : ((kk : Int) < (cn : Int)) = False := by simp; omega
            have hall := hst.out.2
            rw [List.take_of_length_le (by have := HL.out; omega)] at hall
            have hyes : loopsB D.code = true := by unfold loopsB; rw [HAO.out, HEN.out, HNE.out, HSV.out, hall]; rfl
            have HY := Lib.hid hyes
            clear hall hyes
            go_wp2
            refine bodyPost_ret (v := .tuple #[.slice la ln lc, .int .i64 0]) (by simp [results, Tryz.results9, go_sem]) rfl ⟨⟨⟨la, ln, lc⟩, by rw [HY.out]; rfl, fun _ => HX.out.2.on hst.out.1⟩, HX.out.1.1.on hst.out.1⟩
theorem loops_any (W0 : World) (hK : Known W0) (p : Pg) (D : Dat) (W : World) (hW : Below W0.heap.size W0 W) (hp : Has W p D) (ho : OpsOK D) (hwc : ∀ i ∈ D.code, (Lit.int .i64 i.a).wf = true) :
 Calls Tryz.prog 9 #[p.v] W fun e w' => (∃ s : Sl, e = .returned (.tuple #[.slice s.a s.n s.c, .int .i64 (loopsE p D)]) ∧ (loopsE p D = 0 → Lst w' s 6 lpC (loopsL D.code))) ∧ Below W.heap.size W w' := by
 have hck := fun w (hb : Below W.heap.size W w) => check_any W0 hK p D w (hW.on hb) (hp.on hb) ho
 by_cases hc : CheckP p D
 · have hce := checkE_yes hc
   have hle : loopsE p D = if loopsB D.code then 0 else 141 := by unfold loopsE; rw [hce, if_pos rfl]
   simp only [hce] at hck
   refine (loops_yes p D W hp (jumps_of hc hp.code.len) hc.2.2.1 hwc hck).mono ?_
   rintro e w' ⟨⟨s, he, hl⟩, hb⟩
   refine ⟨⟨s, by rw [he, hle], fun h => hl ?_⟩, hb⟩
   rw [hle] at h
   cases hB : loopsB D.code with
   | true => rfl
   | false => rw [hB] at h; simp at h
 · have hce := checkE_no hc
   have hle : loopsE p D = 140 := by unfold loopsE; rw [hce]; rfl
   simp only [hce] at hck
   refine (loops_no p W 140 rfl hck).mono ?_
   rintro e w' ⟨he, hb⟩
   exact ⟨⟨⟨none, 0, 0⟩, by rw [he, hle], fun h => by rw [hle] at h; cases h⟩, hb⟩
end Go.Proofs.Vf
namespace Go.Proofs.Vf
open Go Go.Proofs Go.RowKit Go.Lib
open Go.Proofs.Vg (top)
attribute [local go_sem ↓] Go.wp_at_zero Go.wp_at_succ
theorem wrap_top {n : Nat} (h : n ≤ 2 * top) : IntKind.i64.wrap (n : Int) = (n : Int) := by rw [IntKind.wrap_i64]; unfold top at h; omega
theorem wrap_top64 {n : Nat} (h : n ≤ 2 * top) : wrap64 (n : Int) = (n : Int) := by unfold wrap64; unfold top at h; omega
theorem plus_any (a b : Nat) (ha : a ≤ top) (hb : b ≤ top) (W : World) : Tells 28 #[.int .i64 a, .int .i64 b] W (.int .i64 (Vg.plus a b : Nat)) := by
 have hw : IntKind.i64.wrap ((a : Int) + (b : Int)) = ((a + b : Nat) : Int) := by
  rw [show (a : Int) + (b : Int) = ((a + b : Nat) : Int) by omega]; exact wrap_top (by omega)
 have hs : (Vg.plus a b : Nat) = if a + b ≤ 1152921504606846976 then a + b else 1152921504606846976 := by unfold Vg.plus top; split <;> omega
 rw [hs]
 unfold Tells
 go_enter Tryz.func28, Tryz.ntmps28
 go_wp2
 all_goals go_ret
 all_goals exact ⟨by simp; omega, rfl⟩
theorem times_any (a b : Nat) (ha : a ≤ top) (hb : b ≤ top) (W : World) : Tells 54 #[.int .i64 a, .int .i64 b] W (.int .i64 (Vg.times a b : Nat)) := by
 unfold Tells
 by_cases h0 : a = 0
 · subst h0
   go_enter Tryz.func54, Tryz.ntmps54
   go_wp2
   go_ret
   exact ⟨by simp [Vg.times], rfl⟩
 · have h0' : ((0 : Int) < (a : Int)) = True := by simp; omega
   have hq : wrap64 (1152921504606846976 / (a : Int)) = ((1152921504606846976 / a : Nat) : Int) := by
    have h1 : 1152921504606846976 / a ≤ 1152921504606846976 := Nat.div_le_self _ _
    have h2 : (1152921504606846976 : Int) / (a : Int) = ((1152921504606846976 / a : Nat) : Int) := rfl
    rw [h2]
    exact wrap_top64 (by unfold top; omega)
   have ht := Vg.times_eq (b := b) ha
   have hts : Vg.times a b = if 1152921504606846976 / a < b then 1152921504606846976 else a * b := by
    unfold Vg.times top
    have : 0 < a := by omega
    simp [this]
   by_cases hb1 : 1152921504606846976 / a < b
   · have hb2 : (((1152921504606846976 / a : Nat) : Int) < (b : Int)) = True := by simp only [eq_iff_iff, iff_true]; exact Int.ofNat_lt.2 hb1
     have hb3 := Int.ofNat_lt.2 hb1
     rw [hts, if_pos hb1]
     go_enter Tryz.func54, Tryz.ntmps54
     go_wp2
     · go_ret
       exact ⟨rfl, rfl⟩
     · rename_i h
       exact absurd hb3 (Int.not_lt.2 h)
   · have hb2 : (((1152921504606846976 / a : Nat) : Int) < (b : Int)) = False := by simp only [eq_iff_iff, iff_false]; intro h; exact hb1 (Int.ofNat_lt.1 h)
     have hm : a * b ≤ top := by rw [ht] at hts; rw [if_neg hb1] at hts; omega
     have hw : wrap64 ((a : Int) * (b : Int)) = ((a * b : Nat) : Int) := by
      rw [show (a : Int) * (b : Int) = ((a * b : Nat) : Int) from rfl]
      exact wrap_top64 (by omega)
     have hb3 := fun h => hb1 (Int.ofNat_lt.1 h)
     rw [hts, if_neg hb1]
     go_enter Tryz.func54, Tryz.ntmps54
     go_wp2
     go_ret
     exact ⟨by rw [hw]; rfl, rfl⟩
end Go.Proofs.Vf
namespace Go.Proofs.Vf
open Go Go.Proofs Go.RowKit Go.Lib
open Go.Proofs.Vg (Lp inside insF insFrom top prod doneF)
attribute [local go_sem ↓] Go.wp_at_zero Go.wp_at_succ
abbrev cntC (p : Pg) (s : Sl) (rows : Nat) (b1 b2 : Nat) : Array Value := #[.int .i64 p.ver, .int .i64 p.regs, .int .i64 p.binds, .slice p.names.a p.names.n p.names.c, .slice p.cons.a p.cons.n p.cons.c, .slice p.curs.a p.curs.n p.curs.c, .slice p.sorts.a p.sorts.n p.sorts.c, .slice p.tots.a p.tots.n p.tots.c, .slice p.code.a p.code.n p.code.c, .slice s.a s.n s.c, .int .i64 rows, .map (some b1), .map (some b2)]
theorem prod_append (r : Nat → Nat) : ∀ (a b : List Nat) (n : Nat), prod r n (a ++ b) = prod r (prod r n a) b
 | [], _, _ => rfl
 | k :: a, b, n => by simp only [List.cons_append, prod]; exact prod_append r a b _
theorem prod_take {r : Nat → Nat} {l : List Nat} {k j n : Nat} (h : l[k]? = some j) : prod r n (l.take (k + 1)) = Vg.times (prod r n (l.take k)) (r j) := by
 rw [List.take_add_one, h, Option.toList_some, prod_append]; rfl
theorem ins_lt {l : List Lp} {at_ k : Nat} (h : k ∈ insF l at_) : k < l.length := by
 obtain ⟨_, x, hx, _⟩ := insFrom_mem at_ l 0 k h
 rw [Nat.sub_zero] at hx
 exact (List.getElem?_eq_some_iff.1 hx).1
theorem wf_nat {k : Nat} (h : k ≤ 9223372036854775807) : (Lit.int .i64 (k : Int)).wf = true := by
 simp [Lit.wf, IntKind.min, IntKind.max, IntKind.signed, IntKind.bits]
 omega
theorem done_any (W : World) (cb b1 b2 n2 : Nat) (p : Pg) (s : Sl) (l : List Lp) (rows : Nat) (h : W.heap[cb]? = some (.cells (cntC p s rows b1 b2) 75)) (hl : Lps W s l) (f2 : Int → Option Int) (hM : OwnM W b2 n2 f2) (rounds : Nat → Nat) (hr : ∀ k : Nat, (f2 k).getD 0 = (rounds k : Nat)) (hs : ∀ k, rounds k ≤ top) (at_ : Nat) (hat : at_ < 1048576) :
 Gives 27 #[.pointer (some ⟨cb, 0, none⟩), .int .i64 at_] W (.int .i64 (doneF l rounds at_ : Nat)) := by
 have hins := fun w (hb : Below W.heap.size W w) => inside_any w s l (hl.on hb) at_ hat
 have hcb : cb < W.heap.size := (Array.getElem?_eq_some_iff.1 h).1
 have c0 := blk_cell h
 have HC : Hid (∀ w, Below W.heap.size W w → ∀ j, w.cell? ⟨cb, j, none⟩ = (cntC p s rows b1 b2)[j]?) := Lib.hid fun w hb => blk_cell ((hb.block cb hcb).trans h)
 have HI := Lib.hid hins
 have HM := Lib.hid hM
 have HR := Lib.hid hr
 have HS := Lib.hid hs
 have HLS := Lib.hid hl.lst
 clear h hins hM hr hs hl
 obtain ⟨ver, regs, binds, names, cons, curs, sorts, tots, code⟩ := p
 unfold Gives
 go_enter Tryz.func27, Tryz.ntmps27
 go_wp2_with (first
  | (go_at_call 11; with_reducible refine (HI.out _ (Below.refl _ _)).mono ?_; rintro e w2 ⟨⟨v, rfl, hv⟩, hb2⟩))
 obtain ⟨va, vn, vc⟩ := v
 have HN2 : Hid (vn = (insF l at_).length) := Lib.hid hv.len
 have hsm : vn ≤ 9223372036854775807 := hv.small
 have HV := Lib.hid hv
 have HB2 := Lib.hid hb2
 clear hv hb2 c0
 go_loopg [5, 15] vn (fun lft n i wr => ∃ kk : Nat, kk + lft = vn ∧ i = .int .i64 kk ∧ n = .int .i64 (prod rounds 1 ((insF l at_).take kk) : Nat) ∧ Hid (Below w2.heap.size w2 wr))
 case atStart => exact ⟨0, by omega, rfl, rfl, Lib.hid (Below.refl _ _)⟩
 case round =>
  obtain ⟨kk, hl, rfl, rfl, hst⟩ := hrel
  by_cases hlk : kk < vn
  · have hlt' : ((kk : Int) < (vn : Int)) = True := by simp; omega
    obtain ⟨j, hj⟩ : ∃ j, (insF l at_)[kk]? = some j := ⟨_, List.getElem?_eq_getElem (by have := HN2.out; omega)⟩
    obtain ⟨g2, o2, e2, hg2, hc⟩ := HV.out.at' kk j hj
    have e2 : va = some ⟨g2, o2, none⟩ := e2
    subst e2
    have d0 : wr.cell? ⟨g2, o2 + kk, none⟩ = some (.int .i64 j) := (hst.out.cell (p := ⟨g2, o2 + kk, none⟩) hg2).trans (by have := hc 0 (by omega); rw [Nat.mul_one] at this; exact this)
    have hbr := HB2.out.on hst.out
    have c1 := HC.out wr hbr
    have hjw : (Lit.int .i64 (j : Int)).wf = true := wf_nat (by have := ins_lt (List.mem_of_getElem? hj); have := HLS.out.len; have := HLS.out.small; omega)
    have hpt := prod_take (r := rounds) (n := 1) hj
    have htm := times_any (prod rounds 1 ((insF l at_).take kk)) (rounds j) (Vg.prod_le rounds _ 1 (by decide)) (HS.out j) wr
    rw [← hpt] at htm
    have hmw : OwnM wr b2 n2 f2 := HM.out.on hbr
    have hrj := HR.out j
    have htm : Calls Tryz.prog 54 #[.int .i64 (prod rounds 1 ((insF l at_).take kk) : Nat), .int .i64 (rounds j : Nat)] wr fun e w' => e = .returned (.int .i64 (prod rounds 1 ((insF l at_).take (kk + 1)) : Nat)) ∧ w' = wr := htm
    have HT := Lib.hid htm
    have HMW := Lib.hid hmw
    have HRJ := Lib.hid hrj
    clear htm hmw hrj hpt hc hj
    generalize prod rounds 1 ((insF l at_).take kk) = x at *
    generalize hy : prod rounds 1 ((insF l at_).take (kk + 1)) = y at *
    have HY := Lib.hid hy
    clear hy
    go_wp2_with (first
     | (at_lookup; refine wp_get _ rfl _ _ rfl b2 n2 f2 rfl HMW.out (j : Int) rfl hjw ?_; rw [HRJ.out])
     | (go_at_call 54; with_reducible refine HT.out.mono ?_; rintro e w5 ⟨rfl, rfl⟩))
    go_roundg (vn - kk - 1)
    case measure => omega
    case rel => exact ⟨kk + 1, by omega, by first | rfl | go_num, by rw [HY.out], hst⟩
  · have hlt' : ((kk : Int) < (vn : Int)) = False := by simp; omega
    have hfin : doneF l rounds at_ = prod rounds 1 ((insF l at_).take kk) := by
     unfold doneF; rw [List.take_of_length_le (by have := HN2.out; omega)]
    have HF := Lib.hid hfin
    clear hfin
    go_wp2
    go_ret
    exact ⟨by rw [HF.out]; rfl, HB2.out.on hst.out⟩
end Go.Proofs.Vf
namespace Go.Proofs.Vf
open Go Go.Proofs Go.RowKit Go.Lib Go.Maps Go.ChangeMaps
open Go.Proofs.Vg (Lp inside insF insFrom top prod doneF upd putAll beginF)
attribute [local go_sem ↓] Go.wp_at_zero Go.wp_at_succ
structure Cnt (w : World) (cb b1 b2 n1 n2 : Nat) (p : Pg) (s : Sl) (rows : Nat) (sorted : Int → Nat) (rounds : Nat → Nat) : Prop where
 blk : w.heap[cb]? = some (.cells (cntC p s rows b1 b2) 75)
 m1 : ∃ f, OwnM w b1 n1 f ∧ ∀ k, (Lit.int .i64 k).wf = true → (f k).getD 0 = (sorted k : Nat)
 m2 : ∃ f, OwnM w b2 n2 f ∧ ∀ k : Nat, (f k).getD 0 = (rounds k : Nat)
theorem Cnt.on {w w' : World} {cb b1 b2 n1 n2 : Nat} {p : Pg} {s : Sl} {rows : Nat} {sorted : Int → Nat} {rounds : Nat → Nat} (h : Cnt w cb b1 b2 n1 n2 p s rows sorted rounds) (hb : Below w.heap.size w w') : Cnt w' cb b1 b2 n1 n2 p s rows sorted rounds :=
 ⟨(hb.block cb (Array.getElem?_eq_some_iff.1 h.blk).1).trans h.blk, by obtain ⟨f, h1, h2⟩ := h.m1; exact ⟨f, h1.on hb, h2⟩, by obtain ⟨f, h1, h2⟩ := h.m2; exact ⟨f, h1.on hb, h2⟩⟩
theorem upd_fits {f : Int → Option Int} {rounds : Nat → Nat} (h : ∀ k : Nat, (f k).getD 0 = (rounds k : Nat)) (k v : Nat) : ∀ j : Nat, (updO f k v j).getD 0 = (upd rounds k v j : Nat) := by
 intro j
 unfold updO upd
 by_cases hj : j = k
 · subst hj; simp
 · rw [if_neg (by omega), if_neg hj]; exact h j
theorem upd_fits1 {f : Int → Option Int} {sorted : Int → Nat} (h : ∀ k, (Lit.int .i64 k).wf = true → (f k).getD 0 = (sorted k : Nat)) (k : Int) (v : Nat) : ∀ j, (Lit.int .i64 j).wf = true → (updO f k v j).getD 0 = (upd sorted k v j : Nat) := by
 intro j hw
 unfold updO upd
 by_cases hj : j = k
 · subst hj; simp
 · rw [if_neg hj, if_neg hj]; exact h j hw
section
variable {w : World} {o : Oper} {a : Act} {K : Act → World → Prop} {Q : Exit → Act → World → Prop}
theorem upon_put {b n : Nat} {f : Int → Option Int} (hown : OwnM w b n f) (hn : n < maxLen) {k u : Int} (hk : (Lit.int .i64 k).wf = true) (hu : (Lit.int .i64 u).wf = true)
 (hK : ∀ w', OwnM w' b (n + 1) (updO f k u) → w.grownBy w' (some b) → K (a.put o.dst undef) w') :
 Oper.upon Tryz.prog o a K Q ((Sem.run Tryz.prog (Instr.mapUpdate 55 (.map (some b)) (.int .i64 k) (.int .i64 u)) w).andThen fun _ w' => .ok Next.skip w') := by
 obtain ⟨D, ho, hf⟩ := hown
 obtain ⟨w', hrun, r1, r2⟩ := ho.update law3 Tryz.underlying55 hn (keyOf_int_mk Tryz.underlying3 hk) (plainElem_int Tryz.underlying3 hu)
 rw [hrun]
 show K (a.put o.dst undef) w'
 refine hK w' ⟨_, r1, fun j hj => ?_⟩ r2
 unfold updO
 by_cases hjk : j = k
 · subst hjk
   rw [if_pos rfl]
   exact ⟨has_put_same ho.isMap (by first | trivial | simp [WideAt.IsKeyLit]) _, atKey_put_same ho.isMap (by first | trivial | simp [WideAt.IsKeyLit]) _ _⟩
 · rw [if_neg hjk]
   have hne : (Lit.int .i64 j) ≠ Lit.int .i64 k := fun h => hjk (by injection h)
   exact ⟨(has_put_other hne _).trans (hf j hj).1, (atKey_put_other hne _ _).trans (hf j hj).2⟩
end
theorem begin_cur (W : World) (cb b1 b2 n1 n2 : Nat) (p : Pg) (s : Sl) (l : List Lp) (rows : Nat) (sorted : Int → Nat) (rounds : Nat → Nat) (h : Cnt W cb b1 b2 n1 n2 p s rows sorted rounds) (B : Nat) (hB : B ≤ W.heap.size ∧ B ≤ cb ∧ B ≤ b1 ∧ B ≤ b2) (hd : cb ≠ b2 ∧ b1 ≠ b2 ∧ cb ≠ b1) (hn : n2 ≤ 4000) (hr : rows ≤ top) (hl : Lst W s 6 lpC l) (k : Nat) (x : Lp) (hx : l[k]? = some x) (hs : x.sor < 0) :
 Calls Tryz.prog 29 #[.pointer (some ⟨cb, 0, none⟩), .int .i64 k] W fun e w' => e = .returned (.tuple #[]) ∧ Cnt w' cb b1 b2 n1 (n2 + 1) p s rows sorted (upd rounds k rows) ∧ Below B W w' := by
 obtain ⟨g, o, e1, hg, hkn, hcx⟩ := Lps.cells hl hx
 obtain ⟨d0, d1, d2, d3, d4, d5⟩ := hcx W (Below.refl _ _)
 obtain ⟨f1, hm1, hf1⟩ := h.m1
 obtain ⟨f2, hm2, hf2⟩ := h.m2
 have hcb : cb < W.heap.size := (Array.getElem?_eq_some_iff.1 h.blk).1
 have c0 := blk_cell h.blk
 have cA : ∀ o j, (W.alloc o).cell? ⟨cb, j, none⟩ = (cntC p s rows b1 b2)[j]? := fun o j => ((Below.one W o).cell (p := ⟨cb, j, none⟩) hcb).trans (c0 j)
 obtain ⟨ver, regs, binds, names, cons, curs, sorts, tots, code⟩ := p
 obtain ⟨sa, sn, sc⟩ := s
 have e1 : sa = some ⟨g, o, none⟩ := e1
 subst e1
 have hkn : k < sn := hkn
 have hsm : sn ≤ 9223372036854775807 := hl.small
 obtain ⟨x1, x2, x3, x4, x5, x6⟩ := x
 have hs : x4 < 0 := hs
 have hs' : (x4 < 0) = True := by simpa using hs
 have hkw : (Lit.int .i64 (k : Int)).wf = true := wf_nat (by omega)
 have hrw : (Lit.int .i64 (rows : Int)).wf = true := wf_nat (by unfold top at hr; omega)
 have HM2 : Hid (∀ o, OwnM (W.alloc o).drew b2 n2 f2) := Lib.hid fun o => hm2.on (Below.one W o).drew
 have HH := Lib.hid h
 have HHM := Lib.hid (And.intro hm1 (And.intro hf1 hf2))
 clear hm1 hf1 hf2 hm2 h hcx hx hl
 go_enter Tryz.func29, Tryz.ntmps29
 go_wp2
 go_region_with (first
  | (with_reducible refine upon_put (HM2.out _) (by unfold maxLen; omega) hkw hrw ?_; intro w4 hown4 hgrow))
 all_goals go_wp2
 all_goals
  refine bodyPost_ret (v := .tuple #[]) (results_none rfl _ _ _) rfl ⟨rfl, ?_, ?_⟩
  · have hb := HH.out
    have hbk : ∀ j, j < W.heap.size → j ≠ b2 → w4.heap[j]? = W.heap[j]? := fun j hj hj2 => (hgrow.block j (Nat.lt_of_lt_of_le hj (Below.one W _).drew.size) (by simpa using hj2)).trans ((Below.one W _).drew.block j hj)
    refine ⟨(hbk cb hcb hd.1).trans hb.blk, ⟨f1, HHM.out.1.block (hbk b1 HHM.out.1.lt hd.2.1), HHM.out.2.1⟩, ⟨_, hown4, upd_fits HHM.out.2.2 k rows⟩⟩
  · exact (((Below.one W _).drew.mono hB.1).grown hgrow (Nat.le_trans hB.1 (Below.one W _).drew.size) (fun q hq => by injection hq with hq; omega))
theorem OwnM.look {w : World} {b n : Nat} {f : Int → Option Int} (h : OwnM w b n f) {k : Int} (hk : (Lit.int .i64 k).wf = true) : (Instr.lookup 55 (.map (some b)) (.int .i64 k) false).run Tryz.prog w = .ok (.int .i64 ((f k).getD 0)) w := by
 obtain ⟨D, ho, hf⟩ := h
 obtain ⟨c, hrun, hat, _⟩ := ho.lookup_int law3 Tryz.underlying55 Tryz.underlying3 (zero3 w) (keyOf_int_mk Tryz.underlying3 hk)
 rw [(hf k hk).2] at hat
 injection hat with h1
 injection h1 with _ h2
 rw [h2]; exact hrun
theorem putAll_append (r : Nat) : ∀ (a b : List Ins) (rows : Nat), putAll r rows (a ++ b) = putAll r (putAll r rows a) b
 | [], _, _ => rfl
 | i :: a, b, rows => by simp only [List.cons_append, putAll]; exact putAll_append r a b _
theorem putAll_take {r rows : Nat} {l : List Ins} {k : Nat} {i : Ins} (h : l[k]? = some i) : putAll r rows (l.take (k + 1)) = if i.o = 29 then Vg.plus (putAll r rows (l.take k)) r else putAll r rows (l.take k) := by
 rw [List.take_add_one, h, Option.toList_some, putAll_append]; rfl
theorem Cnt.rows {w : World} {cb b1 b2 n1 n2 : Nat} {p : Pg} {s : Sl} {rows : Nat} {sorted : Int → Nat} {rounds : Nat → Nat} (h : Cnt w cb b1 b2 n1 n2 p s rows sorted rounds) (h1 : cb ≠ b1) (h2 : cb ≠ b2) (v : Nat) : Cnt (w.setCell ⟨cb, 10, none⟩ (.int .i64 v)) cb b1 b2 n1 n2 p s v sorted rounds := by
 refine ⟨heap_setCell_same _ h.blk, ?_, ?_⟩
 · obtain ⟨f, q1, q2⟩ := h.m1
   exact ⟨f, q1.block (Go.RowKit.Below.heap_setCell _ _ _ _ (fun e => h1 e.symm)), q2⟩
 · obtain ⟨f, q1, q2⟩ := h.m2
   exact ⟨f, q1.block (Go.RowKit.Below.heap_setCell _ _ _ _ (fun e => h2 e.symm)), q2⟩
theorem begin_sor (W : World) (cb b1 b2 n1 n2 : Nat) (p : Pg) (D : Dat) (hp : Has W p D) (hcap : p.code.n ≤ p.code.c) (s : Sl) (l : List Lp) (rows : Nat) (sorted : Int → Nat) (rounds : Nat → Nat) (h : Cnt W cb b1 b2 n1 n2 p s rows sorted rounds) (B : Nat) (hB : B ≤ W.heap.size ∧ B ≤ cb ∧ B ≤ b1 ∧ B ≤ b2) (hd : cb ≠ b2 ∧ b1 ≠ b2 ∧ cb ≠ b1) (hn : n2 ≤ 4000) (hr : rows ≤ top) (hst : ∀ k, sorted k ≤ top) (hl : Lst W s 6 lpC l) (k : Nat) (x : Lp) (hx : l[k]? = some x) (hs : ¬ x.sor < 0) (hw : (Lit.int .i64 x.sor).wf = true) (h1 : x.fr ≤ x.tt) (h2 : x.tt < D.code.length) (gc oc : Nat) (hca : p.code.a = some ⟨gc, oc, none⟩) (hgB : gc < B) :
 Calls Tryz.prog 29 #[.pointer (some ⟨cb, 0, none⟩), .int .i64 k] W fun e w' => e = .returned (.tuple #[]) ∧ Cnt w' cb b1 b2 n1 (n2 + 1) p s (putAll (sorted x.sor) rows ((D.code.drop x.fr).take (x.tt - x.fr))) sorted (upd rounds k (sorted x.sor)) ∧ Below B W w' := by
 obtain ⟨g, o, e1, hg, hkn, hcx⟩ := Lps.cells hl hx
 obtain ⟨d0, d1, d2, d3, d4, d5⟩ := hcx W (Below.refl _ _)
 obtain ⟨f1, hm1, hf1⟩ := h.m1
 obtain ⟨f2, hm2, hf2⟩ := h.m2
 have hcb : cb < W.heap.size := (Array.getElem?_eq_some_iff.1 h.blk).1
 have c0 := blk_cell h.blk
 have cA : ∀ o j, (W.alloc o).cell? ⟨cb, j, none⟩ = (cntC p s rows b1 b2)[j]? := fun o j => ((Below.one W o).cell (p := ⟨cb, j, none⟩) hcb).trans (c0 j)
 obtain ⟨ver, regs, binds, names, cons, curs, sorts, tots, ⟨ca, cn, cc⟩⟩ := p
 obtain rfl : ca = some ⟨gc, oc, none⟩ := hca
 obtain ⟨sa, sn, sc⟩ := s
 have e1 : sa = some ⟨g, o, none⟩ := e1
 subst e1
 have hkn : k < sn := hkn
 have hsm : sn ≤ 9223372036854775807 := hl.small
 obtain ⟨x1, x2, x3, x4, x5, x6⟩ := x
 have hst0 := Lib.hid hst
 have hs : ¬ x4 < 0 := hs
 have hs' : (x4 < 0) = False := by simpa using hs
 have hkw : (Lit.int .i64 (k : Int)).wf = true := wf_nat (by omega)
 have hrw : (Lit.int .i64 (sorted x4 : Int)).wf = true := wf_nat (by have := hst x4; unfold top at this; omega)
 have hfx : (f1 x4).getD 0 = (sorted x4 : Nat) := hf1 x4 hw
 have hlook : ∀ o, (Instr.lookup 55 (.map (some b1)) (.int .i64 x4) false).run Tryz.prog (W.alloc o).drew = .ok (.int .i64 (sorted x4 : Nat)) (W.alloc o).drew := fun o => by
  rw [← hfx]; exact (hm1.on (Below.one W o).drew).look hw
 have HM2 : Hid (∀ o, OwnM (W.alloc o).drew b2 n2 f2) := Lib.hid fun o => hm2.on (Below.one W o).drew
 have HB2L : Hid (b2 < W.heap.size) := Lib.hid hm2.lt
 have HH := Lib.hid h
 have HHM := Lib.hid (And.intro hm1 (And.intro hf1 hf2))
 have HP := Lib.hid hp
 clear hm1 hf1 hf2 hm2 h hcx hx hl hp
 go_enter Tryz.func29, Tryz.ntmps29
 go_wp2
 refine (fun (key : ∀ w4, OwnM w4 b2 (n2 + 1) (updO f2 k (sorted x4 : Nat)) → (W.alloc (.cells #[.int .i64 x1, .int .i64 x2, .int .i64 x3, .int .i64 x4, .int .i64 x5, .int .i64 x6] 78)).drew.grownBy w4 (some b2) → (?Tail : World → Prop) w4) => ?main) ?kp
 case main =>
  go_region_with (first
   | (with_reducible refine upon_put (HM2.out _) (by unfold maxLen; omega) hkw hrw ?_; intro w4 hown4 hgrow))
  all_goals exact key w4 hown4 hgrow
 intro w4 hown4 hgrow
 have hb2l : b2 < W.heap.size := HB2L.out
 have hbk : ∀ j, j < W.heap.size + 1 → j ≠ b2 → w4.heap[j]? = (W.alloc (.cells #[.int .i64 x1, .int .i64 x2, .int .i64 x3, .int .i64 x4, .int .i64 x5, .int .i64 x6] 78)).heap[j]? := fun j hj hj2 => hgrow.block j (by show j < (W.alloc _).heap.size; rw [heap_size_alloc]; omega) (by simpa using hj2)
 have hcb4 := (hbk cb (by omega) hd.1).trans (keepb (.cells #[.int .i64 x1, .int .i64 x2, .int .i64 x3, .int .i64 x4, .int .i64 x5, .int .i64 x6] 78) HH.out.blk)
 have k4 := blk_cell hcb4
 have kx := blk_cell ((hbk W.heap.size (by omega) (by omega)).trans (heap_alloc_new W _))
 have hw4 : W.heap.size + 1 ≤ w4.heap.size := by have := hgrow.size; have h2 : (W.alloc (.cells #[.int .i64 x1, .int .i64 x2, .int .i64 x3, .int .i64 x4, .int .i64 x5, .int .i64 x6] 78)).drew.heap.size = W.heap.size + 1 := heap_size_alloc _ _; omega
 have hC4 : Cnt w4 cb b1 b2 n1 (n2 + 1) (⟨ver, regs, binds, names, cons, curs, sorts, tots, ⟨some ⟨gc, oc, none⟩, cn, cc⟩⟩ : Pg) ⟨some ⟨g, o, none⟩, sn, sc⟩ rows sorted (upd rounds k (sorted x4)) := by
  refine ⟨hcb4, ⟨f1, HHM.out.1.block ((hbk b1 (by have := HHM.out.1.lt; omega) hd.2.1).trans (Below.heap_alloc _ _ _ HHM.out.1.lt)), HHM.out.2.1⟩, ⟨_, hown4, upd_fits HHM.out.2.2 k _⟩⟩
 have hB4 : Below B W w4 := ((Below.one W _).drew.mono hB.1).grown hgrow (Nat.le_trans hB.1 (Below.one W _).drew.size) (fun q hq => by injection hq with hq; omega)
 have HC4 := Lib.hid hC4
 have HB4 := Lib.hid hB4
 have hlenc : cn = D.code.length := HP.out.code.len
 have hsmc : cn ≤ 9223372036854775807 := HP.out.code.small
 have g12 : ((x1 : Int) ≤ (x2 : Int)) = True := by simp; omega
 have g2c : ((x2 : Int) ≤ (cc : Int)) = True := by simp; omega
 have hx2n : x2 ≤ cn := by omega
 have hcx1 : (cc = x1) = False := by simp; omega
 have HLC := Lib.hid hlenc
 clear hC4 hB4 hbk hcb4 hown4 hgrow d0 d1 d2 d3 d4 d5 c0 cA hlook hfx hlenc h2
 go_wp2
 go_region
 clear kx
 go_wp2
 have HLL : Hid (((D.code.drop x1).take (x2 - x1)).length = x2 - x1) := Lib.hid (by rw [List.length_take, List.length_drop]; have := HLC.out; omega)
 go_loopg [49] (x2 - x1) (fun lft i wr => ∃ j : Nat, j + lft = x2 - x1 ∧ i = .int .i64 j ∧ Hid (Below B W wr ∧ W.heap.size + 1 ≤ wr.heap.size ∧ Cnt wr cb b1 b2 n1 (n2 + 1) (⟨ver, regs, binds, names, cons, curs, sorts, tots, ⟨some ⟨gc, oc, none⟩, cn, cc⟩⟩ : Pg) ⟨some ⟨g, o, none⟩, sn, sc⟩ (putAll (sorted x4) rows (((D.code.drop x1).take (x2 - x1)).take j)) sorted (upd rounds k (sorted x4))))
 case atStart => exact ⟨0, by omega, rfl, Lib.hid ⟨HB4.out.drew, hw4, HC4.out.on (Below.refl _ _).drew⟩⟩
 case round =>
  obtain ⟨j, hl, rfl, hst⟩ := hrel
  by_cases hlk : j < x2 - x1
  · have hlt' : ((j : Int) < ((x2 : Int) - (x1 : Int))) = True := by simp; omega
    have hlt2 : ((j : Int) < ((x2 - x1 : Nat) : Int)) = True := by simp; omega
    obtain ⟨i, hi2⟩ : ∃ i, D.code[x1 + j]? = some i := ⟨_, List.getElem?_eq_getElem (by have := HLC.out; omega)⟩
    have hi3 : ((D.code.drop x1).take (x2 - x1))[j]? = some i := by rw [List.getElem?_take, if_pos hlk, List.getElem?_drop]; exact hi2
    obtain ⟨g', o', e1, hg', _, hd⟩ := HP.out.ins hi2
    injection e1 with e1; injection e1 with q1 q2
    subst q1 q2
    have HRW := putAll_take (r := sorted x4) (rows := rows) hi3
    have gcl : ∀ w, Below B W w → ∀ t v, W.cell? ⟨gc, oc + (x1 + j) * 5 + t, none⟩ = some v → w.cell? ⟨gc, oc + x1 * 5 + j * 5 + t, none⟩ = some v := fun w hb t v hv => by
     rw [show oc + x1 * 5 + j * 5 + t = oc + (x1 + j) * 5 + t by omega]
     exact (hb.cell (p := ⟨gc, oc + (x1 + j) * 5 + t, none⟩) hgB).trans hv
    obtain ⟨q0, q1, q2, q3, q4⟩ := hd W (Below.refl _ _)
    have d0 := gcl wr hst.out.1 0 _ q0
    have d1 := gcl wr hst.out.1 1 _ q1
    have d2 := gcl wr hst.out.1 2 _ q2
    have d3 := gcl wr hst.out.1 3 _ q3
    have d4 := gcl wr hst.out.1 4 _ q4
    simp only [Nat.add_zero] at d0
    obtain ⟨io, ia, ib, ic, id⟩ := i
    have hcw := blk_cell hst.out.2.2.blk
    have hca : ∀ o2 (q : Nat), (wr.alloc o2).cell? ⟨cb, q, none⟩ = _ := fun o2 q => ((Below.one wr o2).cell (p := ⟨cb, q, none⟩) (Array.getElem?_eq_some_iff.1 hst.out.2.2.blk).1).trans (hcw q)
    clear hd gcl q0 q1 q2 q3 q4 k4
    by_cases h29 : io = 29
    · subst h29
      simp only [if_true] at HRW
      obtain ⟨ff, hmf, hff⟩ := hst.out.2.2.m2
      have hlk : ∀ o, (Instr.lookup 55 (.map (some b2)) (.int .i64 k) false).run Tryz.prog (wr.alloc o).drew = .ok (.int .i64 (sorted x4 : Nat)) (wr.alloc o).drew := fun o => by
       have h1 := (hmf.on (Below.one wr o).drew).look hkw
       rw [hff k] at h1
       rw [h1]; simp [upd]
      have hrl : putAll (sorted x4) rows (((D.code.drop x1).take (x2 - x1)).take j) ≤ top := Vg.putAll_le _ _ hr
      have hpl : ∀ w, Calls Tryz.prog 28 #[.int .i64 (putAll (sorted x4) rows (((D.code.drop x1).take (x2 - x1)).take j) : Nat), .int .i64 (sorted x4 : Nat)] w fun e w' => e = .returned (.int .i64 (putAll (sorted x4) rows (((D.code.drop x1).take (x2 - x1)).take (j + 1)) : Nat)) ∧ w' = w := fun w => by
       rw [HRW]; exact plus_any _ _ hrl (hst0.out x4) w
      have hfz : ∀ o2, (wr.alloc o2).frozen? ⟨cb, 10, none⟩ = false := fun o2 => blk_frozen (keepb o2 hst.out.2.2.blk) 10
      have hrel2 : ∀ oo v, v = putAll (sorted x4) rows (((D.code.drop x1).take (x2 - x1)).take (j + 1)) → Hid (Below B W ((wr.alloc oo).drew.setCell ⟨cb, 10, none⟩ (.int .i64 (v : Nat))) ∧ W.heap.size + 1 ≤ ((wr.alloc oo).drew.setCell ⟨cb, 10, none⟩ (.int .i64 (v : Nat))).heap.size ∧ Cnt ((wr.alloc oo).drew.setCell ⟨cb, 10, none⟩ (.int .i64 (v : Nat))) cb b1 b2 n1 (n2 + 1) (⟨ver, regs, binds, names, cons, curs, sorts, tots, ⟨some ⟨gc, oc, none⟩, cn, cc⟩⟩ : Pg) ⟨some ⟨g, o, none⟩, sn, sc⟩ v sorted (upd rounds k (sorted x4))) := fun oo v _ =>
       Lib.hid ⟨(hst.out.1.trans ((Below.one wr oo).drew.mono (Nat.le_trans hB.1 hst.out.1.size))).setCell (p := ⟨cb, 10, none⟩) hB.2.1 _, by
        have h2 : ((wr.alloc oo).drew.setCell ⟨cb, 10, none⟩ (.int .i64 (v : Nat))).heap.size = (wr.alloc oo).heap.size := by simp [World.setCell]
        rw [h2, heap_size_alloc]; have := hst.out.2.1; omega, (hst.out.2.2.on (Below.one wr oo).drew).rows hd.2.2 hd.1 v⟩
      have HR2 := Lib.hid hrel2
      have HPL := Lib.hid hpl
      clear hpl hrel2 hrl hff HRW
      generalize putAll (sorted x4) rows (((D.code.drop x1).take (x2 - x1)).take j) = y0 at *
      generalize hy1 : putAll (sorted x4) rows (((D.code.drop x1).take (x2 - x1)).take (j + 1)) = y1 at *
      have HY1 := Lib.hid hy1
      clear hy1
      go_wp2
      refine (fun (key : (?Tail2 : Prop)) => ?main2) ?kp2
      case main2 =>
       go_region_with (first
        | (go_at_call 28; with_reducible refine (HPL.out _).mono ?_; rintro e w5 ⟨rfl, rfl⟩))
       all_goals exact key
      go_wp2
      go_roundg (x2 - x1 - j - 1)
      case measure => omega
      case rel => exact ⟨j + 1, by omega, by first | rfl | go_num, by rw [HY1.out]; exact HR2.out _ _ rfl⟩
    · have h29' : (io == 29) = false := by simpa using h29
      have h29n : (io = 29) = False := by simpa using h29
      have HRW2 := Lib.hid HRW
      go_wp2
      go_roundg (x2 - x1 - j - 1)
      case measure => omega
      case rel => exact ⟨j + 1, by omega, by first | rfl | go_num, Lib.hid ⟨hst.out.1.trans ((Below.one wr _).mono (by have := hst.out.1.size; omega)), Nat.le_trans hst.out.2.1 (Below.one wr _).size, by rw [HRW2.out, if_neg h29]; exact hst.out.2.2.on (Below.one wr _)⟩⟩
  · have hlt' : ((j : Int) < ((x2 : Int) - (x1 : Int))) = False := by simp; omega
    have hlt2 : ((j : Int) < ((x2 - x1 : Nat) : Int)) = False := by simp; omega
    have hst2 := hst.out
    rw [List.take_of_length_le (by have := HLL.out; omega)] at hst2
    have HS2 := Lib.hid hst2
    clear hst2
    go_wp2
    refine bodyPost_end (results_none rfl _ _ _) rfl ⟨rfl, HS2.out.2.2, HS2.out.1⟩
theorem begin_any (W : World) (cb b1 b2 n1 : Nat) (p : Pg) (D : Dat) (hp : Has W p D) (hcap : p.code.n ≤ p.code.c) (s : Sl) (l : List Lp) (st : Vg.St) (h : Cnt W cb b1 b2 n1 st.next p s st.rows st.sorted st.rounds) (B : Nat) (hB : B ≤ W.heap.size ∧ B ≤ cb ∧ B ≤ b1 ∧ B ≤ b2) (hd : cb ≠ b2 ∧ b1 ≠ b2 ∧ cb ≠ b1) (hn : st.next ≤ 4000) (hm : Vg.Sm st) (hl : Lst W s 6 lpC l) (x : Lp) (hx : l[st.next]? = some x) (hw : (Lit.int .i64 x.sor).wf = true) (h1 : x.fr ≤ x.tt) (h2 : x.tt < D.code.length) (gc oc : Nat) (hca : p.code.a = some ⟨gc, oc, none⟩) (hgB : gc < B) :
 Calls Tryz.prog 29 #[.pointer (some ⟨cb, 0, none⟩), .int .i64 st.next] W fun e w' => e = .returned (.tuple #[]) ∧ Cnt w' cb b1 b2 n1 (st.next + 1) p s (beginF D.code x st.next st).rows (beginF D.code x st.next st).sorted (beginF D.code x st.next st).rounds ∧ Below B W w' := by
 by_cases hs : x.sor < 0
 · have e : beginF D.code x st.next st = { st with rounds := upd st.rounds st.next st.rows } := by unfold beginF; rw [if_pos hs]
   rw [e]
   exact begin_cur W cb b1 b2 n1 st.next p s l st.rows st.sorted st.rounds h B hB hd hn hm.rows hl st.next x hx hs
 · have e : beginF D.code x st.next st = { st with rounds := upd st.rounds st.next (st.sorted x.sor), rows := putAll (st.sorted x.sor) st.rows ((D.code.drop x.fr).take (x.tt - x.fr)) } := by unfold beginF; rw [if_neg hs]
   rw [e]
   exact begin_sor W cb b1 b2 n1 st.next p D hp hcap s l st.rows st.sorted st.rounds h B hB hd hn hm.rows hm.sorted hl st.next x hx hs hw h1 h2 gc oc hca hgB
end Go.Proofs.Vf
namespace Go.Proofs.Vf
open Go Go.Proofs Go.RowKit Go.Lib Go.Maps Go.ChangeMaps
open Go.Proofs.Vg (Lp inside insF insFrom top prod doneF upd putAll beginF stepF runF st0 boundF Sm St)
attribute [local go_sem ↓] Go.wp_at_zero Go.wp_at_succ
theorem runF_append (code : List Ins) (l : List Lp) : ∀ (a b : List Ins) (k : Nat) (s : St), runF code l k (a ++ b) s = runF code l (k + a.length) b (runF code l k a s)
 | [], b, k, s => rfl
 | i :: a, b, k, s => by
   simp only [List.cons_append, runF, List.length_cons]
   rw [runF_append code l a b (k + 1), show k + 1 + a.length = k + (a.length + 1) by omega]
theorem runF_take {code c2 : List Ins} {l : List Lp} {k : Nat} {i : Ins} (h : code[k]? = some i) (s : St) : runF c2 l 0 (code.take (k + 1)) s = stepF c2 l k i (runF c2 l 0 (code.take k) s) := by
 have hlt := (List.getElem?_eq_some_iff.1 h).1
 rw [List.take_add_one, h, Option.toList_some, runF_append, List.length_take, Nat.min_eq_left (by omega), Nat.zero_add]
 rfl
def sw (l : List Lp) (at_ : Nat) (i : Ins) (s : St) : St :=
 if i.o = 20 then { s with n := Vg.plus s.n (doneF l s.rounds at_), sorted := upd s.sorted i.a (Vg.plus (s.sorted i.a) (doneF l s.rounds at_)) } else if i.o = 29 ∧ insF l at_ = [] then { s with n := Vg.plus s.n (doneF l s.rounds at_), rows := Vg.plus s.rows 1 } else { s with n := Vg.plus s.n (doneF l s.rounds at_) }
theorem sw_next (l : List Lp) (at_ : Nat) (i : Ins) (s : St) : (sw l at_ i s).next = s.next := by unfold sw; split <;> (try split) <;> rfl
theorem stepF_sw {code : List Ins} {l : List Lp} {at_ : Nat} {i : Ins} {s : St} : stepF code l at_ i s = match l[(sw l at_ i s).next]? with
 | some x => if x.fr = at_ then { beginF code x (sw l at_ i s).next (sw l at_ i s) with next := (sw l at_ i s).next + 1 } else sw l at_ i s
 | none => sw l at_ i s := by
 unfold stepF sw
 rfl
theorem sw_small {l : List Lp} {at_ : Nat} {i : Ins} {s : St} (h : Sm s) : Sm (sw l at_ i s) := by
 unfold sw
 split
 · exact ⟨Vg.plus_le _ _, h.rows, fun k => Vg.upd_le h.sorted (Vg.plus_le _ _) k, h.rounds⟩
 · split
   · exact ⟨Vg.plus_le _ _, Vg.plus_le _ _, h.sorted, h.rounds⟩
   · exact ⟨Vg.plus_le _ _, h.rows, h.sorted, h.rounds⟩
theorem beginF_n {code : List Ins} {x : Lp} {k : Nat} {s : St} : (beginF code x k s).n = s.n := by unfold beginF; split <;> rfl
theorem step_next {code : List Ins} {l : List Lp} {at_ : Nat} {i : Ins} {s : St} : (stepF code l at_ i s).next ≤ s.next + 1 := by
 rw [stepF_sw]
 split
 · split
   · show (sw l at_ i s).next + 1 ≤ _; rw [sw_next]; omega
   · rw [sw_next]; omega
 · rw [sw_next]; omega
theorem loops_in {D : Dat} (hj : Jumps D) : ∀ x ∈ loopsL D.code, x.fr ≤ x.tt ∧ x.tt < D.code.length := by
 intro x hx
 obtain ⟨y, hy, e1, e2, _⟩ := loopsL_mem hx
 obtain ⟨_, i, hi, hb, hy2⟩ := begs_mem D.code 0 y hy
 rw [Nat.sub_zero] at hi
 obtain ⟨m, hm, h1, h2⟩ := hj y.fr i hi hb
 have e3 : y.tt = m := by
  rw [hy2, hm]
  unfold loopX
  split <;> (show _ = _) <;> simp
 rw [e1, e2, e3]
 omega
end Go.Proofs.Vf
