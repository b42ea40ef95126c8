/- The program's verify, flow and code, followed by hand: part 2. -/
import Derived.Test.YtmdcccegkamhaaaGreatDoorP1
import Derived.Laws.EntriesVeiled
set_option maxHeartbeats 4000000
set_option maxRecDepth 100000
set_option linter.unusedSectionVars false
set_option linter.unusedVariables false
set_option linter.unusedSimpArgs false
namespace Go.Proofs.Vf
open Go Go.Proofs Go.RowKit Go.Lib
def conW (x : Con) : Bool := !rightB x
def nameW (s : ByteArray) : Bool := decide ((200 : Int) < s.size)
def curW (x : Cur) : Bool := x.s.toList.isEmpty || decide ((200 : Int) < x.s.size) || (x.i && x.w)
def srtW (x : Srt) : Bool := decide ((30 : Int) < x.d.n) || !(decide (1 ≤ x.n) && decide (x.n ≤ 60))
def totW (x : Tot) : Bool := totE x != 0
def partsV (p : Pg) (b1 b2 b3 b4 b5 : Bool) : Bool := (decide (1 ≤ p.ver) && decide (p.ver ≤ 1099511627776)) && (decide (1 ≤ p.regs) && decide (p.regs ≤ 250)) && (decide (0 ≤ p.binds) && decide (p.binds ≤ 1000)) &&
 decide ((p.names.n : Int) ≤ 200) && decide ((p.cons.n : Int) ≤ 1000) && decide ((p.curs.n : Int) ≤ 12) && decide ((p.sorts.n : Int) ≤ 6) && decide ((p.tots.n : Int) ≤ 60) && !b1 && !b2 && !b3 && !b4 && !b5
def partsB (p : Pg) (D : Dat) : Bool := partsV p (D.names.any nameW) (D.cons.any conW) (D.curs.any curW) (D.sorts.any srtW) (D.tots.any totW)
theorem parts_any (W0 : World) (hA : AggOK W0) (p : Pg) (D : Dat) (W : World) (hW : Below W0.heap.size W0 W) (hp : Has W p D) : Gives 44 #[p.v] W (.bool (partsB p D)) := by
 obtain ⟨W2, hW2⟩ : ∃ W2, W2 = (W.alloc (.cells p.cells 29)).alloc (.cells #[.func (.func 79) #[] #[]] 155) := ⟨_, rfl⟩
 have t2 := two_blocks W (.cells p.cells 29) (.cells #[.func (.func 79) #[] #[]] 155)
 rw [← hW2] at t2
 obtain ⟨z1, z2, z3, z4⟩ := t2
 have on : ∀ w, Below W2.heap.size W2 w → Below W.heap.size W w ∧ Below W0.heap.size W0 w ∧ Has w p D ∧ w.heap[W.heap.size + 1]? = some (.cells #[.func (.func 79) #[] #[]] 155) ∧ (∀ j, w.cell? ⟨W.heap.size, j, none⟩ = p.cells[j]?) := fun w hb => by
  have hb2 := z1.on hb
  exact ⟨hb2, hW.on hb2, hp.on hb2, (hb.block _ (by omega)).trans z4, blk_cell ((hb.block _ (by omega)).trans z3)⟩
 have c2 : ∀ w, w = W2 → Gives 87 #[.slice p.names.a p.names.n p.names.c, .func (.func 80) #[] #[]] w (.bool (D.names.any nameW)) := fun w hw =>
  has_str_80 w p.names D.names (hw ▸ (on W2 (Below.refl _ _)).2.2.1.names) nameW fun w' hb x _ => (name_any x w').gives
 have c3 : ∀ w, Below W2.heap.size W2 w → Gives 88 #[.slice p.cons.a p.cons.n p.cons.c, .func (.func 81) #[] #[]] w (.bool (D.cons.any conW)) := fun w hw =>
  has_con_81 w p.cons D.cons (on w hw).2.2.1.cons conW fun w' _ x _ => conw_any x w'
 have c4 : ∀ w, Below W2.heap.size W2 w → Gives 89 #[.slice p.curs.a p.curs.n p.curs.c, .func (.func 83) #[] #[]] w (.bool (D.curs.any curW)) := fun w hw =>
  has_cur_83 w p.curs D.curs (on w hw).2.2.1.curs curW fun w' _ x _ => curw_any x w'
 have c5 : ∀ w, Below W2.heap.size W2 w → Gives 90 #[.slice p.sorts.a p.sorts.n p.sorts.c, .func (.func 84) #[] #[.pointer (some ⟨W.heap.size + 1, 0, none⟩)]] w (.bool (D.sorts.any srtW)) := fun w hw =>
  has_srt_84 w p.sorts D.sorts (on w hw).2.2.1.sorts _ srtW fun w' hb x hx => srtw_any x _ w' (on w' (hw.on hb)).2.2.2.1 (hp.desc x hx)
 have c6 : ∀ w, Below W2.heap.size W2 w → Gives 91 #[.slice p.tots.a p.tots.n p.tots.c, .func (.func 85) #[] #[]] w (.bool (D.tots.any totW)) := fun w hw =>
  has_tot_85 w p.tots D.tots (on w hw).2.2.1.tots totW fun w' hb x _ => totw_any W0 hA x w' (on w' (hw.on hb)).2.1
 unfold partsB
 generalize D.names.any nameW = b1 at *
 generalize D.cons.any conW = b2 at *
 generalize D.curs.any curW = b3 at *
 generalize D.sorts.any srtW = b4 at *
 generalize D.tots.any totW = b5 at *
 have HO := Lib.hid on
 have H2 := Lib.hid c2
 have H3 := Lib.hid c3
 have H4 := Lib.hid c4
 have H5 := Lib.hid c5
 have H6 := Lib.hid c6
 have HE := Lib.hid hW2
 clear on c2 c3 c4 c5 c6 hW2 hp hA hW z1 z2 z3 z4
 unfold Gives
 have hmf : ∀ (fn : Fn) (first cap : Array Value) (w : World), (Instr.makeFunc fn first cap).run Tryz.prog w = .ok (.func fn first cap) w := fun _ _ _ _ => rfl
 go_enter Tryz.func44, Tryz.ntmps44
 go_wp2_with (first
  | (go_at_call 79; refine (within_any _ _ _ _).mono ?_; rintro e w2 ⟨rfl, rfl⟩)
  | (go_at_call 87; refine (H2.out _ HE.out.symm).mono ?_; rintro e w2 ⟨rfl, hb2⟩; rw [← HE.out] at hb2; have k2 := (HO.out _ hb2).2.2.2.2)
  | (go_at_call 88; refine (H3.out _ hb2).mono ?_; rintro e w3 ⟨rfl, hb3⟩; have hb3 := hb2.on hb3; have k3 := (HO.out _ hb3).2.2.2.2)
  | (go_at_call 89; refine (H4.out _ hb3).mono ?_; rintro e w4 ⟨rfl, hb4⟩; have hb4 := hb3.on hb4; have k4 := (HO.out _ hb4).2.2.2.2)
  | (go_at_call 90; refine (H5.out _ hb4).mono ?_; rintro e w5 ⟨rfl, hb5⟩; have hb5 := hb4.on hb5; have k5 := (HO.out _ hb5).2.2.2.2)
  | (go_at_call 91; refine (H6.out _ hb5).mono ?_; rintro e w6 ⟨rfl, hb6⟩; have hb6 := hb5.on hb6; have k6 := (HO.out _ hb6).2.2.2.2))
 all_goals go_ret
 all_goals have HO := HO.out
 all_goals first
  | exact ⟨by first | (simp_all [partsV]; done) | (simp_all [partsV]; intros; omega), (HO _ hb6).1⟩
  | exact ⟨by first | (simp_all [partsV]; done) | (simp_all [partsV]; intros; omega), (HO _ hb5).1⟩
  | exact ⟨by first | (simp_all [partsV]; done) | (simp_all [partsV]; intros; omega), (HO _ hb4).1⟩
  | exact ⟨by first | (simp_all [partsV]; done) | (simp_all [partsV]; intros; omega), (HO _ hb3).1⟩
  | exact ⟨by first | (simp_all [partsV]; done) | (simp_all [partsV]; intros; omega), (HO _ hb2).1⟩
  | exact ⟨by clear HO H2 H3 H4 H5 H6; first | (simp_all [partsV]; done) | (simp_all [partsV]; intros; omega), by rw [← HE.out]; exact (HO _ (Below.refl _ _)).1⟩
end Go.Proofs.Vf
