/- The program's verify, flow and code, followed by hand: part 9. -/
import Derived.Test.YtmdcccegkamhaaaGreatDoorP8
import Derived.Laws.EntriesVeiled
set_option maxHeartbeats 4000000
set_option maxRecDepth 100000
set_option linter.unusedSectionVars false
set_option linter.unusedVariables false
set_option linter.unusedSimpArgs false
namespace Go.Proofs.Vf
open Go Go.Proofs Go.RowKit Go.Lib
open Go.Proofs.Vg (Lp inside insF insFrom)
attribute [local go_sem ↓] Go.wp_at_zero Go.wp_at_succ
theorem idx_lp_51 (W : World) (s : Sl) (l : List Lp) (h : Lst W s 6 lpC l) (p0 p1 p2 p3 : Value) (t : Lp → Bool) (ht : ∀ w, Below W.heap.size W w → ∀ x ∈ l, Gives 51 #[lpV x, p0, p1, p2, p3] w (.bool (t x))) :
    Calls Tryz.prog 107 #[.slice s.a s.n s.c, .func (.func 51) #[] #[p0, p1, p2, p3]] W fun e w' => (∃ r : Int, e = .returned (.int .i64 r) ∧ decide (0 ≤ r) = l.any t) ∧ Below W.heap.size W w' := by
  obtain ⟨sa, sn, sc⟩ := s
  have HL : Hid (sn = l.length) := Lib.hid h.len
  have hsm : sn ≤ 9223372036854775807 := h.small
  have HT := Lib.hid h
  have HC := Lib.hid ht
  clear h ht
  go_enter Tryz.func107, Tryz.ntmps107
  go_wp2
  go_loopg [8] sn (fun lft i wr => ∃ kk : Nat, kk + lft = sn ∧ i = .int .i64 kk ∧ Below W.heap.size W wr ∧ Hid ((l.take kk).any t = false))
  case atStart => exact ⟨0, by omega, rfl, Below.refl _ _, Lib.hid (by simp)⟩
  case round =>
    obtain ⟨kk, hl, rfl, hbr, hk⟩ := hrel
    by_cases hlk : kk < sn
    · have hlt' : ((kk : Int) < (sn : Int)) = True := by simp; omega
      obtain ⟨x, hx⟩ : ∃ x, l[kk]? = some x := ⟨_, List.getElem?_eq_getElem (by have := HL.out; omega)⟩
      obtain ⟨g, o, e1, hg, hc⟩ := HT.out.at' kk x hx
      have e1 : sa = some ⟨g, o, none⟩ := e1
      subst e1
      have d0 : wr.cell? ⟨g, o + kk * 6, none⟩ = some (.int .i64 x.fr) := (hbr.cell (p := ⟨g, o + kk * 6, none⟩) hg).trans (by have := hc 0 (by omega); first | exact this | (rw [Nat.mul_one] at this; exact this))
      have d1 : wr.cell? ⟨g, o + kk * 6 + 1, none⟩ = some (.int .i64 x.tt) := (hbr.cell (p := ⟨g, o + kk * 6 + 1, none⟩) hg).trans (by have := hc 1 (by omega); first | exact this | (rw [Nat.mul_one] at this; exact this))
      have d2 : wr.cell? ⟨g, o + kk * 6 + 2, none⟩ = some (.int .i64 x.cur) := (hbr.cell (p := ⟨g, o + kk * 6 + 2, none⟩) hg).trans (by have := hc 2 (by omega); first | exact this | (rw [Nat.mul_one] at this; exact this))
      have d3 : wr.cell? ⟨g, o + kk * 6 + 3, none⟩ = some (.int .i64 x.sor) := (hbr.cell (p := ⟨g, o + kk * 6 + 3, none⟩) hg).trans (by have := hc 3 (by omega); first | exact this | (rw [Nat.mul_one] at this; exact this))
      have d4 : wr.cell? ⟨g, o + kk * 6 + 4, none⟩ = some (.int .i64 x.depth) := (hbr.cell (p := ⟨g, o + kk * 6 + 4, none⟩) hg).trans (by have := hc 4 (by omega); first | exact this | (rw [Nat.mul_one] at this; exact this))
      have d5 : wr.cell? ⟨g, o + kk * 6 + 5, none⟩ = some (.int .i64 x.inn) := (hbr.cell (p := ⟨g, o + kk * 6 + 5, none⟩) hg).trans (by have := hc 5 (by omega); first | exact this | (rw [Nat.mul_one] at this; exact this))
      have HX := Lib.hid hx
      clear hc hx
      go_wp2_with (first | (go_at_call 51; refine (HC.out wr hbr x (List.mem_of_getElem? HX.out)).mono ?_; rintro e w2 ⟨rfl, hb2⟩))
      · rename_i hbt
        go_ret
        refine ⟨⟨_, rfl, ?_⟩, hbr.on hb2⟩
        have h1 : l.any t = true := List.any_eq_true.2 ⟨x, List.mem_of_getElem? HX.out, hbt⟩
        rw [h1]; exact decide_eq_true (by omega)
      · rename_i hbt
        go_roundg (sn - kk - 1)
        case measure => omega
        case rel => exact ⟨kk + 1, by omega, by first | rfl | go_num, hbr.on hb2, Lib.hid (by
          rw [List.take_add_one, HX.out, List.any_append, hk.out]; simpa using hbt)⟩
    · have hlt' : ((kk : Int) < (sn : Int)) = False := by simp; omega
      go_wp2
      go_ret
      refine ⟨⟨_, rfl, ?_⟩, hbr⟩
      have := hk.out
      rw [List.take_of_length_le (by have := HL.out; omega)] at this
      rw [this]; rfl
theorem has_lp_51 (W : World) (s : Sl) (l : List Lp) (h : Lst W s 6 lpC l) (p0 p1 p2 p3 : Value) (t : Lp → Bool) (ht : ∀ w, Below W.heap.size W w → ∀ x ∈ l, Gives 51 #[lpV x, p0, p1, p2, p3] w (.bool (t x))) :
    Gives 49 #[.slice s.a s.n s.c, .func (.func 51) #[] #[p0, p1, p2, p3]] W (.bool (l.any t)) := by
  unfold Gives
  go_enter Tryz.func49, Tryz.ntmps49
  go_wp2_with (first | (go_at_call 107; refine (idx_lp_51 W s l h p0 p1 p2 p3 t ht).mono ?_; rintro e w2 ⟨⟨r, rfl, hr⟩, hb2⟩))
  go_ret
  exact ⟨by rw [← hr]; rfl, hb2⟩
theorem idx_lp_53 (W : World) (s : Sl) (l : List Lp) (h : Lst W s 6 lpC l) (p0 p1 p2 p3 p4 : Value) (t : Lp → Bool) (ht : ∀ w, Below W.heap.size W w → ∀ x ∈ l, Gives 53 #[lpV x, p0, p1, p2, p3, p4] w (.bool (t x))) :
    Calls Tryz.prog 107 #[.slice s.a s.n s.c, .func (.func 53) #[] #[p0, p1, p2, p3, p4]] W fun e w' => (∃ r : Int, e = .returned (.int .i64 r) ∧ decide (0 ≤ r) = l.any t) ∧ Below W.heap.size W w' := by
  obtain ⟨sa, sn, sc⟩ := s
  have HL : Hid (sn = l.length) := Lib.hid h.len
  have hsm : sn ≤ 9223372036854775807 := h.small
  have HT := Lib.hid h
  have HC := Lib.hid ht
  clear h ht
  go_enter Tryz.func107, Tryz.ntmps107
  go_wp2
  go_loopg [8] sn (fun lft i wr => ∃ kk : Nat, kk + lft = sn ∧ i = .int .i64 kk ∧ Below W.heap.size W wr ∧ Hid ((l.take kk).any t = false))
  case atStart => exact ⟨0, by omega, rfl, Below.refl _ _, Lib.hid (by simp)⟩
  case round =>
    obtain ⟨kk, hl, rfl, hbr, hk⟩ := hrel
    by_cases hlk : kk < sn
    · have hlt' : ((kk : Int) < (sn : Int)) = True := by simp; omega
      obtain ⟨x, hx⟩ : ∃ x, l[kk]? = some x := ⟨_, List.getElem?_eq_getElem (by have := HL.out; omega)⟩
      obtain ⟨g, o, e1, hg, hc⟩ := HT.out.at' kk x hx
      have e1 : sa = some ⟨g, o, none⟩ := e1
      subst e1
      have d0 : wr.cell? ⟨g, o + kk * 6, none⟩ = some (.int .i64 x.fr) := (hbr.cell (p := ⟨g, o + kk * 6, none⟩) hg).trans (by have := hc 0 (by omega); first | exact this | (rw [Nat.mul_one] at this; exact this))
      have d1 : wr.cell? ⟨g, o + kk * 6 + 1, none⟩ = some (.int .i64 x.tt) := (hbr.cell (p := ⟨g, o + kk * 6 + 1, none⟩) hg).trans (by have := hc 1 (by omega); first | exact this | (rw [Nat.mul_one] at this; exact this))
      have d2 : wr.cell? ⟨g, o + kk * 6 + 2, none⟩ = some (.int .i64 x.cur) := (hbr.cell (p := ⟨g, o + kk * 6 + 2, none⟩) hg).trans (by have := hc 2 (by omega); first | exact this | (rw [Nat.mul_one] at this; exact this))
      have d3 : wr.cell? ⟨g, o + kk * 6 + 3, none⟩ = some (.int .i64 x.sor) := (hbr.cell (p := ⟨g, o + kk * 6 + 3, none⟩) hg).trans (by have := hc 3 (by omega); first | exact this | (rw [Nat.mul_one] at this; exact this))
      have d4 : wr.cell? ⟨g, o + kk * 6 + 4, none⟩ = some (.int .i64 x.depth) := (hbr.cell (p := ⟨g, o + kk * 6 + 4, none⟩) hg).trans (by have := hc 4 (by omega); first | exact this | (rw [Nat.mul_one] at this; exact this))
      have d5 : wr.cell? ⟨g, o + kk * 6 + 5, none⟩ = some (.int .i64 x.inn) := (hbr.cell (p := ⟨g, o + kk * 6 + 5, none⟩) hg).trans (by have := hc 5 (by omega); first | exact this | (rw [Nat.mul_one] at this; exact this))
      have HX := Lib.hid hx
      clear hc hx
      go_wp2_with (first | (go_at_call 53; refine (HC.out wr hbr x (List.mem_of_getElem? HX.out)).mono ?_; rintro e w2 ⟨rfl, hb2⟩))
      · rename_i hbt
        go_ret
        refine ⟨⟨_, rfl, ?_⟩, hbr.on hb2⟩
        have h1 : l.any t = true := List.any_eq_true.2 ⟨x, List.mem_of_getElem? HX.out, hbt⟩
        rw [h1]; exact decide_eq_true (by omega)
      · rename_i hbt
        go_roundg (sn - kk - 1)
        case measure => omega
        case rel => exact ⟨kk + 1, by omega, by first | rfl | go_num, hbr.on hb2, Lib.hid (by
          rw [List.take_add_one, HX.out, List.any_append, hk.out]; simpa using hbt)⟩
    · have hlt' : ((kk : Int) < (sn : Int)) = False := by simp; omega
      go_wp2
      go_ret
      refine ⟨⟨_, rfl, ?_⟩, hbr⟩
      have := hk.out
      rw [List.take_of_length_le (by have := HL.out; omega)] at this
      rw [this]; rfl
theorem has_lp_53 (W : World) (s : Sl) (l : List Lp) (h : Lst W s 6 lpC l) (p0 p1 p2 p3 p4 : Value) (t : Lp → Bool) (ht : ∀ w, Below W.heap.size W w → ∀ x ∈ l, Gives 53 #[lpV x, p0, p1, p2, p3, p4] w (.bool (t x))) :
    Gives 49 #[.slice s.a s.n s.c, .func (.func 53) #[] #[p0, p1, p2, p3, p4]] W (.bool (l.any t)) := by
  unfold Gives
  go_enter Tryz.func49, Tryz.ntmps49
  go_wp2_with (first | (go_at_call 107; refine (idx_lp_53 W s l h p0 p1 p2 p3 p4 t ht).mono ?_; rintro e w2 ⟨⟨r, rfl, hr⟩, hb2⟩))
  go_ret
  exact ⟨by rw [← hr]; rfl, hb2⟩
theorem idx_lp_50 (W : World) (s : Sl) (l : List Lp) (h : Lst W s 6 lpC l) (p0 p1 : Value) (t : Lp → Bool) (ht : ∀ w, Below W.heap.size W w → ∀ x ∈ l, Gives 50 #[lpV x, p0, p1] w (.bool (t x))) :
    Calls Tryz.prog 107 #[.slice s.a s.n s.c, .func (.func 50) #[] #[p0, p1]] W fun e w' => (∃ r : Int, e = .returned (.int .i64 r) ∧ decide (0 ≤ r) = l.any t) ∧ Below W.heap.size W w' := by
  obtain ⟨sa, sn, sc⟩ := s
  have HL : Hid (sn = l.length) := Lib.hid h.len
  have hsm : sn ≤ 9223372036854775807 := h.small
  have HT := Lib.hid h
  have HC := Lib.hid ht
  clear h ht
  go_enter Tryz.func107, Tryz.ntmps107
  go_wp2
  go_loopg [8] sn (fun lft i wr => ∃ kk : Nat, kk + lft = sn ∧ i = .int .i64 kk ∧ Below W.heap.size W wr ∧ Hid ((l.take kk).any t = false))
  case atStart => exact ⟨0, by omega, rfl, Below.refl _ _, Lib.hid (by simp)⟩
  case round =>
    obtain ⟨kk, hl, rfl, hbr, hk⟩ := hrel
    by_cases hlk : kk < sn
    · have hlt' : ((kk : Int) < (sn : Int)) = True := by simp; omega
      obtain ⟨x, hx⟩ : ∃ x, l[kk]? = some x := ⟨_, List.getElem?_eq_getElem (by have := HL.out; omega)⟩
      obtain ⟨g, o, e1, hg, hc⟩ := HT.out.at' kk x hx
      have e1 : sa = some ⟨g, o, none⟩ := e1
      subst e1
      have d0 : wr.cell? ⟨g, o + kk * 6, none⟩ = some (.int .i64 x.fr) := (hbr.cell (p := ⟨g, o + kk * 6, none⟩) hg).trans (by have := hc 0 (by omega); first | exact this | (rw [Nat.mul_one] at this; exact this))
      have d1 : wr.cell? ⟨g, o + kk * 6 + 1, none⟩ = some (.int .i64 x.tt) := (hbr.cell (p := ⟨g, o + kk * 6 + 1, none⟩) hg).trans (by have := hc 1 (by omega); first | exact this | (rw [Nat.mul_one] at this; exact this))
      have d2 : wr.cell? ⟨g, o + kk * 6 + 2, none⟩ = some (.int .i64 x.cur) := (hbr.cell (p := ⟨g, o + kk * 6 + 2, none⟩) hg).trans (by have := hc 2 (by omega); first | exact this | (rw [Nat.mul_one] at this; exact this))
      have d3 : wr.cell? ⟨g, o + kk * 6 + 3, none⟩ = some (.int .i64 x.sor) := (hbr.cell (p := ⟨g, o + kk * 6 + 3, none⟩) hg).trans (by have := hc 3 (by omega); first | exact this | (rw [Nat.mul_one] at this; exact this))
      have d4 : wr.cell? ⟨g, o + kk * 6 + 4, none⟩ = some (.int .i64 x.depth) := (hbr.cell (p := ⟨g, o + kk * 6 + 4, none⟩) hg).trans (by have := hc 4 (by omega); first | exact this | (rw [Nat.mul_one] at this; exact this))
      have d5 : wr.cell? ⟨g, o + kk * 6 + 5, none⟩ = some (.int .i64 x.inn) := (hbr.cell (p := ⟨g, o + kk * 6 + 5, none⟩) hg).trans (by have := hc 5 (by omega); first | exact this | (rw [Nat.mul_one] at this; exact this))
      have HX := Lib.hid hx
      clear hc hx
      go_wp2_with (first | (go_at_call 50; refine (HC.out wr hbr x (List.mem_of_getElem? HX.out)).mono ?_; rintro e w2 ⟨rfl, hb2⟩))
      · rename_i hbt
        go_ret
        refine ⟨⟨_, rfl, ?_⟩, hbr.on hb2⟩
        have h1 : l.any t = true := List.any_eq_true.2 ⟨x, List.mem_of_getElem? HX.out, hbt⟩
        rw [h1]; exact decide_eq_true (by omega)
      · rename_i hbt
        go_roundg (sn - kk - 1)
        case measure => omega
        case rel => exact ⟨kk + 1, by omega, by first | rfl | go_num, hbr.on hb2, Lib.hid (by
          rw [List.take_add_one, HX.out, List.any_append, hk.out]; simpa using hbt)⟩
    · have hlt' : ((kk : Int) < (sn : Int)) = False := by simp; omega
      go_wp2
      go_ret
      refine ⟨⟨_, rfl, ?_⟩, hbr⟩
      have := hk.out
      rw [List.take_of_length_le (by have := HL.out; omega)] at this
      rw [this]; rfl
theorem has_lp_50 (W : World) (s : Sl) (l : List Lp) (h : Lst W s 6 lpC l) (p0 p1 : Value) (t : Lp → Bool) (ht : ∀ w, Below W.heap.size W w → ∀ x ∈ l, Gives 50 #[lpV x, p0, p1] w (.bool (t x))) :
    Gives 49 #[.slice s.a s.n s.c, .func (.func 50) #[] #[p0, p1]] W (.bool (l.any t)) := by
  unfold Gives
  go_enter Tryz.func49, Tryz.ntmps49
  go_wp2_with (first | (go_at_call 107; refine (idx_lp_50 W s l h p0 p1 t ht).mono ?_; rintro e w2 ⟨⟨r, rfl, hr⟩, hb2⟩))
  go_ret
  exact ⟨by rw [← hr]; rfl, hb2⟩
def insideI (a : Int) (x : Lp) : Bool := decide ((x.fr : Int) < a ∧ a ≤ x.tt)
theorem insideI_nat (k : Nat) (x : Lp) : insideI k x = inside k x := by unfold insideI inside; rw [decide_eq_decide]; omega
theorem in_exI (at_ : Int) (x1 x2 : Nat) (x3 x4 : Int) (x5 : Nat) (x6 : Int) (k : Nat) (W : World) (hk : W.heap[k]? = some (.cells #[.int .i64 at_] 3)) : Calls Tryz.prog 55 #[.agg #[.int .i64 x1, .int .i64 x2, .int .i64 x3, .int .i64 x4, .int .i64 x5, .int .i64 x6], .pointer (some ⟨k, 0, none⟩)] W fun e w' =>
    e = .returned (.bool (insideI at_ ⟨x1, x2, x3, x4, x5, x6⟩)) ∧ w' = W.alloc (.cells #[.int .i64 x1, .int .i64 x2, .int .i64 x3, .int .i64 x4, .int .i64 x5, .int .i64 x6] 78) := by
  have hlt : k < W.heap.size := (Array.getElem?_eq_some_iff.1 hk).1
  have c1 : ∀ o j, (W.alloc o).cell? ⟨k, j, none⟩ = (#[.int .i64 at_] : Array Value)[j]? := fun o j => blk_cell (((Below.one W o).block k hlt).trans hk) j
  go_enter Tryz.func55, Tryz.ntmps55
  go_wp2
  all_goals go_ret
  all_goals refine ⟨?_, rfl⟩
  all_goals first | (simp_all [insideI]; done) | (simp_all [insideI]; intros; omega) | (simp_all [insideI]; omega)
theorem mkin_I (at_ : Int) (W : World) : Calls Tryz.prog 30 #[.int .i64 at_] W fun e w' => e = .returned (.func (.func 55) #[] #[.pointer (some ⟨W.heap.size, 0, none⟩)]) ∧ w' = W.alloc (.cells #[.int .i64 at_] 3) := by
  have hmf : ∀ (fn : Fn) (first cap : Array Value) (w : World), (Instr.makeFunc fn first cap).run Tryz.prog w = .ok (.func fn first cap) w := fun _ _ _ _ => rfl
  go_enter Tryz.func30, Tryz.ntmps30
  go_wp2
  all_goals go_ret
  exact ⟨rfl, rfl⟩
def wrongF (k : Nat) (t : Int) (x : Lp) : Bool := insideI t x && !insideI k x && (!(k == x.fr) || !(t == (k : Int) + 1))
theorem wrong_any (k : Nat) (hk4 : k < 1048576) (t : Int) (x : Lp) (b1 b2 bT bH bA bO : Nat) (W : World) (h1 : W.heap[b1]? = some (.cells #[.int .i64 t] 3)) (h2 : W.heap[b2]? = some (.cells #[.int .i64 k] 3))
    (hbT : W.heap[bT]? = some (.cells #[.func (.func 55) #[] #[.pointer (some ⟨b1, 0, none⟩)]] 80)) (hbH : W.heap[bH]? = some (.cells #[.func (.func 55) #[] #[.pointer (some ⟨b2, 0, none⟩)]] 80)) (hbA : W.heap[bA]? = some (.cells #[.int .i64 k] 3)) (hbO : W.heap[bO]? = some (.cells #[.int .i64 t] 3)) :
    Gives 51 #[lpV x, .pointer (some ⟨bT, 0, none⟩), .pointer (some ⟨bH, 0, none⟩), .pointer (some ⟨bA, 0, none⟩), .pointer (some ⟨bO, 0, none⟩)] W (.bool (wrongF k t x)) := by
  obtain ⟨x1, x2, x3, x4, x5, x6⟩ := x
  have FbT : ∀ w, Below W.heap.size W w → w.cell? ⟨bT, 0, none⟩ = some (.func (.func 55) #[] #[.pointer (some ⟨b1, 0, none⟩)]) := fun w hb => (blk_cell ((hb.block _ (Array.getElem?_eq_some_iff.1 hbT).1).trans hbT) 0).trans rfl
  have fbT1 := fun a => FbT _ (Below.one W a)
  have fbT2 := fun a b => FbT _ ((Below.one W a).new b)
  have fbT3 := fun a b c => FbT _ (((Below.one W a).new b).new c)
  clear FbT
  have FbH : ∀ w, Below W.heap.size W w → w.cell? ⟨bH, 0, none⟩ = some (.func (.func 55) #[] #[.pointer (some ⟨b2, 0, none⟩)]) := fun w hb => (blk_cell ((hb.block _ (Array.getElem?_eq_some_iff.1 hbH).1).trans hbH) 0).trans rfl
  have fbH1 := fun a => FbH _ (Below.one W a)
  have fbH2 := fun a b => FbH _ ((Below.one W a).new b)
  have fbH3 := fun a b c => FbH _ (((Below.one W a).new b).new c)
  clear FbH
  have FbA : ∀ w, Below W.heap.size W w → w.cell? ⟨bA, 0, none⟩ = some (.int .i64 k) := fun w hb => (blk_cell ((hb.block _ (Array.getElem?_eq_some_iff.1 hbA).1).trans hbA) 0).trans rfl
  have fbA1 := fun a => FbA _ (Below.one W a)
  have fbA2 := fun a b => FbA _ ((Below.one W a).new b)
  have fbA3 := fun a b c => FbA _ (((Below.one W a).new b).new c)
  clear FbA
  have FbO : ∀ w, Below W.heap.size W w → w.cell? ⟨bO, 0, none⟩ = some (.int .i64 t) := fun w hb => (blk_cell ((hb.block _ (Array.getElem?_eq_some_iff.1 hbO).1).trans hbO) 0).trans rfl
  have fbO1 := fun a => FbO _ (Below.one W a)
  have fbO2 := fun a b => FbO _ ((Below.one W a).new b)
  have fbO3 := fun a b c => FbO _ (((Below.one W a).new b).new c)
  clear FbO
  have hI1 := fun w (hb : Below W.heap.size W w) => in_exI t x1 x2 x3 x4 x5 x6 b1 w ((hb.block _ (Array.getElem?_eq_some_iff.1 h1).1).trans h1)
  have hI2 := fun w (hb : Below W.heap.size W w) => in_exI k x1 x2 x3 x4 x5 x6 b2 w ((hb.block _ (Array.getElem?_eq_some_iff.1 h2).1).trans h2)
  have hw1 : IntKind.i64.wrap ((k : Int) + 1) = (k : Int) + 1 := by rw [IntKind.wrap_i64]; omega
  have hspec : wrongF k t ⟨x1, x2, x3, x4, x5, x6⟩ = (insideI t ⟨x1, x2, x3, x4, x5, x6⟩ && !insideI k ⟨x1, x2, x3, x4, x5, x6⟩ && (!(k == x1) || !(t == (k : Int) + 1))) := rfl
  rw [hspec]
  clear hspec h1 h2 hbT hbH hbA hbO
  generalize insideI t ⟨x1, x2, x3, x4, x5, x6⟩ = p at hI1 ⊢
  generalize insideI k ⟨x1, x2, x3, x4, x5, x6⟩ = q at hI2 ⊢
  have HI1 := Lib.hid hI1
  have HI2 := Lib.hid hI2
  clear hI1 hI2
  unfold Gives
  cases p
  · go_enter Tryz.func51, Tryz.ntmps51
    go_wp2_with (first
      | (go_at_call 55; first | (with_reducible refine (HI1.out _ (by with_reducible repeat (first | exact Below.refl _ _ | refine Below.new ?_ _))).mono ?_) | (with_reducible refine (HI2.out _ (by with_reducible repeat (first | exact Below.refl _ _ | refine Below.new ?_ _))).mono ?_)
         rintro e w3 ⟨rfl, rfl⟩))
    go_ret
    exact ⟨rfl, (Below.one W _).new _⟩
  · cases q
    · by_cases hk : k = x1
      · subst hk
        by_cases ht : t = (k : Int) + 1
        · subst ht
          go_enter Tryz.func51, Tryz.ntmps51
          go_wp2_with (first
            | (go_at_call 55; first | (with_reducible refine (HI1.out _ (by with_reducible repeat (first | exact Below.refl _ _ | refine Below.new ?_ _))).mono ?_) | (with_reducible refine (HI2.out _ (by with_reducible repeat (first | exact Below.refl _ _ | refine Below.new ?_ _))).mono ?_)
               rintro e w3 ⟨rfl, rfl⟩))
          go_ret
          exact ⟨by simp, ((Below.one W _).new _).new _⟩
        · go_enter Tryz.func51, Tryz.ntmps51
          go_wp2_with (first
            | (go_at_call 55; first | (with_reducible refine (HI1.out _ (by with_reducible repeat (first | exact Below.refl _ _ | refine Below.new ?_ _))).mono ?_) | (with_reducible refine (HI2.out _ (by with_reducible repeat (first | exact Below.refl _ _ | refine Below.new ?_ _))).mono ?_)
               rintro e w3 ⟨rfl, rfl⟩))
          go_ret
          exact ⟨by simp [bne], ((Below.one W _).new _).new _⟩
      · have hk2 : ((k : Int) = (x1 : Int)) = False := by simp; omega
        go_enter Tryz.func51, Tryz.ntmps51
        go_wp2_with (first
          | (go_at_call 55; first | (with_reducible refine (HI1.out _ (by with_reducible repeat (first | exact Below.refl _ _ | refine Below.new ?_ _))).mono ?_) | (with_reducible refine (HI2.out _ (by with_reducible repeat (first | exact Below.refl _ _ | refine Below.new ?_ _))).mono ?_)
             rintro e w3 ⟨rfl, rfl⟩))
        go_ret
        exact ⟨by simp [hk], ((Below.one W _).new _).new _⟩
    · go_enter Tryz.func51, Tryz.ntmps51
      go_wp2_with (first
        | (go_at_call 55; first | (with_reducible refine (HI1.out _ (by with_reducible repeat (first | exact Below.refl _ _ | refine Below.new ?_ _))).mono ?_) | (with_reducible refine (HI2.out _ (by with_reducible repeat (first | exact Below.refl _ _ | refine Below.new ?_ _))).mono ?_)
           rintro e w3 ⟨rfl, rfl⟩))
      go_ret
      exact ⟨rfl, ((Below.one W _).new _).new _⟩
def entersF (k : Nat) (i : Ins) (l : List Lp) : Bool := (leadsF k i).any fun t => l.any (wrongF k t)
theorem four_blocks (W : World) (a b c d : Obj) : ((((W.alloc a).alloc b).alloc c).alloc d).heap.size = W.heap.size + 4 ∧ ((((W.alloc a).alloc b).alloc c).alloc d).heap[W.heap.size]? = some a ∧ ((((W.alloc a).alloc b).alloc c).alloc d).heap[W.heap.size + 1]? = some b ∧ ((((W.alloc a).alloc b).alloc c).alloc d).heap[W.heap.size + 2]? = some c ∧ ((((W.alloc a).alloc b).alloc c).alloc d).heap[W.heap.size + 3]? = some d := by
  have s1 := heap_size_alloc W a
  have s2 := heap_size_alloc (W.alloc a) b
  have s3 := heap_size_alloc ((W.alloc a).alloc b) c
  have s4 := heap_size_alloc (((W.alloc a).alloc b).alloc c) d
  have t2 := two_blocks W a b
  refine ⟨by omega, ?_, ?_, ?_, at_three W a b c d⟩
  · exact (Below.heap_alloc _ d _ (by omega)).trans ((Below.heap_alloc _ c _ (by omega)).trans t2.2.2.1)
  · exact (Below.heap_alloc _ d _ (by omega)).trans ((Below.heap_alloc _ c _ (by omega)).trans t2.2.2.2)
  · exact (Below.heap_alloc _ d _ (by omega)).trans (at_two W a b c)
theorem three_blocks (W : World) (a b c : Obj) : (((W.alloc a).alloc b).alloc c).heap.size = W.heap.size + 3 ∧ (((W.alloc a).alloc b).alloc c).heap[W.heap.size]? = some a ∧ (((W.alloc a).alloc b).alloc c).heap[W.heap.size + 1]? = some b ∧ (((W.alloc a).alloc b).alloc c).heap[W.heap.size + 2]? = some c := by
  have s1 := heap_size_alloc W a
  have s2 := heap_size_alloc (W.alloc a) b
  have s3 := heap_size_alloc ((W.alloc a).alloc b) c
  have t2 := two_blocks W a b
  refine ⟨by omega, ?_, ?_, at_two W a b c⟩
  · exact (Below.heap_alloc _ c _ (by omega)).trans t2.2.2.1
  · exact (Below.heap_alloc _ c _ (by omega)).trans t2.2.2.2
theorem enters_any (p : Pg) (D : Dat) (W : World) (hp : Has W p D) (k : Nat) (hk4 : k < 4000) (i : Ins) (hi2 : D.code[k]? = some i) (s : Sl) (l : List Lp) (h : Lst W s 6 lpC l) :
    Gives 24 #[p.v, .int .i64 k, .slice s.a s.n s.c] W (.bool (entersF k i l)) := by
  have hmf : ∀ (fn : Fn) (first cap : Array Value) (w : World), (Instr.makeFunc fn first cap).run Tryz.prog w = .ok (.func fn first cap) w := fun _ _ _ _ => rfl
  have hld := fun w (hb : Below W.heap.size W w) => leads_any p D w (hp.on hb) k hk4 i hi2
  obtain ⟨ver, regs, binds, names, cons, curs, sorts, tots, code⟩ := p
  have HLD : Hid (∀ w, Below W.heap.size W w → Calls Tryz.prog 38 #[.agg #[.int .i64 ver, .int .i64 regs, .int .i64 binds, .slice names.a names.n names.c, .slice cons.a cons.n cons.c, .slice curs.a curs.n curs.c, .slice sorts.a sorts.n sorts.c, .slice tots.a tots.n tots.c, .slice code.a code.n code.c], .int .i64 k] w fun e w' => (∃ s : Sl, e = .returned (.slice s.a s.n s.c) ∧ Lst w' s 1 intC (leadsF k i)) ∧ Below w.heap.size w w') := Lib.hid hld
  have HH := Lib.hid h
  clear hld hp hi2 h
  unfold Gives
  go_enter Tryz.func24, Tryz.ntmps24
  go_wp2_with (first
    | (go_at_call 30; with_reducible refine (mkin_I _ _).mono ?_; rintro e w2 ⟨rfl, rfl⟩)
    | (go_at_call 38; with_reducible refine (HLD.out _ (by with_reducible repeat (first | exact Below.refl _ _ | exact Below.one _ _ | refine Below.new ?_ _))).mono ?_
       rintro e w4 ⟨⟨s2, rfl, hl2⟩, hb4⟩))
  have hbW : Below W.heap.size W w4 := by
    refine Below.trans ?_ (hb4.mono ?_)
    · with_reducible repeat (first | exact Below.one _ _ | refine Below.new ?_ _)
    · rw [heap_size_alloc, heap_size_alloc, heap_size_alloc, heap_size_alloc]; omega
  have h4s : W.heap.size + 4 ≤ w4.heap.size := by have := hb4.size; rw [heap_size_alloc, heap_size_alloc, heap_size_alloc, heap_size_alloc] at this; omega
  have hq1 : w4.heap[W.heap.size + 1]? = some (.cells #[.int .i64 k] 3) := (hb4.block _ (by rw [heap_size_alloc, heap_size_alloc, heap_size_alloc, heap_size_alloc]; omega)).trans (four_blocks W _ _ _ _).2.2.1
  have hq2 : w4.heap[W.heap.size + 1 + 1]? = some (.cells #[.int .i64 k] 3) := (hb4.block _ (by rw [heap_size_alloc, heap_size_alloc, heap_size_alloc, heap_size_alloc]; omega)).trans (four_blocks W _ _ _ _).2.2.2.1
  have hq3 : w4.heap[W.heap.size + 1 + 1 + 1]? = some (.cells #[.func (.func 55) #[] #[.pointer (some ⟨W.heap.size + 1 + 1, 0, none⟩)]] 80) := (hb4.block _ (by rw [heap_size_alloc, heap_size_alloc, heap_size_alloc, heap_size_alloc]; omega)).trans (four_blocks W _ _ _ _).2.2.2.2
  have HW := Lib.hid (And.intro hbW (And.intro h4s (And.intro hq1 (And.intro hq2 hq3))))
  have HL2 := Lib.hid hl2
  clear hb4 hbW h4s hq1 hq2 hq3 hl2
  obtain ⟨a2, n2, c2⟩ := s2
  have hsm2 : n2 ≤ 9223372036854775807 := HL2.out.small
  have HN2 : Hid (n2 = (leadsF k i).length) := Lib.hid HL2.out.len
  go_loopg [18] n2 (fun lft j wr => ∃ kk : Nat, kk + lft = n2 ∧ j = .int .i64 kk ∧ Hid (Below w4.heap.size w4 wr ∧ ((leadsF k i).take kk).any (fun t => l.any (wrongF k t)) = false))
  case atStart => exact ⟨0, by omega, rfl, Lib.hid ⟨Below.refl _ _, by simp⟩⟩
  case round =>
    obtain ⟨kk, hl, rfl, hst⟩ := hrel
    by_cases hlk : kk < n2
    · have hlt' : ((kk : Int) < (n2 : Int)) = True := by simp; omega
      obtain ⟨t, ht⟩ : ∃ t, (leadsF k i)[kk]? = some t := ⟨_, List.getElem?_eq_getElem (by have := HN2.out; omega)⟩
      obtain ⟨g2, o2, e2, hg2, hc⟩ := HL2.out.at' kk t ht
      have e2 : a2 = some ⟨g2, o2, none⟩ := e2
      subst e2
      have d0 : wr.cell? ⟨g2, o2 + kk, none⟩ = some (.int .i64 t) := (hst.out.1.cell (p := ⟨g2, o2 + kk, none⟩) hg2).trans (by have := hc 0 (by omega); rw [Nat.mul_one] at this; exact this)
      have hbr : Below W.heap.size W wr := HW.out.1.on hst.out.1
      have hcall : ∀ w, w = ((wr.alloc (.cells #[.int .i64 t] 3)).alloc (.cells #[.int .i64 t] 3)).alloc (.cells #[.func (.func 55) #[] #[.pointer (some ⟨wr.heap.size + 1, 0, none⟩)]] 80) →
          Calls Tryz.prog 49 #[.slice s.a s.n s.c, .func (.func 51) #[] #[.pointer (some ⟨wr.heap.size + 1 + 1, 0, none⟩), .pointer (some ⟨W.heap.size + 1 + 1 + 1, 0, none⟩), .pointer (some ⟨W.heap.size + 1, 0, none⟩), .pointer (some ⟨wr.heap.size, 0, none⟩)]] w (fun e w' => e = .returned (.bool (l.any (wrongF k t))) ∧ Below w.heap.size w w') := fun w hw => by
        have tb := three_blocks wr (.cells #[.int .i64 t] 3) (.cells #[.int .i64 t] 3) (.cells #[.func (.func 55) #[] #[.pointer (some ⟨wr.heap.size + 1, 0, none⟩)]] 80)
        rw [← hw] at tb
        have hbw : Below wr.heap.size wr w := by rw [hw]; exact ((Below.one wr _).new _).new _
        have hws : w4.heap.size ≤ wr.heap.size := hst.out.1.size
        have up : ∀ w' b x, Below w.heap.size w w' → w.heap[b]? = some x → w'.heap[b]? = some x := fun w' b x hb hx => (hb.block _ (Array.getElem?_eq_some_iff.1 hx).1).trans hx
        have up4 : ∀ b x, w4.heap[b]? = some x → w.heap[b]? = some x := fun b x hx => by
          have hlt := (Array.getElem?_eq_some_iff.1 hx).1
          exact (hbw.block _ (by omega)).trans ((hst.out.1.block _ hlt).trans hx)
        exact has_lp_51 w s l (HH.out.on (hbr.on hbw)) _ _ _ _ (wrongF k t) fun w' hb' x _ => wrong_any k (by omega) t x (wr.heap.size + 1) (W.heap.size + 1 + 1) _ _ _ _ w' (up _ _ _ hb' tb.2.2.1) (up _ _ _ hb' (up4 _ _ HW.out.2.2.2.1)) (up _ _ _ hb' tb.2.2.2) (up _ _ _ hb' (up4 _ _ HW.out.2.2.2.2)) (up _ _ _ hb' (up4 _ _ HW.out.2.2.1)) (up _ _ _ hb' tb.2.1)
      have HC := Lib.hid hcall
      have HT := Lib.hid ht
      have hnext : ((leadsF k i).take (kk + 1)).any (fun t => l.any (wrongF k t)) = l.any (wrongF k t) := by
        rw [List.take_add_one, ht, Option.toList_some, List.any_append, hst.out.2]; simp
      have HNX := Lib.hid hnext
      clear hc ht hbr hcall hnext
      generalize hres : l.any (wrongF k t) = r at HC HNX
      clear hres
      cases r
      · go_wp2_with (first
          | (go_at_call 30; with_reducible refine (mkin_I _ _).mono ?_; rintro e w2 ⟨rfl, rfl⟩)
          | (go_at_call 49; with_reducible refine (HC.out _ rfl).mono ?_; rintro e w5 ⟨rfl, hb5⟩))
        go_roundg (n2 - kk - 1)
        case measure => omega
        case rel => exact ⟨kk + 1, by omega, by first | rfl | go_num, Lib.hid ⟨hst.out.1.on ((((Below.one wr _).new _).new _).on hb5), HNX.out⟩⟩
      · go_wp2_with (first
          | (go_at_call 30; with_reducible refine (mkin_I _ _).mono ?_; rintro e w2 ⟨rfl, rfl⟩)
          | (go_at_call 49; with_reducible refine (HC.out _ rfl).mono ?_; rintro e w5 ⟨rfl, hb5⟩))
        go_ret
        have hen : entersF k i l = true := by
          have := HNX.out
          unfold entersF
          refine List.any_eq_true.2 ?_
          obtain ⟨y, hy1, hy2⟩ := List.any_eq_true.1 this
          exact ⟨y, List.mem_of_mem_take hy1, hy2⟩
        exact ⟨by rw [hen]; rfl, HW.out.1.on (hst.out.1.on ((((Below.one wr _).new _).new _).on hb5))⟩
    · have hlt' : ((kk : Int) < (n2 : Int)) = False := by simp; omega
      have hen : entersF k i l = false := by
        have h1 := hst.out.2
        rw [List.take_of_length_le (by have := HN2.out; omega)] at h1
        exact h1
      have HEN := Lib.hid hen
      clear hen
      go_wp2
      go_ret
      exact ⟨by rw [HEN.out]; rfl, HW.out.1.on hst.out.1⟩
abbrev opC (n : Int) : List Value := [.int .u8 n]
theorem idx_op (W : World) (s : Sl) (l : List Int) (h : Lst W s 1 opC l) (v : Int) :
    Calls Tryz.prog 108 #[.slice s.a s.n s.c, .int .u8 v] W fun e w' => (∃ r : Int, e = .returned (.int .i64 r) ∧ decide (0 ≤ r) = l.any (v == ·)) ∧ w' = W := by
  obtain ⟨sa, sn, sc⟩ := s
  have HL : Hid (sn = l.length) := Lib.hid h.len
  have hsm : sn ≤ 9223372036854775807 := h.small
  have HT := Lib.hid h
  clear h
  go_enter Tryz.func108, Tryz.ntmps108
  go_wp2
  go_loopg [8] sn (fun lft i wr => ∃ kk : Nat, kk + lft = sn ∧ i = .int .i64 kk ∧ wr = W ∧ Hid ((l.take kk).any (v == ·) = false))
  case atStart => exact ⟨0, by omega, rfl, rfl, Lib.hid (by simp)⟩
  case round =>
    obtain ⟨kk, hl, rfl, rfl, hk⟩ := hrel
    by_cases hlk : kk < sn
    · have hlt' : ((kk : Int) < (sn : Int)) = True := by simp; omega
      obtain ⟨x, hx⟩ : ∃ x, l[kk]? = some x := ⟨_, List.getElem?_eq_getElem (by have := HL.out; omega)⟩
      obtain ⟨g, o, e1, hg, hc⟩ := HT.out.at' kk x hx
      have e1 : sa = some ⟨g, o, none⟩ := e1
      subst e1
      have d0 : wr.cell? ⟨g, o + kk, none⟩ = some (.int .u8 x) := by have := hc 0 (by omega); rw [Nat.mul_one] at this; exact this
      have HX := Lib.hid hx
      clear hc hx
      by_cases hv : v = x
      · subst hv
        go_wp2
        go_ret
        refine ⟨⟨_, rfl, ?_⟩, rfl⟩
        have h1 : l.any (v == ·) = true := List.any_eq_true.2 ⟨v, List.mem_of_getElem? HX.out, by simp⟩
        rw [h1]; exact decide_eq_true (by omega)
      · have hv2 : (v == x) = false := by simpa using hv
        go_wp2
        go_roundg (sn - kk - 1)
        case measure => omega
        case rel => exact ⟨kk + 1, by omega, by first | rfl | go_num, rfl, Lib.hid (by
          rw [List.take_add_one, HX.out, List.any_append, hk.out]; simpa using hv)⟩
    · have hlt' : ((kk : Int) < (sn : Int)) = False := by simp; omega
      go_wp2
      go_ret
      refine ⟨⟨_, rfl, ?_⟩, rfl⟩
      have := hk.out
      rw [List.take_of_length_le (by have := HL.out; omega)] at this
      rw [this]; rfl
theorem has_op (W : World) (s : Sl) (l : List Int) (h : Lst W s 1 opC l) (v : Int) :
    Calls Tryz.prog 52 #[.slice s.a s.n s.c, .int .u8 v] W fun e w' => e = .returned (.bool (l.any (v == ·))) ∧ w' = W := by
  go_enter Tryz.func52, Tryz.ntmps52
  go_wp2_with (first | (go_at_call 108; refine (idx_op W s l h v).mono ?_; rintro e w2 ⟨⟨r, rfl, hr⟩, rfl⟩))
  go_ret
  exact ⟨by rw [← hr]; rfl, rfl⟩
theorem lst_op {w : World} {g : Nat} (l : List Int) (h : w.heap[g]? = some (.cells (l.map (Value.int .u8)).toArray 43)) (hn : l.length ≤ 4000) : Lst w ⟨some ⟨g, 0, none⟩, l.length, l.length⟩ 1 opC l :=
  ⟨rfl, by show l.length ≤ _; omega, fun i y hy => by
    refine ⟨g, 0, rfl, (Array.getElem?_eq_some_iff.1 h).1, fun j hj => ?_⟩
    have : j = 0 := by omega
    subst this
    rw [blk_cell h]
    simp [hy]⟩
def heldF (k : Nat) (cu so : Bool) (a : Int) (x : Lp) : Bool := insideI k x && !(k == x.tt) && ((cu && x.cur == a) || (so && x.sor == a))
theorem held_any (k : Nat) (hk4 : k < 1048576) (cu so : Bool) (io ia ib ic id : Int) (x : Lp) (b2 bH bA bC bI bS : Nat) (W : World) (h2 : W.heap[b2]? = some (.cells #[.int .i64 k] 3))
    (hbH : W.heap[bH]? = some (.cells #[.func (.func 55) #[] #[.pointer (some ⟨b2, 0, none⟩)]] 80)) (hbA : W.heap[bA]? = some (.cells #[.int .i64 k] 3)) (hbC : W.heap[bC]? = some (.cells #[.bool cu] 4)) (hbI : W.heap[bI]? = some (.cells #[.int .u8 io, .int .i64 ia, .int .i64 ib, .int .i64 ic, .int .i64 id] 45)) (hbS : W.heap[bS]? = some (.cells #[.bool so] 4)) :
    Gives 53 #[lpV x, .pointer (some ⟨bH, 0, none⟩), .pointer (some ⟨bA, 0, none⟩), .pointer (some ⟨bC, 0, none⟩), .pointer (some ⟨bI, 0, none⟩), .pointer (some ⟨bS, 0, none⟩)] W (.bool (heldF k cu so ia x)) := by
  obtain ⟨x1, x2, x3, x4, x5, x6⟩ := x
  have FbI : ∀ w, Below W.heap.size W w → w.cell? ⟨bI, 1, none⟩ = some (.int .i64 ia) := fun w hb => (blk_cell ((hb.block _ (Array.getElem?_eq_some_iff.1 hbI).1).trans hbI) 1).trans rfl
  have fbI1 := fun a => FbI _ (Below.one W a)
  have fbI2 := fun a b => FbI _ ((Below.one W a).new b)
  clear FbI
  have FbH : ∀ w, Below W.heap.size W w → w.cell? ⟨bH, 0, none⟩ = some (.func (.func 55) #[] #[.pointer (some ⟨b2, 0, none⟩)]) := fun w hb => (blk_cell ((hb.block _ (Array.getElem?_eq_some_iff.1 hbH).1).trans hbH) 0).trans rfl
  have fbH1 := fun a => FbH _ (Below.one W a)
  have fbH2 := fun a b => FbH _ ((Below.one W a).new b)
  clear FbH
  have FbA : ∀ w, Below W.heap.size W w → w.cell? ⟨bA, 0, none⟩ = some (.int .i64 k) := fun w hb => (blk_cell ((hb.block _ (Array.getElem?_eq_some_iff.1 hbA).1).trans hbA) 0).trans rfl
  have fbA1 := fun a => FbA _ (Below.one W a)
  have fbA2 := fun a b => FbA _ ((Below.one W a).new b)
  clear FbA
  have FbC : ∀ w, Below W.heap.size W w → w.cell? ⟨bC, 0, none⟩ = some (.bool cu) := fun w hb => (blk_cell ((hb.block _ (Array.getElem?_eq_some_iff.1 hbC).1).trans hbC) 0).trans rfl
  have fbC1 := fun a => FbC _ (Below.one W a)
  have fbC2 := fun a b => FbC _ ((Below.one W a).new b)
  clear FbC
  have FbS : ∀ w, Below W.heap.size W w → w.cell? ⟨bS, 0, none⟩ = some (.bool so) := fun w hb => (blk_cell ((hb.block _ (Array.getElem?_eq_some_iff.1 hbS).1).trans hbS) 0).trans rfl
  have fbS1 := fun a => FbS _ (Below.one W a)
  have fbS2 := fun a b => FbS _ ((Below.one W a).new b)
  clear FbS
  have hI2 := fun w (hb : Below W.heap.size W w) => in_exI k x1 x2 x3 x4 x5 x6 b2 w ((hb.block _ (Array.getElem?_eq_some_iff.1 h2).1).trans h2)
  have hspec : heldF k cu so ia ⟨x1, x2, x3, x4, x5, x6⟩ = (insideI k ⟨x1, x2, x3, x4, x5, x6⟩ && !(k == x2) && ((cu && x3 == ia) || (so && x4 == ia))) := rfl
  rw [hspec]
  clear hspec h2 hbH hbA hbC hbI hbS
  generalize insideI k ⟨x1, x2, x3, x4, x5, x6⟩ = q at hI2 ⊢
  have HI2 := Lib.hid hI2
  clear hI2
  unfold Gives
  cases q
  · go_enter Tryz.func53, Tryz.ntmps53
    go_wp2_with (first
      | (go_at_call 55; with_reducible refine (HI2.out _ (by with_reducible repeat (first | exact Below.refl _ _ | refine Below.new ?_ _))).mono ?_
         rintro e w3 ⟨rfl, rfl⟩))
    go_ret
    exact ⟨by simp, (Below.one W _).new _⟩
  · by_cases hk : k = x2
    · subst hk
      go_enter Tryz.func53, Tryz.ntmps53
      go_wp2_with (first
      | (go_at_call 55; with_reducible refine (HI2.out _ (by with_reducible repeat (first | exact Below.refl _ _ | refine Below.new ?_ _))).mono ?_
         rintro e w3 ⟨rfl, rfl⟩))
      go_ret
      exact ⟨by simp, (Below.one W _).new _⟩
    · have hk2 : ((k : Int) = (x2 : Int)) = False := by simp; omega
      have hkb : ((k : Int) == (x2 : Int)) = false := by simp; omega
      have hkn : (k == x2) = false := by simpa using hk
      cases cu
      · cases so
        · go_enter Tryz.func53, Tryz.ntmps53
          go_wp2_with (first
      | (go_at_call 55; with_reducible refine (HI2.out _ (by with_reducible repeat (first | exact Below.refl _ _ | refine Below.new ?_ _))).mono ?_
         rintro e w3 ⟨rfl, rfl⟩))
          go_ret
          exact ⟨by simp, (Below.one W _).new _⟩
        · go_enter Tryz.func53, Tryz.ntmps53
          go_wp2_with (first
      | (go_at_call 55; with_reducible refine (HI2.out _ (by with_reducible repeat (first | exact Below.refl _ _ | refine Below.new ?_ _))).mono ?_
         rintro e w3 ⟨rfl, rfl⟩))
          go_ret
          exact ⟨by simp [bne, hkb, hkn], (Below.one W _).new _⟩
      · by_cases h3 : x3 = ia
        · subst h3
          go_enter Tryz.func53, Tryz.ntmps53
          go_wp2_with (first
      | (go_at_call 55; with_reducible refine (HI2.out _ (by with_reducible repeat (first | exact Below.refl _ _ | refine Below.new ?_ _))).mono ?_
         rintro e w3 ⟨rfl, rfl⟩))
          go_ret
          exact ⟨by simp [bne, hkb, hkn], (Below.one W _).new _⟩
        · have h3f : (x3 == ia) = false := by simpa using h3
          cases so
          · go_enter Tryz.func53, Tryz.ntmps53
            go_wp2_with (first
      | (go_at_call 55; with_reducible refine (HI2.out _ (by with_reducible repeat (first | exact Below.refl _ _ | refine Below.new ?_ _))).mono ?_
         rintro e w3 ⟨rfl, rfl⟩))
            go_ret
            exact ⟨by simp [bne, hkb, hkn, h3f], (Below.one W _).new _⟩
          · go_enter Tryz.func53, Tryz.ntmps53
            go_wp2_with (first
      | (go_at_call 55; with_reducible refine (HI2.out _ (by with_reducible repeat (first | exact Below.refl _ _ | refine Below.new ?_ _))).mono ?_
         rintro e w3 ⟨rfl, rfl⟩))
            go_ret
            exact ⟨by simp [bne, hkb, hkn, h3f], (Below.one W _).new _⟩
theorem topb {w : World} {o : Obj} {n : Nat} (h : w.heap.size = n) : (w.alloc o).heap[n]? = some o := by subst h; exact heap_alloc_new w o
theorem keepb {w : World} {b : Nat} {x : Obj} (o : Obj) (h : w.heap[b]? = some x) : (w.alloc o).heap[b]? = some x := (Below.heap_alloc w o b (Array.getElem?_eq_some_iff.1 h).1).trans h
def busyF (k : Nat) (i : Ins) (l : List Lp) : Bool := l.any (heldF k ([13, 14, 15, 17].any (i.o == ·)) ([20, 21, 22].any (i.o == ·)) i.a)
theorem busy_any (W : World) (k : Nat) (hk4 : k < 4000) (i : Ins) (s : Sl) (l : List Lp) (h : Lst W s 6 lpC l) :
    Gives 25 #[i.v, .int .i64 k, .slice s.a s.n s.c] W (.bool (busyF k i l)) := by
  have hmf : ∀ (fn : Fn) (first cap : Array Value) (w : World), (Instr.makeFunc fn first cap).run Tryz.prog w = .ok (.func fn first cap) w := fun _ _ _ _ => rfl
  obtain ⟨io, ia, ib, ic, id⟩ := i
  have hbf : busyF k ⟨io, ia, ib, ic, id⟩ l = l.any (heldF k ([13, 14, 15, 17].any (io == ·)) ([20, 21, 22].any (io == ·)) ia) := rfl
  rw [hbf]
  clear hbf
  have hc1 : ∀ w b, w.heap[b]? = some (.cells #[.int .u8 13, .int .u8 14, .int .u8 15, .int .u8 17] 43) → Calls Tryz.prog 52 #[.slice (some ⟨b, 0, none⟩) 4 4, .int .u8 io] w fun e w' => e = .returned (.bool ([13, 14, 15, 17].any (io == ·))) ∧ w' = w := fun w b hb => has_op w _ _ (lst_op [13, 14, 15, 17] hb (by decide)) io
  have hc2 : ∀ w b, w.heap[b]? = some (.cells #[.int .u8 20, .int .u8 21, .int .u8 22] 43) → Calls Tryz.prog 52 #[.slice (some ⟨b, 0, none⟩) 3 3, .int .u8 io] w fun e w' => e = .returned (.bool ([20, 21, 22].any (io == ·))) ∧ w' = w := fun w b hb => has_op w _ _ (lst_op [20, 21, 22] hb (by decide)) io
  generalize [13, 14, 15, 17].any (io == ·) = cu at hc1 ⊢
  generalize [20, 21, 22].any (io == ·) = so at hc2 ⊢
  have hc3 : ∀ w b2 bH bA bC bI bS, Below W.heap.size W w → w.heap[b2]? = some (.cells #[.int .i64 k] 3) → w.heap[bH]? = some (.cells #[.func (.func 55) #[] #[.pointer (some ⟨b2, 0, none⟩)]] 80) → w.heap[bA]? = some (.cells #[.int .i64 k] 3) → w.heap[bC]? = some (.cells #[.bool cu] 4) → w.heap[bI]? = some (.cells #[.int .u8 io, .int .i64 ia, .int .i64 ib, .int .i64 ic, .int .i64 id] 45) → w.heap[bS]? = some (.cells #[.bool so] 4) →
      Calls Tryz.prog 49 #[.slice s.a s.n s.c, .func (.func 53) #[] #[.pointer (some ⟨bH, 0, none⟩), .pointer (some ⟨bA, 0, none⟩), .pointer (some ⟨bC, 0, none⟩), .pointer (some ⟨bI, 0, none⟩), .pointer (some ⟨bS, 0, none⟩)]] w fun e w' => e = .returned (.bool (l.any (heldF k cu so ia))) ∧ Below w.heap.size w w' := fun w b2 bH bA bC bI bS hb q2 qH qA qC qI qS => by
    have up : ∀ w' b x, Below w.heap.size w w' → w.heap[b]? = some x → w'.heap[b]? = some x := fun w' b x hb hx => (hb.block _ (Array.getElem?_eq_some_iff.1 hx).1).trans hx
    exact has_lp_53 w s l (h.on hb) _ _ _ _ _ (heldF k cu so ia) fun w' hb' x _ => held_any k (by omega) cu so io ia ib ic id x b2 _ _ _ _ _ w' (up _ _ _ hb' q2) (up _ _ _ hb' qH) (up _ _ _ hb' qA) (up _ _ _ hb' qC) (up _ _ _ hb' qI) (up _ _ _ hb' qS)
  have HC1 := Lib.hid hc1
  have HC2 := Lib.hid hc2
  have HC3 := Lib.hid hc3
  clear hc1 hc2 hc3 h
  unfold Gives
  go_enter Tryz.func25, Tryz.ntmps25
  go_wp2_with (first
    | (go_at_call 30; with_reducible refine (mkin_I _ _).mono ?_; rintro e w2 ⟨rfl, rfl⟩)
    | (go_at_call 52; first | (with_reducible refine (HC1.out _ _ (topb (by simp only [heap_size_alloc]))).mono ?_; rintro e w3 ⟨rfl, rfl⟩) | (with_reducible refine (HC2.out _ _ (topb (by simp only [heap_size_alloc]))).mono ?_; rintro e w3 ⟨rfl, rfl⟩)))
  with_reducible refine (HC3.out _ (W.heap.size + 1 + 1) _ _ _ _ _ (by with_reducible repeat (first | exact Below.one _ _ | refine Below.new ?_ _)) ?h2 ?hH ?hA ?hC ?hI ?hS).mono ?_
  case h2 => iterate 5 refine keepb _ ?_
             exact topb (by simp only [heap_size_alloc])
  case hH => iterate 4 refine keepb _ ?_
             exact topb (by simp only [heap_size_alloc])
  case hA => iterate 6 refine keepb _ ?_
             exact topb (by simp only [heap_size_alloc])
  case hC => iterate 2 refine keepb _ ?_
             exact topb (by simp only [heap_size_alloc])
  case hI => iterate 7 refine keepb _ ?_
             exact topb rfl
  case hS => exact topb (by simp only [heap_size_alloc])
  rintro e w5 ⟨rfl, hb5⟩
  have hbW : Below W.heap.size W w5 := by
    refine Below.on ?_ hb5
    with_reducible repeat (first | exact Below.one _ _ | refine Below.new ?_ _)
  clear hb5
  go_wp2
  go_ret
  exact ⟨rfl, hbW⟩
end Go.Proofs.Vf
