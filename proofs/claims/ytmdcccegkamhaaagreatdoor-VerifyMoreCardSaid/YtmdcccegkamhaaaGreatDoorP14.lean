/- The program's verify, flow and code, followed by hand: part 14. -/
import Derived.Test.YtmdcccegkamhaaaGreatDoorP13
import Derived.Deep.CutBlock
import Derived.Deep.CutRange
import Derived.Deep.DeepCutAuto
set_option maxHeartbeats 4000000
set_option maxRecDepth 100000
set_option linter.unusedSectionVars false
set_option linter.unusedVariables false
set_option linter.unusedSimpArgs false
namespace Go.Proofs.Vf
open Go Go.Proofs Go.RowKit Go.Lib Go.Maps Go.ChangeMaps
open Go.Proofs.Vg (Lp inside insF insFrom top boundF straightFrom)
attribute [local go_sem ↓] Go.wp_at_zero Go.wp_at_succ
def Fin (W : World) (e : Ending) (w' : World) : Prop := e = .returned (.bool true) ∧ w'.os = W.os ∧ w'.output = W.output ∧ ∀ i, i < W.heap.size → w'.heap[i]? = W.heap[i]?
theorem Fin.below {W w w' : World} (hb : Below W.heap.size W w) (h : w'.os = w.os ∧ w'.output = w.output ∧ ∀ i, i < w.heap.size → w'.heap[i]? = w.heap[i]?) : Fin W (.returned (.bool true)) w' :=
 ⟨rfl, h.1.trans hb.os, h.2.1.trans hb.output, fun i hi => (h.2.2 i (Nat.lt_of_lt_of_le hi hb.size)).trans (hb.block i hi)⟩
abbrev Wakes (W : World) : Prop := ∀ w, Below W.heap.size W w → Calls Tryz.prog 7 #[] w fun e w' => e = .returned (.bool true) ∧ w'.os = w.os ∧ w'.output = w.output ∧ ∀ i, i < w.heap.size → w'.heap[i]? = w.heap[i]?
theorem boundE_pos (p : Pg) (D : Dat) {r : Int} (h : 0 ≤ r) : boundE p D r = boundE p D 0 := by
 unfold boundE
 rw [if_neg (show ¬ r < 0 by omega), if_neg (show ¬ (0 : Int) < 0 by omega)]
theorem boundE_neg (p : Pg) (D : Dat) : boundE p D (-1) = if boundE p D 0 = 0 then 2 else boundE p D 0 := by
 unfold boundE
 by_cases h : loopsE p D = 0
 · rw [if_pos h, if_pos h]
   cases writesF D.code (loopsL D.code) <;> simp
 · rw [if_neg h, if_neg h, if_neg h]
theorem boundE_kinds (p : Pg) (D : Dat) : (boundE p D 0 = 0 ∧ loopsE p D = 0) ∨ (boundE p D 0 ≠ 0 ∧ boundE p D 0 ≠ 2 ∧ (loopsE p D = 0 ∨ loopsE p D = boundE p D 0)) := by
 rcases loopsE_cases p D with ⟨h0, _⟩ | h1
 · cases hw : writesF D.code (loopsL D.code) with
   | true => exact .inl ⟨by unfold boundE; rw [if_pos h0, hw]; rfl, h0⟩
   | false =>
     have e : boundE p D 0 = 143 := by unfold boundE; rw [if_pos h0, hw]; rfl
     exact .inr ⟨by rw [e]; decide, by rw [e]; decide, .inl h0⟩
 · have h3 : loopsE p D ≠ 0 := by rcases h1 with h | h <;> rw [h] <;> decide
   have e : boundE p D 0 = loopsE p D := by unfold boundE; rw [if_neg h3]
   exact .inr ⟨by rw [e]; exact h3, by rw [e]; rcases h1 with h | h <;> rw [h] <;> decide, .inr e.symm⟩
theorem boundN_zero {p : Pg} {D : Dat} {r : Int} (h : boundE p D r ≠ 0) : boundN p D r = 0 := by unfold boundN; rw [if_neg h]
theorem grows_bad {W0 W : World} {p : Pg} {D : Dat} (h : Giv W0 W p D) (x0 x1 : Int) (hA : Wakes W) (hE : boundE p D 0 ≠ 0) :
 Calls Tryz.prog 3 #[p.v, .agg #[.int .i64 x0, .int .i64 x1]] W (Fin W) := by
 obtain ⟨hk0, hk2, hkl⟩ : boundE p D 0 ≠ 0 ∧ boundE p D 0 ≠ 2 ∧ (loopsE p D = 0 ∨ loopsE p D = boundE p D 0) := by
  rcases boundE_kinds p D with ⟨h1, _⟩ | h1
  · exact absurd h1 hE
  · exact h1
 have hgr := fun w (hb : Below W.heap.size W w) => great_any p D w (h.has.on hb)
 have hlo := fun w (hb : Below W.heap.size W w) => (loops_any W0 h.known p D w (h.on hb).back (h.has.on hb) h.ops h.wf).mono (R' := fun e w' => (∃ s : Sl, e = .returned (.tuple #[.slice s.a s.n s.c, .int .i64 (loopsE p D)])) ∧ Below w.heap.size w w') fun e w' ⟨⟨s, he, _⟩, hb⟩ => ⟨⟨s, he⟩, hb⟩
 have hbo : ∀ w, Below W.heap.size W w → ∀ r : Int, r ≤ 9223372036854775807 → 0 ≤ r ∨ r = -1 → Calls Tryz.prog 10 #[p.v, .int .i64 r] w fun e w' => e = .returned (.tuple #[.int .i64 0, .int .i64 (boundE p D 0)]) ∧ Below w.heap.size w w' := fun w hb r hr hc => by
  have e1 : boundE p D r = boundE p D 0 := by
   rcases hc with hc | rfl
   · exact boundE_pos p D hc
   · rw [boundE_neg, if_neg hk0]
  have := bound_any (h.on hb) r hr
  rw [boundN_zero (by rw [e1]; exact hk0), e1] at this
  exact this
 have hpk := fun w (x : Int) => pick_any x 1048576 (by decide) w
 obtain ⟨ka, hka⟩ : ∃ k, k = pickN x0 1048576 := ⟨_, rfl⟩
 obtain ⟨kb, hkb⟩ : ∃ k, k = pickN x1 1048576 := ⟨_, rfl⟩
 have hpa := fun w => hpk w x0
 have hpb := fun w => hpk w x1
 rw [← hka] at hpa
 rw [← hkb] at hpb
 have HKL : Hid ((ka : Int) < 1048576 ∧ (kb : Int) < 1048576) := Lib.hid ⟨by rw [hka]; exact pickN_lt (by decide), by rw [hkb]; exact pickN_lt (by decide)⟩
 have hl2 : (loopsE p D == 0) = true ∨ ((loopsE p D == 0) = false ∧ loopsE p D = boundE p D 0) := by
  rcases hkl with hh | hh
  · exact .inl (by simpa using hh)
  · exact .inr ⟨by rw [hh]; simpa using hk0, hh⟩
 generalize hee : boundE p D 0 = E at *
 generalize hel : loopsE p D = EL at *
 have he0 : (E == 0) = false := by simpa using hk0
 have he2 : (E == 2) = false := by simpa using hk2
 have hen : (E != 0) = true := by simpa using hk0
 have HGR := Lib.hid hgr
 have HLO := Lib.hid hlo
 obtain ⟨lo, hlo2⟩ : ∃ lo, lo = min ka kb := ⟨_, rfl⟩
 obtain ⟨hi, hhi2⟩ : ∃ hi, hi = max ka kb := ⟨_, rfl⟩
 have hmn : min (ka : Int) (kb : Int) = (lo : Int) := by omega
 have hmx : max (ka : Int) (kb : Int) = (hi : Int) := by omega
 have hb1 := fun w (hb : Below W.heap.size W w) => hbo w hb (lo : Int) (by have := HKL.out; omega) (.inl (by omega))
 have hb2 := fun w (hb : Below W.heap.size W w) => hbo w hb (hi : Int) (by have := HKL.out; omega) (.inl (by omega))
 have hb3 := fun w (hb : Below W.heap.size W w) => hbo w hb (-1) (by decide) (.inr rfl)
 have HB1 := Lib.hid hb1
 have HB2 := Lib.hid hb2
 have HB3 := Lib.hid hb3
 have HPA := Lib.hid hpa
 have HPB := Lib.hid hpb
 have HA := Lib.hid hA
 clear hb1 hb2 hb3 hlo2 hhi2 hgr hlo hbo hpk hpa hpb hka hkb hkl hE hee hel h hA hk0 hk2
 obtain ⟨ver, regs, binds, names, cons, curs, sorts, tots, ⟨ca, cn, cc⟩⟩ := p
 have hbox : ∀ w, Below ((W.alloc (.cells (⟨ver, regs, binds, names, cons, curs, sorts, tots, ⟨ca, cn, cc⟩⟩ : Pg).cells 29)).alloc (.cells #[.int .i64 x0, .int .i64 x1] 30)).heap.size ((W.alloc (.cells (⟨ver, regs, binds, names, cons, curs, sorts, tots, ⟨ca, cn, cc⟩⟩ : Pg).cells 29)).alloc (.cells #[.int .i64 x0, .int .i64 x1] 30)) w → Below W.heap.size W w ∧ (∀ j, w.cell? ⟨W.heap.size, j, none⟩ = (⟨ver, regs, binds, names, cons, curs, sorts, tots, ⟨ca, cn, cc⟩⟩ : Pg).cells[j]?) ∧ (∀ j, w.cell? ⟨W.heap.size + 1, j, none⟩ = (#[.int .i64 x0, .int .i64 x1] : Array Value)[j]?) := fun w hb => by
  have t2 := two_blocks W (.cells (⟨ver, regs, binds, names, cons, curs, sorts, tots, ⟨ca, cn, cc⟩⟩ : Pg).cells 29) (.cells #[.int .i64 x0, .int .i64 x1] 30)
  exact ⟨t2.1.on hb, blk_cell ((hb.block _ (by rw [t2.2.1]; omega)).trans t2.2.2.1), blk_cell ((hb.block _ (by rw [t2.2.1]; omega)).trans t2.2.2.2)⟩
 have HO := Lib.hid hbox
 clear hbox
 go_enter Tryz.func3, Tryz.ntmps3
 go_upto_region 3 with (first
  | (go_at_call 6; with_reducible refine (HGR.out _ (by with_reducible repeat (first | exact Below.refl _ _ | exact Below.one _ _ | refine Below.drew ?_ | refine Below.drewN ?_ _ | refine Below.new ?_ _))).mono ?_; rintro e w2 ⟨⟨b, rfl⟩, hb2⟩; have hx2 := HO.out _ hb2; have kp2 := hx2.2.1; have kx2 := hx2.2.2)
  | (go_at_call 7; with_reducible refine (HA.out _ hx2.1).mono ?_; rintro e w9 ⟨rfl, h9⟩))
 · go_ret
   exact Fin.below hx2.1 h9
 · refine (fun (key : (?Tail : Prop)) => ?main) ?kp
   case main =>
    go_region_with (first
     | (go_at_call 8; first | (with_reducible refine (HPA.out _).mono ?_; rintro e w3 ⟨rfl, rfl⟩) | (with_reducible refine (HPB.out _).mono ?_; rintro e w3 ⟨rfl, rfl⟩)))
    all_goals exact key
   clear kx2
   go_wp2_with (first
    | (go_at_call 9; with_reducible refine (HLO.out _ (Below.drew hx2.1)).mono ?_; rintro e w4 ⟨⟨s, rfl⟩, hb4⟩; have hz4 := (Below.drew hb2).on hb4; have hx4 := HO.out _ hz4; have kp4 := hx4.2.1; clear hb4)
    | (go_at_call 10; with_reducible refine (HB1.out _ hx4.1).mono ?_; rintro e w5 ⟨rfl, hb5⟩; have hz5 := hz4.on hb5; have hx5 := HO.out _ hz5; have kp5 := hx5.2.1; clear hb5)
    | (go_at_call 10; with_reducible refine (HB2.out _ hx5.1).mono ?_; rintro e w6 ⟨rfl, hb6⟩; have hz6 := hz5.on hb6; have hx6 := HO.out _ hz6; have kp6 := hx6.2.1; clear hb6)
    | (go_at_call 10; with_reducible refine (HB3.out _ hx6.1).mono ?_; rintro e w7 ⟨rfl, hb7⟩; have hz7 := hz6.on hb7; have hx7 := HO.out _ hz7; clear hb7)
    | (go_at_call 7; with_reducible refine (HA.out _ hx7.1).mono ?_; rintro e w9 ⟨rfl, h9⟩))
   all_goals go_ret
   all_goals first
    | exact Fin.below hx7.1 h9
    | (exfalso; clear HB1 HB2 HB3 HLO HO HA HPA HPB HGR; rcases hl2 with h1 | ⟨h1, h2⟩ <;> simp_all; done)
theorem straight_append (l : List Lp) : ∀ (a b : List Ins) (k : Nat), straightFrom l k (a ++ b) = straightFrom l k a + straightFrom l (k + a.length) b
 | [], b, k => by simp [straightFrom]
 | i :: a, b, k => by
   simp only [List.cons_append, straightFrom, List.length_cons]
   rw [straight_append l a b (k + 1), show k + 1 + a.length = k + (a.length + 1) by omega, Nat.add_assoc]
theorem straight_take (l : List Lp) {code : List Ins} {k : Nat} (h : k < code.length) : straightFrom l 0 (code.take (k + 1)) = straightFrom l 0 (code.take k) + (if insF l k = [] then 1 else 0) := by
 rw [List.take_add_one, List.getElem?_eq_getElem h, Option.toList_some, straight_append, List.length_take, Nat.min_eq_left (by omega), Nat.zero_add]
 simp only [straightFrom, Nat.add_zero]
theorem straight_le (l : List Lp) : ∀ (c : List Ins) (k : Nat), straightFrom l k c ≤ c.length
 | [], _ => Nat.le_refl _
 | i :: c, k => by
   simp only [straightFrom, List.length_cons]
   have := straight_le l c (k + 1)
   split <;> omega
theorem grows_ok {W0 W : World} {p : Pg} {D : Dat} (h : Giv W0 W p D) (x0 x1 : Int) (hA : Wakes W) (hE : boundE p D 0 = 0) (hc : CheckP p D) (hB : loopsB D.code = true) (hL : loopsE p D = 0) :
 Calls Tryz.prog 3 #[p.v, .agg #[.int .i64 x0, .int .i64 x1]] W (Fin W) := by
 have A := h.ahead hc hB hL
 have hgr := fun w (hb : Below W.heap.size W w) => great_any p D w (h.has.on hb)
 have hlo := A.lp
 have hbo : ∀ w, Below W.heap.size W w → ∀ r : Nat, (r : Int) ≤ 9223372036854775807 → Calls Tryz.prog 10 #[p.v, .int .i64 r] w fun e w' => e = .returned (.tuple #[.int .i64 (boundF D.code (loopsL D.code) r : Nat), .int .i64 0]) ∧ Below w.heap.size w w' := fun w hb r hr => by
  have e1 : boundE p D r = 0 := (boundE_pos p D (by omega)).trans hE
  have := bound_any (h.on hb) r hr
  unfold boundN at this
  rw [if_pos e1, e1, Int.toNat_natCast] at this
  exact this
 have hbm : ∀ w, Below W.heap.size W w → Calls Tryz.prog 10 #[p.v, .int .i64 (-1)] w fun e w' => e = .returned (.tuple #[.int .i64 0, .int .i64 2]) ∧ Below w.heap.size w w' := fun w hb => by
  have e1 : boundE p D (-1) = 2 := by rw [boundE_neg, if_pos hE]
  have := bound_any (h.on hb) (-1) (by decide)
  rw [boundN_zero (by rw [e1]; decide), e1] at this
  exact this
 obtain ⟨ka, hka⟩ : ∃ k, k = pickN x0 1048576 := ⟨_, rfl⟩
 obtain ⟨kb, hkb⟩ : ∃ k, k = pickN x1 1048576 := ⟨_, rfl⟩
 have hpa := fun w => pick_any x0 1048576 (by decide) w
 have hpb := fun w => pick_any x1 1048576 (by decide) w
 rw [← hka] at hpa
 rw [← hkb] at hpb
 have HKL : Hid ((ka : Int) < 1048576 ∧ (kb : Int) < 1048576) := Lib.hid ⟨by rw [hka]; exact pickN_lt (by decide), by rw [hkb]; exact pickN_lt (by decide)⟩
 obtain ⟨lo, hlo2⟩ : ∃ lo, lo = min ka kb := ⟨_, rfl⟩
 obtain ⟨hi, hhi2⟩ : ∃ hi, hi = max ka kb := ⟨_, rfl⟩
 have hmn : min (ka : Int) (kb : Int) = (lo : Int) := by omega
 have hmx : max (ka : Int) (kb : Int) = (hi : Int) := by omega
 have hb1 := fun w (hb : Below W.heap.size W w) => hbo w hb lo (by have := HKL.out; omega)
 have hb2 := fun w (hb : Below W.heap.size W w) => hbo w hb hi (by have := HKL.out; omega)
 have hb4 : ∀ w, Below W.heap.size W w → Calls Tryz.prog 10 #[p.v, .int .i64 0] w fun e w' => e = .returned (.tuple #[.int .i64 (boundF D.code (loopsL D.code) 0 : Nat), .int .i64 0]) ∧ Below w.heap.size w w' := fun w hb => hbo w hb 0 (by decide)
 obtain ⟨n, hn⟩ : ∃ n, n = boundF D.code (loopsL D.code) lo := ⟨_, rfl⟩
 obtain ⟨m, hm⟩ : ∃ m, m = boundF D.code (loopsL D.code) hi := ⟨_, rfl⟩
 obtain ⟨z, hz⟩ : ∃ z, z = boundF D.code (loopsL D.code) 0 := ⟨_, rfl⟩
 rw [← hn] at hb1
 rw [← hm] at hb2
 rw [← hz] at hb4
 obtain ⟨S, hS⟩ : ∃ S, S = straightFrom (loopsL D.code) 0 D.code := ⟨_, rfl⟩
 have htop : D.code.length < top := by have := A.small; unfold top; omega
 have HCMP : Hid (n ≤ m ∧ S ≤ n ∧ z ≤ n ∧ S ≤ z ∧ S ≤ 4000) := Lib.hid ⟨by rw [hn, hm]; exact Vg.bound_mono (by omega), by rw [hn, hS]; exact Vg.bound_straight _ _ _ htop, by rw [hn, hz]; exact Vg.bound_mono (Nat.zero_le _),
  by rw [hz, hS]; exact Vg.bound_straight _ _ _ htop, by rw [hS]; exact Nat.le_trans (straight_le _ _ _) A.small⟩
 have HSS := Lib.hid hS
 have HSM : Hid (D.code.length ≤ 4000) := Lib.hid A.small
 have HCL : Hid (p.code.n = D.code.length) := Lib.hid h.has.code.len
 have HB1 := Lib.hid hb1
 have HB2 := Lib.hid hb2
 have HB3 := Lib.hid hbm
 have HB4 := Lib.hid hb4
 have HGR := Lib.hid hgr
 have HLO := Lib.hid hlo
 have HPA := Lib.hid hpa
 have HPB := Lib.hid hpb
 have HA := Lib.hid hA
 clear hb1 hb2 hb4 hbm hlo2 hhi2 hgr hlo hbo hpa hpb hka hkb hE h hA hn hm hz hS htop A hc hB hL
 generalize loopsL D.code = L at *
 obtain ⟨ver, regs, binds, names, cons, curs, sorts, tots, ⟨ca, cn, cc⟩⟩ := p
 have hbox : ∀ w, Below ((W.alloc (.cells (⟨ver, regs, binds, names, cons, curs, sorts, tots, ⟨ca, cn, cc⟩⟩ : Pg).cells 29)).alloc (.cells #[.int .i64 x0, .int .i64 x1] 30)).heap.size ((W.alloc (.cells (⟨ver, regs, binds, names, cons, curs, sorts, tots, ⟨ca, cn, cc⟩⟩ : Pg).cells 29)).alloc (.cells #[.int .i64 x0, .int .i64 x1] 30)) w → Below W.heap.size W w ∧ (∀ j, w.cell? ⟨W.heap.size, j, none⟩ = (⟨ver, regs, binds, names, cons, curs, sorts, tots, ⟨ca, cn, cc⟩⟩ : Pg).cells[j]?) ∧ (∀ j, w.cell? ⟨W.heap.size + 1, j, none⟩ = (#[.int .i64 x0, .int .i64 x1] : Array Value)[j]?) := fun w hb => by
  have t2 := two_blocks W (.cells (⟨ver, regs, binds, names, cons, curs, sorts, tots, ⟨ca, cn, cc⟩⟩ : Pg).cells 29) (.cells #[.int .i64 x0, .int .i64 x1] 30)
  exact ⟨t2.1.on hb, blk_cell ((hb.block _ (by rw [t2.2.1]; omega)).trans t2.2.2.1), blk_cell ((hb.block _ (by rw [t2.2.1]; omega)).trans t2.2.2.2)⟩
 have HO := Lib.hid hbox
 clear hbox
 go_enter Tryz.func3, Tryz.ntmps3
 go_upto_region 3 with (first
  | (go_at_call 6; with_reducible refine (HGR.out _ (by with_reducible repeat (first | exact Below.refl _ _ | exact Below.one _ _ | refine Below.drew ?_ | refine Below.drewN ?_ _ | refine Below.new ?_ _))).mono ?_; rintro e w2 ⟨⟨b, rfl⟩, hb2⟩; have hx2 := HO.out _ hb2; have kp2 := hx2.2.1; have kx2 := hx2.2.2)
  | (go_at_call 7; with_reducible refine (HA.out _ hx2.1).mono ?_; rintro e w9 ⟨rfl, h9⟩))
 · go_ret
   exact Fin.below hx2.1 h9
 · refine (fun (key : (?Tail : Prop)) => ?main) ?kp
   case main =>
    go_region_with (first
     | (go_at_call 8; first | (with_reducible refine (HPA.out _).mono ?_; rintro e w3 ⟨rfl, rfl⟩) | (with_reducible refine (HPB.out _).mono ?_; rintro e w3 ⟨rfl, rfl⟩)))
    all_goals exact key
   clear kx2
   go_wp2_with (first
    | (go_at_call 9; with_reducible refine (HLO.out _ (Below.drew hx2.1)).mono ?_; rintro e w4 ⟨⟨s, rfl, hl4⟩, hb4⟩; have hz4 := (Below.drew hb2).on hb4; have hx4 := HO.out _ hz4; have kp4 := hx4.2.1; clear hb4)
    | (go_at_call 10; with_reducible refine (HB1.out _ hx4.1).mono ?_; rintro e w5 ⟨rfl, hb5⟩; have hz5 := hz4.on hb5; have hx5 := HO.out _ hz5; have kp5 := hx5.2.1; have hl5 := hl4.on hb5; clear hb5)
    | (go_at_call 10; with_reducible refine (HB2.out _ hx5.1).mono ?_; rintro e w6 ⟨rfl, hb6⟩; have hz6 := hz5.on hb6; have hx6 := HO.out _ hz6; have kp6 := hx6.2.1; have hl6 := hl5.on hb6; clear hb6)
    | (go_at_call 10; with_reducible refine (HB3.out _ hx6.1).mono ?_; rintro e w7 ⟨rfl, hb7⟩; have hz7 := hz6.on hb7; have hx7 := HO.out _ hz7; have kp7 := hx7.2.1; have hl7 := hl6.on hb7; clear hb7))
   have HX7 := Lib.hid (And.intro hz7 (And.intro hx7.1 hl7))
   clear hb2 hx2 kp2 hz4 hx4 kp4 hz5 hx5 kp5 hz6 hx6 kp6 hz7 hx7 kp7 hl4 hl5 hl6 hl7
   have hcs : cn ≤ 9223372036854775807 := by have := HCL.out; have := HSM.out; have h3 : cn = D.code.length := HCL.out; omega
   have HCN : Hid (cn = D.code.length) := Lib.hid HCL.out
   go_loopg [15, 91] cn (fun lft sv i wr => ∃ kk : Nat, kk + lft = cn ∧ i = .int .i64 kk ∧ sv = .int .i64 (straightFrom L 0 (D.code.take kk) : Nat) ∧ Hid (Below w7.heap.size w7 wr))
   case atStart => exact ⟨0, by omega, rfl, rfl, Lib.hid (Below.refl _ _)⟩
   case round =>
    obtain ⟨kk, hl, rfl, rfl, hst⟩ := hrel
    by_cases hlk : kk < cn
    · have hlt' : ((kk : Int) < (cn : Int)) = True := by simp; omega
      have hkd : kk < D.code.length := by have := HCN.out; omega
      have hstr := straight_take L hkd
      have hkk4 : kk < 4000 := by have := HSM.out; omega
      have hins : ∀ w, Below wr.heap.size wr w → Calls Tryz.prog 11 #[.slice s.a s.n s.c, .int .i64 kk] w fun e w' => (∃ va vn vc, e = .returned (.slice va vn vc) ∧ vn = (insF L kk).length) ∧ Below w.heap.size w w' := fun w hb =>
       (inside_any w s L (HX7.out.2.2.on (hst.out.on hb)) kk (by omega)).mono fun e w' ⟨⟨v, he, hv⟩, hb'⟩ => ⟨⟨v.a, v.n, v.c, he, hv.len⟩, hb'⟩
      have hsl := straight_le L (D.code.take kk) 0
      rw [List.length_take] at hsl
      have HIN := Lib.hid hins
      have HST := Lib.hid hstr
      clear hins hstr
      generalize straightFrom L 0 (D.code.take kk) = s0 at *
      obtain ⟨s1, hs1⟩ : ∃ s1, s1 = straightFrom L 0 (D.code.take (kk + 1)) := ⟨_, rfl⟩
      have HS1 := Lib.hid hs1
      rw [← hs1] at HST
      clear hs1
      cases hik : insF L kk with
      | nil =>
        simp only [hik] at HIN HST
        go_wp2_with (first
         | (go_at_call 11; with_reducible refine (HIN.out _ (by with_reducible repeat (first | exact Below.refl _ _ | exact Below.one _ _ | refine Below.drew ?_ | refine Below.drewN ?_ _ | refine Below.new ?_ _))).mono ?_; rintro e w8 ⟨⟨va, vn, vc, rfl, rfl⟩, hb8⟩))
        go_roundg (cn - kk - 1)
        case measure => omega
        case rel =>
         refine ⟨kk + 1, by omega, by first | rfl | go_num, ?_, Lib.hid (hst.out.on hb8)⟩
         rw [show straightFrom L 0 (D.code.take (kk + 1)) = s0 + 1 from HS1.out.symm.trans HST.out]
         first | rfl | go_num
      | cons j js =>
        simp only [hik] at HIN HST
        go_wp2_with (first
         | (go_at_call 11; with_reducible refine (HIN.out _ (by with_reducible repeat (first | exact Below.refl _ _ | exact Below.one _ _ | refine Below.drew ?_ | refine Below.drewN ?_ _ | refine Below.new ?_ _))).mono ?_; rintro e w8 ⟨⟨va, vn, vc, rfl, rfl⟩, hb8⟩))
        go_roundg (cn - kk - 1)
        case measure => omega
        case rel => exact ⟨kk + 1, by omega, by first | rfl | go_num, by rw [show straightFrom L 0 (D.code.take (kk + 1)) = s0 from HS1.out.symm.trans HST.out], Lib.hid (hst.out.on hb8)⟩
    · have hlt' : ((kk : Int) < (cn : Int)) = False := by simp; omega
      have htk : D.code.take kk = D.code := List.take_of_length_le (by have := HCN.out; omega)
      rw [htk, ← HSS.out]
      have hxr := HO.out _ (HX7.out.1.on hst.out)
      have kpr := hxr.2.1
      obtain ⟨c1, c2, c3, c4, c5⟩ := HCMP.out
      have i1 : ((n : Int) ≤ (m : Int)) = True := by simp; omega
      have i2 : ((S : Int) ≤ (n : Int)) = True := by simp; omega
      have i3 : ((z : Int) ≤ (n : Int)) = True := by simp; omega
      have i4 : ((S : Int) ≤ (z : Int)) = True := by simp; omega
      go_wp2_with (first
       | (go_at_call 10; with_reducible refine (HB4.out _ hxr.1).mono ?_; rintro e w8 ⟨rfl, hb8⟩)
       | (go_at_call 7; with_reducible refine (HA.out _ (hxr.1.on hb8)).mono ?_; rintro e w9 ⟨rfl, h9⟩))
      go_ret
      exact Fin.below (hxr.1.on hb8) h9
theorem grows_any {W0 W : World} {p : Pg} {D : Dat} (h : Giv W0 W p D) (x0 x1 : Int) (hA : Wakes W) : Calls Tryz.prog 3 #[p.v, .agg #[.int .i64 x0, .int .i64 x1]] W (Fin W) := by
 by_cases hE : boundE p D 0 = 0
 · rcases loopsE_cases p D with ⟨h0, hc, hb⟩ | h1
   · exact grows_ok h x0 x1 hA hE hc hb h0
   · rcases boundE_kinds p D with ⟨_, h2⟩ | h2
     · rw [h2] at h1; rcases h1 with h1 | h1 <;> cases h1
     · exact absurd hE h2.1
 · exact grows_bad h x0 x1 hA hE
theorem more_any {W0 W : World} {p : Pg} {D : Dat} (h : Giv W0 W p D) (r : Int) (hA : Wakes W) : Calls Tryz.prog 4 #[p.v, .int .i64 r] W (Fin W) := by
 have hgr := fun w (hb : Below W.heap.size W w) => great_any p D w (h.has.on hb)
 have hbo : ∀ w, Below W.heap.size W w → ∀ r : Nat, (r : Int) ≤ 9223372036854775807 → Calls Tryz.prog 10 #[p.v, .int .i64 r] w fun e w' => e = .returned (.tuple #[.int .i64 (boundN p D r : Nat), .int .i64 (boundE p D 0)]) ∧ Below w.heap.size w w' := fun w hb r hr => by
  have e1 : boundE p D r = boundE p D 0 := boundE_pos p D (by omega)
  have := bound_any (h.on hb) r hr
  rw [e1] at this
  exact this
 obtain ⟨ka, hka⟩ : ∃ k, k = pickN r 1000 := ⟨_, rfl⟩
 have hpa := fun w => pick_any r 1000 (by decide) w
 rw [← hka] at hpa
 have HKL : Hid ((ka : Int) < 1000) := Lib.hid (by rw [hka]; exact pickN_lt (by decide))
 obtain ⟨k1, hk1⟩ : ∃ k1, k1 = ka + 1 := ⟨_, rfl⟩
 obtain ⟨k2, hk2⟩ : ∃ k2, k2 = 2 * k1 := ⟨_, rfl⟩
 obtain ⟨k3, hk3⟩ : ∃ k3, k3 = k1 + 1 := ⟨_, rfl⟩
 have hw1 : wrap64 (1 + (ka : Int)) = (k1 : Int) := by have := HKL.out; unfold wrap64; omega
 have hw2 : wrap64 (2 * (k1 : Int)) = (k2 : Int) := by have := HKL.out; unfold wrap64; omega
 have hw3 : wrap64 ((k1 : Int) + 1) = (k3 : Int) := by have := HKL.out; unfold wrap64; omega
 have hb1 := fun w (hb : Below W.heap.size W w) => hbo w hb k1 (by have := HKL.out; omega)
 have hb2 := fun w (hb : Below W.heap.size W w) => hbo w hb k2 (by have := HKL.out; omega)
 have hb3 := fun w (hb : Below W.heap.size W w) => hbo w hb k3 (by have := HKL.out; omega)
 have HK := Lib.hid (And.intro hk1 (And.intro hk2 hk3))
 have HH := Lib.hid h
 have HINS := Lib.hid (fun j i (hj : D.code[j]? = some i) => h.has.ins hj)
 have HCN0 : Hid (p.code.n = D.code.length) := Lib.hid h.has.code.len
 have hsm : p.code.n ≤ 9223372036854775807 := h.has.code.small
 have HB1 := Lib.hid hb1
 have HB2 := Lib.hid hb2
 have HB3 := Lib.hid hb3
 have HGR := Lib.hid hgr
 have HPA := Lib.hid hpa
 have HA := Lib.hid hA
 clear hb1 hb2 hb3 hgr hbo hpa hka h hA hk1 hk2 hk3
 obtain ⟨ver, regs, binds, names, cons, curs, sorts, tots, ⟨ca, cn, cc⟩⟩ := p
 have HCN : Hid (cn = D.code.length) := Lib.hid HCN0.out
 clear HCN0
 have hbox : ∀ w, Below (W.alloc (.cells (⟨ver, regs, binds, names, cons, curs, sorts, tots, ⟨ca, cn, cc⟩⟩ : Pg).cells 29)).heap.size (W.alloc (.cells (⟨ver, regs, binds, names, cons, curs, sorts, tots, ⟨ca, cn, cc⟩⟩ : Pg).cells 29)) w → Below W.heap.size W w ∧ (∀ j, w.cell? ⟨W.heap.size, j, none⟩ = (⟨ver, regs, binds, names, cons, curs, sorts, tots, ⟨ca, cn, cc⟩⟩ : Pg).cells[j]?) := fun w hb =>
  ⟨(Below.one W _).on hb, blk_cell ((hb.block _ (by rw [heap_size_alloc]; omega)).trans (heap_alloc_new _ _))⟩
 have HO := Lib.hid hbox
 clear hbox
 go_enter Tryz.func4, Tryz.ntmps4
 go_wp2_with (first
  | (go_at_call 6; with_reducible refine (HGR.out _ (by with_reducible repeat (first | exact Below.refl _ _ | exact Below.one _ _ | refine Below.drew ?_ | refine Below.drewN ?_ _ | refine Below.new ?_ _))).mono ?_; rintro e w2 ⟨⟨b, rfl⟩, hb2⟩; have hx2 := HO.out _ hb2; have kp2 := hx2.2)
  | (go_at_call 7; with_reducible refine (HA.out _ hx2.1).mono ?_; rintro e w9 ⟨rfl, h9⟩))
 · go_ret
   exact Fin.below hx2.1 h9
 · have hbf : b = false := by first | assumption | simpa using ‹¬ b = true› | (cases b <;> simp_all)
   subst hbf
   have HX2 := Lib.hid (And.intro hb2 hx2.1)
   clear hb2 hx2 kp2
   go_loopg [20] cn (fun lft i wr => ∃ kk : Nat, kk + lft = cn ∧ i = .int .i64 kk ∧ Hid (Below w2.heap.size w2 wr ∧ ∀ j i, j < kk → D.code[j]? = some i → i.o ≠ 20 ∧ i.o ≠ 29))
   case atStart => exact ⟨0, by omega, rfl, Lib.hid ⟨Below.refl _ _, fun j i hj => by omega⟩⟩
   case round =>
    obtain ⟨kk, hl, rfl, hst⟩ := hrel
    by_cases hlk : kk < cn
    · have hlt' : ((kk : Int) < (cn : Int)) = True := by simp; omega
      obtain ⟨i, hi2⟩ : ∃ i, D.code[kk]? = some i := ⟨_, List.getElem?_eq_getElem (by have := HCN.out; omega)⟩
      obtain ⟨g, o, e1, hg, _, hd⟩ := HINS.out kk i hi2
      have e1 : ca = some ⟨g, o, none⟩ := e1
      subst e1
      have hbW := HX2.out.2.on hst.out.1
      obtain ⟨d0, d1, d2, d3, d4⟩ := hd wr hbW
      have hnew : i.o ≠ 20 ∧ i.o ≠ 29 → ∀ j i, j < kk + 1 → D.code[j]? = some i → i.o ≠ 20 ∧ i.o ≠ 29 := fun hn j i' hj hi' => by
       by_cases hjk : j = kk
       · subst hjk; rw [hi2] at hi'; injection hi' with hi'; subst hi'; exact hn
       · exact hst.out.2 j i' (by omega) hi'
      have HNW := Lib.hid hnew
      have hba := hbW.on (Below.one wr (.cells #[.int .u8 i.o, .int .i64 i.a, .int .i64 i.b, .int .i64 i.c, .int .i64 i.d] 45))
      have HBA := Lib.hid hba
      obtain ⟨io, ia, ib, ic, id⟩ := i
      clear hd hi2 hnew hba
      by_cases h29 : io = 29
      · subst h29
        go_wp2_with (first
         | (go_at_call 7; with_reducible refine (HA.out _ HBA.out).mono ?_; rintro e w9 ⟨rfl, h9⟩))
        go_ret
        exact Fin.below HBA.out h9
      by_cases h20 : io = 20
      · subst h20
        go_wp2_with (first
         | (go_at_call 7; with_reducible refine (HA.out _ HBA.out).mono ?_; rintro e w9 ⟨rfl, h9⟩))
        go_ret
        exact Fin.below HBA.out h9
      · have x20 : (io == 20) = false := by simpa using h20
        have x29 : (io == 29) = false := by simpa using h29
        have HNN := Lib.hid (HNW.out ⟨h20, h29⟩)
        go_wp2
        go_roundg (cn - kk - 1)
        case measure => omega
        case rel => exact ⟨kk + 1, by omega, by first | rfl | go_num, Lib.hid ⟨hst.out.1.on (Below.one wr _), HNN.out⟩⟩
    · have hlt' : ((kk : Int) < (cn : Int)) = False := by simp; omega
      have hno : ∀ i ∈ D.code, i.o ≠ 20 ∧ i.o ≠ 29 := fun i hi => by
       obtain ⟨j, hj⟩ := List.getElem?_of_mem hi
       have := (List.getElem?_eq_some_iff.1 hj).1
       exact hst.out.2 j i (by have := HCN.out; omega) hj
      have hzr := HX2.out.1.on hst.out.1
      have hxr := HO.out _ hzr
      have kpr := hxr.2
      by_cases hE : boundE (⟨ver, regs, binds, names, cons, curs, sorts, tots, ⟨ca, cn, cc⟩⟩ : Pg) D 0 = 0
      · rcases loopsE_cases (⟨ver, regs, binds, names, cons, curs, sorts, tots, ⟨ca, cn, cc⟩⟩ : Pg) D with ⟨h0, hc, hb⟩ | h1
        · have A := HH.out.ahead hc hb h0
          have hN : ∀ r : Nat, boundN (⟨ver, regs, binds, names, cons, curs, sorts, tots, ⟨ca, cn, cc⟩⟩ : Pg) D r = boundF D.code (loopsL D.code) r := fun r => by
           unfold boundN
           rw [if_pos ((boundE_pos (⟨ver, regs, binds, names, cons, curs, sorts, tots, ⟨ca, cn, cc⟩⟩ : Pg) D (by omega)).trans hE), Int.toNat_natCast]
          have HCMP : Hid (boundF D.code (loopsL D.code) k1 ≤ boundF D.code (loopsL D.code) k3 ∧ boundF D.code (loopsL D.code) k3 ≤ boundF D.code (loopsL D.code) k2 ∧ boundF D.code (loopsL D.code) k2 ≤ 4096 * boundF D.code (loopsL D.code) k1 ∧ boundF D.code (loopsL D.code) k1 ≤ top) :=
           Lib.hid ⟨Vg.bound_mono (by have := HK.out; omega), Vg.bound_mono (by have := HK.out; omega), by rw [HK.out.2.1]; exact Vg.bound_twice (fun k => loops_deep A.nest k) hno k1, Vg.bound_le _ _ _⟩
          simp only [hN, hE] at HB1 HB2 HB3
          generalize boundF D.code (loopsL D.code) k1 = n at *
          generalize boundF D.code (loopsL D.code) k3 = q at *
          generalize boundF D.code (loopsL D.code) k2 = m at *
          have i1 : ((n : Int) ≤ (q : Int)) = True := by have := HCMP.out; simp; omega
          have i2 : ((q : Int) ≤ (m : Int)) = True := by have := HCMP.out; simp; omega
          clear hN A h0 hc hb hE hno hst
          by_cases hbig : 70368744177664 ≤ n
          · have i3 : ((70368744177664 : Int) ≤ (n : Int)) = True := by simp; omega
            go_wp2_with (first
             | (go_at_call 8; with_reducible refine (HPA.out _).mono ?_; rintro e w3 ⟨rfl, rfl⟩)
             | (go_at_call 10; with_reducible refine (HB1.out _ hxr.1).mono ?_; rintro e w5 ⟨rfl, hb5⟩; have hz5 := hzr.on hb5; have hx5 := HO.out _ hz5; have kp5 := hx5.2; clear hb5)
             | (go_at_call 10; with_reducible refine (HB2.out _ hx5.1).mono ?_; rintro e w6 ⟨rfl, hb6⟩; have hz6 := hz5.on hb6; have hx6 := HO.out _ hz6; have kp6 := hx6.2; clear hb6)
             | (go_at_call 10; with_reducible refine (HB3.out _ hx6.1).mono ?_; rintro e w7 ⟨rfl, hb7⟩; have hz7 := hz6.on hb7; have hx7 := HO.out _ hz7; clear hb7)
             | (go_at_call 7; with_reducible refine (HA.out _ hx7.1).mono ?_; rintro e w9 ⟨rfl, h9⟩))
            go_ret
            exact Fin.below hx7.1 h9
          · have i3 : ((70368744177664 : Int) ≤ (n : Int)) = False := by simp; omega
            have hw4 : wrap64 ((n : Int) * 4096) = (n : Int) * 4096 := by unfold wrap64; omega
            have i4 : ((m : Int) ≤ (n : Int) * 4096) = True := by have := HCMP.out; simp; omega
            go_wp2_with (first
             | (go_at_call 8; with_reducible refine (HPA.out _).mono ?_; rintro e w3 ⟨rfl, rfl⟩)
             | (go_at_call 10; with_reducible refine (HB1.out _ hxr.1).mono ?_; rintro e w5 ⟨rfl, hb5⟩; have hz5 := hzr.on hb5; have hx5 := HO.out _ hz5; have kp5 := hx5.2; clear hb5)
             | (go_at_call 10; with_reducible refine (HB2.out _ hx5.1).mono ?_; rintro e w6 ⟨rfl, hb6⟩; have hz6 := hz5.on hb6; have hx6 := HO.out _ hz6; have kp6 := hx6.2; clear hb6)
             | (go_at_call 10; with_reducible refine (HB3.out _ hx6.1).mono ?_; rintro e w7 ⟨rfl, hb7⟩; have hz7 := hz6.on hb7; have hx7 := HO.out _ hz7; clear hb7)
             | (go_at_call 7; with_reducible refine (HA.out _ hx7.1).mono ?_; rintro e w9 ⟨rfl, h9⟩))
            go_ret
            exact Fin.below hx7.1 h9
        · rcases boundE_kinds (⟨ver, regs, binds, names, cons, curs, sorts, tots, ⟨ca, cn, cc⟩⟩ : Pg) D with ⟨_, h2⟩ | h2
          · rw [h2] at h1; rcases h1 with h1 | h1 <;> cases h1
          · exact absurd hE h2.1
      · have hN : ∀ r : Nat, boundN (⟨ver, regs, binds, names, cons, curs, sorts, tots, ⟨ca, cn, cc⟩⟩ : Pg) D r = 0 := fun r => boundN_zero (by rw [boundE_pos (⟨ver, regs, binds, names, cons, curs, sorts, tots, ⟨ca, cn, cc⟩⟩ : Pg) D (by omega)]; exact hE)
        simp only [hN] at HB1 HB2 HB3
        generalize boundE (⟨ver, regs, binds, names, cons, curs, sorts, tots, ⟨ca, cn, cc⟩⟩ : Pg) D 0 = E at *
        have he0 : (E == 0) = false := by simpa using hE
        have hen : (E != 0) = true := by simpa using hE
        clear hN hE hno hst
        go_wp2_with (first
         | (go_at_call 8; with_reducible refine (HPA.out _).mono ?_; rintro e w3 ⟨rfl, rfl⟩)
         | (go_at_call 10; with_reducible refine (HB1.out _ hxr.1).mono ?_; rintro e w5 ⟨rfl, hb5⟩; have hz5 := hzr.on hb5; have hx5 := HO.out _ hz5; have kp5 := hx5.2; clear hb5)
         | (go_at_call 10; with_reducible refine (HB2.out _ hx5.1).mono ?_; rintro e w6 ⟨rfl, hb6⟩; have hz6 := hz5.on hb6; have hx6 := HO.out _ hz6; have kp6 := hx6.2; clear hb6)
         | (go_at_call 10; with_reducible refine (HB3.out _ hx6.1).mono ?_; rintro e w7 ⟨rfl, hb7⟩; have hz7 := hz6.on hb7; have hx7 := HO.out _ hz7; clear hb7)
         | (go_at_call 7; with_reducible refine (HA.out _ hx7.1).mono ?_; rintro e w9 ⟨rfl, h9⟩))
        go_ret
        exact Fin.below hx7.1 h9
end Go.Proofs.Vf
