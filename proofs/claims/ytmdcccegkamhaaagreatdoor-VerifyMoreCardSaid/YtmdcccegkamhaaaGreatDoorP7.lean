/- The program's verify, flow and code, followed by hand: part 7. -/
import Derived.Test.YtmdcccegkamhaaaGreatDoorP6
set_option maxHeartbeats 4000000
set_option maxRecDepth 100000
set_option linter.unusedSectionVars false
set_option linter.unusedVariables false
set_option linter.unusedSimpArgs false
namespace Go.Proofs.Vf
open Go Go.Proofs Go.RowKit Go.Lib
open Go.Proofs.Vg (Lp inside insF insFrom)
attribute [local go_sem ↓] Go.wp_at_zero Go.wp_at_succ
theorem info78 : (Tryz.prog.info? 78).map (fun i => (i.zero, i.size, i.bytes)) = some (some (.agg #[.int .i64 0, .int .i64 0, .int .i64 0, .int .i64 0, .int .i64 0, .int .i64 0]), 6, 48) := by kernel_rfl
def Jumps (D : Dat) : Prop := ∀ k i, D.code[k]? = some i → isB i.o = true → ∃ m : Nat, i.b = (m : Int) + 1 ∧ k ≤ m ∧ m + 1 < D.code.length
theorem beq_nat (a b : Nat) : ((a : Int) == (b : Int)) = decide (a = b) := by rw [Bool.eq_iff_iff]; simp; omega
def Found (D : Dat) (B : Nat) (e : Ending) (w' : World) : Prop :=
 (allOK D.code 0 D.code = false ∧ e = .returned (.tuple #[.slice none 0 0, .bool false])) ∨
 (allOK D.code 0 D.code = true ∧ ∃ a c, e = .returned (.tuple #[.slice a (begs 0 D.code).length c, .bool (decide (ends D.code = (begs 0 D.code).length))]) ∧ w'.ownsRow B 78 6 (.slice a (begs 0 D.code).length c) (begs 0 D.code).length (lps (begs 0 D.code)))
theorem found_any (p : Pg) (D : Dat) (W : World) (hp : Has W p D) (hj : Jumps D) (hc4 : D.code.length ≤ 4000) : Calls Tryz.prog 21 #[p.v] W fun e w' => Found D (W.heap.size + 1) e w' ∧ Below W.heap.size W w' := by
 obtain ⟨i0, hi, hz0, hz1, hz2⟩ := info_parts info78
 have HL0 := Lib.hid hp.code.len
 have HP := Lib.hid hp
 have HJ := Lib.hid hj
 have H4 := Lib.hid hc4
 have hins := fun j i (hj : D.code[j]? = some i) => hp.ins hj
 have HINS := Lib.hid hins
 clear hp hj hc4 hins
 obtain ⟨ver, regs, binds, names, cons, curs, sorts, tots, ⟨ca, cn, cc⟩⟩ := p
 have hcs : cn ≤ 9223372036854775807 := HP.out.code.small
 have HL : Hid (cn = D.code.length) := Lib.hid HL0.out
 have hbox : ∀ w, Below (W.heap.size + 1) (W.alloc (.cells (⟨ver, regs, binds, names, cons, curs, sorts, tots, ⟨ca, cn, cc⟩⟩ : Pg).cells 29)) w → Below W.heap.size W w ∧ (∀ j, w.cell? ⟨W.heap.size, j, none⟩ = (⟨ver, regs, binds, names, cons, curs, sorts, tots, ⟨ca, cn, cc⟩⟩ : Pg).cells[j]?) := fun w hb =>
  ⟨(Below.one W _).trans (hb.mono (by omega)), blk_cell ((hb.block _ (by omega)).trans (heap_alloc_new _ _))⟩
 have HO := Lib.hid hbox
 clear hbox HL0
 go_enter Tryz.func21, Tryz.ntmps21
 go_wp2
 go_loopg [13, 4, 5] cn (fun lft i v c wr => ∃ kk : Nat, kk + lft = cn ∧ i = .int .i64 kk ∧ c = .int .i64 (ends (D.code.take kk)) ∧ Hid (Below (W.heap.size + 1) (W.alloc (.cells (⟨ver, regs, binds, names, cons, curs, sorts, tots, ⟨ca, cn, cc⟩⟩ : Pg).cells 29)) wr ∧
  wr.ownsRow (W.heap.size + 1) 78 6 v (begs 0 (D.code.take kk)).length (lps (begs 0 (D.code.take kk))) ∧ allOK D.code 0 (D.code.take kk) = true ∧ ends (D.code.take kk) ≤ kk))
 case atStart => exact ⟨0, by omega, rfl, rfl, Lib.hid ⟨by rw [← heap_size_alloc W (.cells (⟨ver, regs, binds, names, cons, curs, sorts, tots, ⟨ca, cn, cc⟩⟩ : Pg).cells 29)]; exact Below.refl _ _, World.ownsRow_nil _ _ _ _, rfl, Nat.le_refl _⟩⟩
 case round =>
  obtain ⟨kk, hl, rfl, rfl, hst⟩ := hrel
  obtain ⟨va, vc, rfl⟩ := owns_val hst.out.2.1
  have hx := HO.out _ hst.out.1
  have kb := hx.2
  have hek := hst.out.2.2.2
  have hck := H4.out
  by_cases hlk : kk < cn
  · have hlt' : ((kk : Int) < (cn : Int)) = True := by simp; omega
    obtain ⟨i, hi2⟩ : ∃ i, D.code[kk]? = some i := ⟨_, List.getElem?_eq_getElem (by have := HL.out; omega)⟩
    obtain ⟨g, o, e1, hg, _, hd⟩ := HINS.out kk i hi2
    have e1 : ca = some ⟨g, o, none⟩ := e1
    subst e1
    obtain ⟨d0, d1, d2, d3, d4⟩ := hd wr hx.1
    obtain ⟨io, ia, ib, ic, id⟩ := i
    have hE1 := ends_take hi2
    have hB1 := begs_take hi2
    have hA1 := allOK_take hi2
    have HX := Lib.hid hx
    have HI := Lib.hid hi2
    have HE1 := Lib.hid hE1
    have HB1 := Lib.hid hB1
    have HA1 := Lib.hid hA1
    have hkk4 : kk < 4000 := by have := HL.out; omega
    clear hd hx hi2 hE1 hB1 hA1 hck
    by_cases hE : isE io = true
    · have hnB : isB io = false := by
       unfold isE at hE; unfold isB
       simp only [Bool.or_eq_true, beq_iff_eq] at hE
       rcases hE with rfl | rfl <;> rfl
      have HE := Lib.hid hE
      have HNB := Lib.hid hnB
      unfold isE at hE
      simp only [Bool.or_eq_true, beq_iff_eq] at hE
      clear hnB
      have rel : ∀ w, Below wr.heap.size wr w → Hid (Below (W.heap.size + 1) (W.alloc (.cells (⟨ver, regs, binds, names, cons, curs, sorts, tots, ⟨some ⟨g, o, none⟩, cn, cc⟩⟩ : Pg).cells 29)) w ∧ w.ownsRow (W.heap.size + 1) 78 6 (.slice va (begs 0 (D.code.take kk)).length vc) (begs 0 (D.code.take (kk + 1))).length (lps (begs 0 (D.code.take (kk + 1)))) ∧ allOK D.code 0 (D.code.take (kk + 1)) = true ∧ ends (D.code.take (kk + 1)) ≤ kk + 1) := fun w hb => by
       refine Lib.hid ⟨hst.out.1.trans (hb.mono (by have := hst.out.1.size; rw [heap_size_alloc] at this; omega)), ?_, ?_, ?_⟩
       · rw [HB1.out, HNB.out]; simpa using owns_below hst.out.2.1 hb
       · rw [HA1.out, hst.out.2.2.1, HNB.out]; rfl
       · rw [HE1.out, HE.out, if_pos rfl]; have := hst.out.2.2.2; omega
      have REL := Lib.hid rel
      have hE2 : ends (D.code.take (kk + 1)) = ends (D.code.take kk) + 1 := by rw [HE1.out, HE.out, if_pos rfl]
      have HE2 := Lib.hid hE2
      clear rel hE2
      rcases hE with rfl | rfl <;>
      · go_wp2
        go_roundg (cn - kk - 1)
        case measure => omega
        case rel => exact ⟨kk + 1, by omega, by first | rfl | go_num, by rw [HE2.out]; first | rfl | go_num, REL.out _ (Below.one wr _)⟩
    by_cases hB : isB io = true
    · have hnE : isE io = false := by simpa using hE
      obtain ⟨m, hm, hkm, hm2⟩ := HJ.out kk _ HI.out hB
      have hm : ib = (m : Int) + 1 := hm
      subst hm
      obtain ⟨e, he⟩ : ∃ e, D.code[m]? = some e := ⟨_, List.getElem?_eq_getElem (by omega)⟩
      obtain ⟨eo, ea, eb, ec, ed⟩ := e
      have hmn : (((m : Int) + 1) - 1).toNat = m := by omega
      have hok1 : okAt D.code kk ⟨io, ia, (m : Int) + 1, ic, id⟩ = loopOK kk io ia ⟨eo, ea, eb, ec, ed⟩ := by unfold okAt; simp only [hmn, he]
      have hbx : begs 0 (D.code.take (kk + 1)) = begs 0 (D.code.take kk) ++ [loopX kk m io ia] := by
       have := HB1.out
       simp only [hB, if_true, hmn] at this
       exact this
      have hE2 : ends (D.code.take (kk + 1)) = ends (D.code.take kk) := by have := HE1.out; simp only [hnE] at this; simpa using this
      have hax : allOK D.code 0 (D.code.take (kk + 1)) = loopOK kk io ia ⟨eo, ea, eb, ec, ed⟩ := by
       have := HA1.out
       rw [hst.out.2.2.1, hok1] at this
       simp only [hB] at this
       simpa using this
      have hcall : ∀ w, Below wr.heap.size wr w → Gives 48 #[(⟨ver, regs, binds, names, cons, curs, sorts, tots, ⟨some ⟨g, o, none⟩, cn, cc⟩⟩ : Pg).v, .int .i64 kk] w (.tuple #[lpV (loopX kk m io ia), .bool (loopOK kk io ia ⟨eo, ea, eb, ec, ed⟩)]) := fun w hb =>
       loop_any (⟨ver, regs, binds, names, cons, curs, sorts, tots, ⟨some ⟨g, o, none⟩, cn, cc⟩⟩ : Pg) D w (HP.out.on (HX.out.1.on hb)) kk m (by omega) (by have := H4.out; omega) io ia ic id HI.out eo ea eb ec ed he
      have hov : (begs 0 (D.code.take kk)).length ≤ 4000 := by have := begs_len (D.code.take kk) 0; rw [List.length_take] at this; omega
      have HCL := Lib.hid hcall
      have HBX := Lib.hid hbx
      have HE2 := Lib.hid hE2
      have HAX := Lib.hid hax
      have HOV := Lib.hid hov
      have hx20 : (io == 15) = false ∧ (io == 22) = false := by unfold isE at hnE; simp only [Bool.or_eq_false_iff] at hnE; exact hnE
      have x15 := hx20.1
      have x22 := hx20.2
      unfold isB at hB
      simp only [Bool.or_eq_true, beq_iff_eq] at hB
      have hsz : W.heap.size < wr.heap.size := by have := hst.out.1.size; rw [heap_size_alloc] at this; omega
      have kb1 : ∀ o2 (j : Nat), (wr.alloc o2).cell? ⟨W.heap.size, j, none⟩ = (⟨ver, regs, binds, names, cons, curs, sorts, tots, ⟨some ⟨g, o, none⟩, cn, cc⟩⟩ : Pg).cells[j]? := fun o2 j => ((Below.one wr o2).cell (p := ⟨W.heap.size, j, none⟩) hsz).trans (kb j)
      have HSZ := Lib.hid hsz
      clear hsz
      clear hcall hbx hE2 hax hE hnE hok1 he hm2 hmn hkm hx20 hov
      generalize loopOK kk io ia ⟨eo, ea, eb, ec, ed⟩ = ok at *
      generalize loopX kk m io ia = x at *
      cases ok
      · have hbad : allOK D.code 0 D.code = false := allOK_mono HAX.out
        have HBAD := Lib.hid hbad
        clear hbad
        rcases hB with (rfl | rfl) | rfl <;>
        · go_wp2_with (first | (go_at_call 48; refine (HCL.out _ (Below.one wr _)).mono ?_; rintro e w3 ⟨rfl, hb3⟩))
          refine bodyPost_ret (v := .tuple #[.slice none 0 0, .bool false]) (by simp [results, Tryz.results21, go_sem]) rfl ⟨.inl ⟨HBAD.out, rfl⟩, ?_⟩
          exact ((HX.out.1.new _).on hb3).new _
      · obtain ⟨x1, x2, x3, x4, x5, x6⟩ := x
        have hcall : ∀ w, Below wr.heap.size wr w → Gives 48 #[(⟨ver, regs, binds, names, cons, curs, sorts, tots, ⟨some ⟨g, o, none⟩, cn, cc⟩⟩ : Pg).v, .int .i64 kk] w (.tuple #[.agg #[.int .i64 x1, .int .i64 x2, .int .i64 x3, .int .i64 x4, .int .i64 x5, .int .i64 x6], .bool true]) := HCL.out
        have HCL := Lib.hid hcall
        clear hcall
        rcases hB with (rfl | rfl) | rfl <;>
        · go_wp2_with (first
           | (go_at_call 48; refine (HCL.out _ (Below.one wr _)).mono ?_; rintro e w3 ⟨rfl, hb3⟩
              have hown3 := owns_below (owns_below hst.out.2.1 (Below.one wr _)) hb3)
           | (at_builtin; refine wpList_append_own _ rfl _ _ 34 rfl (W.heap.size + 1) 78 i0 (.agg #[.int .i64 0, .int .i64 0, .int .i64 0, .int .i64 0, .int .i64 0, .int .i64 0]) 6 48 Tryz.underlying34 hi hz0 hz1 hz2 rfl (by decide) _ _ _ rfl ((hown3.alloc _).alloc _) ⟨w3.heap.size + 1, 0, none⟩ 1 1 [.int .i64 x1, .int .i64 x2, .int .i64 x3, .int .i64 x4, .int .i64 x5, .int .i64 x6] rfl rfl ?c1 ?c2 ?c3 ?c4 ?c5 ?_))
          case c1 =>
           have hq : ∀ (j : Nat), ((w3.alloc (.cells #[.int .i64 x1, .int .i64 x2, .int .i64 x3, .int .i64 x4, .int .i64 x5, .int .i64 x6] 78)).alloc (.cells #[.int .i64 x1, .int .i64 x2, .int .i64 x3, .int .i64 x4, .int .i64 x5, .int .i64 x6] 78)).cell? ⟨w3.heap.size + 1, j, none⟩ = (#[.int .i64 x1, .int .i64 x2, .int .i64 x3, .int .i64 x4, .int .i64 x5, .int .i64 x6] : Array Value)[j]? := blk_cell (by have := heap_alloc_new (w3.alloc (.cells #[.int .i64 x1, .int .i64 x2, .int .i64 x3, .int .i64 x4, .int .i64 x5, .int .i64 x6] 78)) (.cells #[.int .i64 x1, .int .i64 x2, .int .i64 x3, .int .i64 x4, .int .i64 x5, .int .i64 x6] 78); rw [heap_size_alloc] at this; exact this)
           intro j u hj
           match j, hj with
           | 0, hj => simp at hj; subst hj; rw [Addr.add_lit]; exact (hq 0).trans rfl
           | 1, hj => simp at hj; subst hj; rw [Addr.add_lit]; exact (hq 1).trans rfl
           | 2, hj => simp at hj; subst hj; rw [Addr.add_lit]; exact (hq 2).trans rfl
           | 3, hj => simp at hj; subst hj; rw [Addr.add_lit]; exact (hq 3).trans rfl
           | 4, hj => simp at hj; subst hj; rw [Addr.add_lit]; exact (hq 4).trans rfl
           | 5, hj => simp at hj; subst hj; rw [Addr.add_lit]; exact (hq 5).trans rfl
          case c2 => intro u hu; simp at hu; rcases hu with rfl | rfl | rfl | rfl | rfl | rfl <;> rfl
          case c3 => have := HOV.out; unfold maxLen; omega
          case c4 => have := HOV.out; omega
          case c5 => have := HSZ.out; have := hb3.size; rw [heap_size_alloc] at this; rw [heap_size_alloc, heap_size_alloc]; omega
          intro v' w4 hown4 hgrow _
          have hs3 : W.heap.size + 1 ≤ w3.heap.size := by have := HSZ.out; have := hb3.size; rw [heap_size_alloc] at this; omega
          have hw1 : (W.alloc (.cells (⟨ver, regs, binds, names, cons, curs, sorts, tots, ⟨some ⟨g, o, none⟩, cn, cc⟩⟩ : Pg).cells 29)).heap.size = W.heap.size + 1 := heap_size_alloc _ _
          have hb4 : Below (W.heap.size + 1) (W.alloc (.cells (⟨ver, regs, binds, names, cons, curs, sorts, tots, ⟨some ⟨g, o, none⟩, cn, cc⟩⟩ : Pg).cells 29)) w4 := (hst.out.1.trans (((Below.refl _ wr).alloc HSZ.out _).trans (hb3.mono (by rw [heap_size_alloc]; have := HSZ.out; omega)))).trans ((((Below.refl _ w3).alloc hs3 _).alloc (by rw [heap_size_alloc]; omega) _).grown hgrow (by rw [heap_size_alloc, heap_size_alloc]; omega) (fun k hk => owns_ge hown3 hk))
          have hown5 : w4.ownsRow (W.heap.size + 1) 78 6 v' (begs 0 (D.code.take (kk + 1))).length (lps (begs 0 (D.code.take (kk + 1)))) := by
           rw [HBX.out, List.length_append]
           unfold lps at hown4 ⊢
           rw [List.flatMap_append]
           exact hown4
          have HB4 := Lib.hid hb4
          have HO5 := Lib.hid hown5
          clear hb4 hown5 hown4 hgrow hown3 hs3 hw1
          go_wp2
          go_roundg (cn - kk - 1)
          case measure => omega
          case rel => exact ⟨kk + 1, by omega, by first | rfl | go_num, by rw [HE2.out], Lib.hid ⟨HB4.out, HO5.out, HAX.out, by rw [HE2.out]; have := hst.out.2.2.2; omega⟩⟩
    · have hE' : isE io = false := by simpa using hE
      have hB' : isB io = false := by simpa using hB
      have HE := Lib.hid hE'
      have HNB := Lib.hid hB'
      have x15 : (io == 15) = false := by unfold isE at hE'; simp only [Bool.or_eq_false_iff] at hE'; exact hE'.1
      have x22 : (io == 22) = false := by unfold isE at hE'; simp only [Bool.or_eq_false_iff] at hE'; exact hE'.2
      have x13 : (io == 13) = false := by unfold isB at hB'; simp only [Bool.or_eq_false_iff] at hB'; exact hB'.1.1
      have x14 : (io == 14) = false := by unfold isB at hB'; simp only [Bool.or_eq_false_iff] at hB'; exact hB'.1.2
      have x21 : (io == 21) = false := by unfold isB at hB'; simp only [Bool.or_eq_false_iff] at hB'; exact hB'.2
      have hE2 : ends (D.code.take (kk + 1)) = ends (D.code.take kk) := by rw [HE1.out, HE.out]; rfl
      have HE2 := Lib.hid hE2
      clear hE hB hE' hB' hE2
      go_wp2
      go_roundg (cn - kk - 1)
      case measure => omega
      case rel =>
       refine ⟨kk + 1, by omega, by first | rfl | go_num, by rw [HE2.out], Lib.hid ⟨hst.out.1.trans ((Below.one wr _).mono (by have := hst.out.1.size; rw [heap_size_alloc] at this; omega)), ?_, ?_, ?_⟩⟩
       · rw [HB1.out, HNB.out]; simpa using owns_below hst.out.2.1 (Below.one wr _)
       · rw [HA1.out, hst.out.2.2.1, HNB.out]; rfl
       · rw [HE2.out]; have := hst.out.2.2.2; omega
  · have hlt' : ((kk : Int) < (cn : Int)) = False := by simp; omega
    have htk : D.code.take kk = D.code := List.take_of_length_le (by have := HL.out; omega)
    have h1 := hst.out
    rw [htk] at h1
    have HF := Lib.hid h1
    have HT := Lib.hid htk
    have HX := Lib.hid hx
    clear h1 htk hx hck
    rw [HT.out]
    go_wp2
    refine bodyPost_ret (v := .tuple #[.slice va (begs 0 D.code).length vc, .bool (decide (ends D.code = (begs 0 D.code).length))]) (by simp [results, Tryz.results21, go_sem, beq_nat]) rfl ⟨.inr ⟨HF.out.2.2.1, va, vc, rfl, HF.out.2.1⟩, HX.out.1⟩
end Go.Proofs.Vf
namespace Go.Proofs.Vf
open Go Go.Proofs Go.RowKit Go.Lib
open Go.Proofs.Vg (Lp inside insF insFrom)
def dp1 (l : List Lp) (z : Lp) (j : Nat) : Lp := match l[j]? with
 | some y => if inside z.fr y then { z with depth := z.depth + 1, inn := (j : Int) } else z
 | none => z
def dp (l : List Lp) : Nat → Lp → Lp
 | 0, x => x
 | m + 1, x => dp1 l (dp l m x) m
theorem dp_same (l : List Lp) (x : Lp) : ∀ m, (dp l m x).fr = x.fr ∧ (dp l m x).tt = x.tt ∧ (dp l m x).cur = x.cur ∧ (dp l m x).sor = x.sor
 | 0 => ⟨rfl, rfl, rfl, rfl⟩
 | m + 1 => by
   have ih := dp_same l x m
   unfold dp dp1
   split
   · split <;> exact ih
   · exact ih
theorem dp_depth (l : List Lp) (x : Lp) : ∀ m, m ≤ l.length → (dp l m x).depth = x.depth + ((l.take m).filter (inside x.fr)).length
 | 0, _ => by simp [dp]
 | m + 1, hm => by
   have ih := dp_depth l x m (by omega)
   have hf := (dp_same l x m).1
   have hy : l[m]? = some l[m] := List.getElem?_eq_getElem (by omega)
   rw [List.take_add_one, hy, Option.toList_some, List.filter_append, List.length_append]
   unfold dp dp1
   rw [hy]
   simp only [hf]
   cases hi : inside x.fr l[m]
   · simp [List.filter_cons, hi, ih]
   · simp [List.filter_cons, hi, ih]; omega
def mid (l : List Lp) (kk m : Nat) : List Lp := l.mapIdx fun k x => if k < kk then dp l k x else if k = kk then dp l m x else x
def nested (l : List Lp) : List Lp := mid l l.length 0
theorem mid_len (l : List Lp) (kk m : Nat) : (mid l kk m).length = l.length := by unfold mid; simp
theorem mid_get {l : List Lp} {kk m k : Nat} {x : Lp} (h : l[k]? = some x) : (mid l kk m)[k]? = some (if k < kk then dp l k x else if k = kk then dp l m x else x) := by
 unfold mid; rw [List.getElem?_mapIdx, h]; rfl
theorem mid_zero (l : List Lp) : mid l 0 0 = l := by
 refine List.ext_getElem? fun k => ?_
 unfold mid
 rw [List.getElem?_mapIdx]
 cases h : l[k]? with
 | none => rfl
 | some x => simp; intro h0; subst h0; rfl
theorem mid_next (l : List Lp) (kk : Nat) : mid l kk kk = mid l (kk + 1) 0 := by
 refine List.ext_getElem? fun k => ?_
 unfold mid
 rw [List.getElem?_mapIdx, List.getElem?_mapIdx]
 cases h : l[k]? with
 | none => rfl
 | some x =>
   simp only [Option.map_some, Option.some.injEq]
   by_cases h1 : k < kk
   · simp [h1, show k < kk + 1 by omega]
   · by_cases h2 : k = kk
     · subst h2; simp
     · simp [h1, h2, show ¬ k < kk + 1 by omega]
       intro h3; subst h3; rfl
theorem mid_skip {l : List Lp} {kk m : Nat} {x y : Lp} (hx : l[kk]? = some x) (hy : l[m]? = some y) (hi : inside x.fr y = false) : mid l kk (m + 1) = mid l kk m := by
 refine List.ext_getElem? fun k => ?_
 unfold mid
 rw [List.getElem?_mapIdx, List.getElem?_mapIdx]
 cases h : l[k]? with
 | none => rfl
 | some z =>
   simp only [Option.map_some, Option.some.injEq]
   by_cases h1 : k < kk
   · simp [h1]
   · by_cases h2 : k = kk
     · subst h2
       rw [hx] at h; injection h with h; subst h
       simp only [Nat.lt_irrefl, if_false, if_true]
       have e : dp l (m + 1) x = dp1 l (dp l m x) m := rfl
       rw [e]
       unfold dp1
       rw [hy]
       simp only [(dp_same l x m).1, hi]
       rfl
     · simp [h1, h2]
def goodK (l : List Lp) (k : Nat) : Nat → Bool
 | 0 => true
 | m + 1 => goodK l k m && (match l[k]?, l[m]? with | some x, some y => inside x.fr y == inside x.tt y | _, _ => true)
def goodL (l : List Lp) : Nat → Bool
 | 0 => true
 | k + 1 => goodL l k && goodK l k k && (match l[k]? with | some x => decide ((dp l k x).depth < 12) | none => true)
def nestB (l : List Lp) : Bool := goodL l l.length
theorem goodK_mono {l : List Lp} {k m m' : Nat} (h : m ≤ m') (hf : goodK l k m = false) : goodK l k m' = false := by
 induction m' with
 | zero => have : m = 0 := by omega
           subst this; exact hf
 | succ n ih =>
   by_cases he : m = n + 1
   · subst he; exact hf
   · unfold goodK; rw [ih (by omega)]; rfl
theorem goodL_mono {l : List Lp} {m m' : Nat} (h : m ≤ m') (hf : goodL l m = false) : goodL l m' = false := by
 induction m' with
 | zero => have : m = 0 := by omega
           subst this; exact hf
 | succ n ih =>
   by_cases he : m = n + 1
   · subst he; exact hf
   · unfold goodL; rw [ih (by omega)]; rfl
def Rw (w : World) (B : Nat) (s : Sl) (l : List Lp) : Prop := s.n = l.length ∧ s.n ≤ 9223372036854775807 ∧ s.n ≤ s.c ∧ (0 < s.n → ∃ (g : Nat) (vals : Array Value), s.a = some ⟨g, 0, none⟩ ∧ B ≤ g ∧ w.heap[g]? = some (.cells vals 78) ∧ ∀ k x, l[k]? = some x → ∀ i < 6, vals[k * 6 + i]? = (lpC x)[i]?)
theorem Rw.lst {w : World} {B : Nat} {s : Sl} {l : List Lp} (h : Rw w B s l) : Lst w s 6 lpC l :=
 ⟨h.1, h.2.1, fun k x hx => by
  have := (List.getElem?_eq_some_iff.1 hx).1
  obtain ⟨g, vals, e, _, hh, hv⟩ := h.2.2.2 (by have := h.1; omega)
  refine ⟨g, 0, e, (Array.getElem?_eq_some_iff.1 hh).1, fun i hi => ?_⟩
  rw [Nat.zero_add, blk_cell hh]
  exact hv k x hx i hi⟩
theorem Rw.on {w w' : World} {B : Nat} {s : Sl} {l : List Lp} (h : Rw w B s l) (hb : Below w.heap.size w w') : Rw w' B s l :=
 ⟨h.1, h.2.1, h.2.2.1, fun h0 => by
  obtain ⟨g, vals, e, hB, hh, hv⟩ := h.2.2.2 h0
  exact ⟨g, vals, e, hB, (hb.block g (Array.getElem?_eq_some_iff.1 hh).1).trans hh, hv⟩⟩
theorem owns_rw {w : World} {B : Nat} {v : Value} {l : List Lp} (h : w.ownsRow B 78 6 v l.length (lps l)) (hn : l.length ≤ 9223372036854775807) : ∃ s : Sl, v = .slice s.a s.n s.c ∧ Rw w B s l := by
 rcases h.2 with ⟨rfl, h0⟩ | ⟨g, cap, cur, rfl, hB, hg, hc, _, hs, ht⟩
 · exact ⟨⟨none, 0, 0⟩, rfl, h0.symm, Nat.zero_le _, Nat.le_refl _, fun h => absurd h (by show ¬ 0 < 0; omega)⟩
 · refine ⟨⟨some ⟨g, 0, none⟩, l.length, cap⟩, rfl, rfl, hn, hc, fun _ => ⟨g, cur, rfl, hB, hg, fun k x hx i hi => ?_⟩⟩
   have hk := (List.getElem?_eq_some_iff.1 hx).1
   have h1 := lps_get l k i x hx hi
   rw [← ht, List.getElem?_take] at h1
   have h6 : k * 6 + i < l.length * 6 := by omega
   rw [if_pos h6] at h1
   simpa using h1
theorem heap_setCell_same {w : World} {g off : Nat} {vals : Array Value} {t : TypeId} (u : Value) (h : w.heap[g]? = some (.cells vals t)) : (w.setCell ⟨g, off, none⟩ u).heap[g]? = some (.cells (vals.setIfInBounds off u) t) := by
 obtain ⟨hlt, he⟩ := Array.getElem?_eq_some_iff.1 h
 have hlt' : g < (w.setCell ⟨g, off, none⟩ u).heap.size := by simp [World.setCell]; exact hlt
 rw [Array.getElem?_eq_getElem hlt']
 simp [World.setCell, Array.getElem_modify, he]
theorem mid_put {l : List Lp} {kk m : Nat} {x y : Lp} {vals : Array Value} (hx : l[kk]? = some x) (hy : l[m]? = some y) (hi : inside x.fr y = true)
 (h : ∀ k z, (mid l kk m)[k]? = some z → ∀ i < 6, vals[k * 6 + i]? = (lpC z)[i]?) :
 ∀ k z, (mid l kk (m + 1))[k]? = some z → ∀ i < 6, ((vals.setIfInBounds (kk * 6 + 4) (.int .i64 ((dp l m x).depth + 1 : Nat))).setIfInBounds (kk * 6 + 5) (.int .i64 m))[k * 6 + i]? = (lpC z)[i]? := by
 intro k z hz i hi6
 obtain ⟨z0, hz0⟩ : ∃ z0, l[k]? = some z0 := ⟨_, List.getElem?_eq_getElem (by have := (List.getElem?_eq_some_iff.1 hz).1; rw [mid_len] at this; exact this)⟩
 rw [mid_get hz0] at hz
 have hold := fun w hw => h k w hw i hi6
 have e : dp l (m + 1) x = { dp l m x with depth := (dp l m x).depth + 1, inn := (m : Int) } := by
  show dp1 l (dp l m x) m = _
  unfold dp1
  rw [hy]
  simp only [(dp_same l x m).1, hi]
  rfl
 by_cases hk : k = kk
 · subst hk
   rw [hx] at hz0; injection hz0 with hz0; subst hz0
   simp only [Nat.lt_irrefl, if_false, if_true, Option.some.injEq] at hz
   subst hz
   have hold := hold _ (mid_get hx)
   simp only [Nat.lt_irrefl, if_false, if_true] at hold
   rw [e]
   rw [Array.getElem?_setIfInBounds, Array.getElem?_setIfInBounds]
   have hsz : ∀ j, j < 6 → k * 6 + j < vals.size := fun j hj => by
    have := h k _ (mid_get hx) j hj
    have h2 : ((lpC (if k < k then dp l k x else if k = k then dp l m x else x)))[j]? ≠ none := by
     rw [List.getElem?_eq_getElem (by show j < 6; exact hj)]; simp
    rw [← this] at h2
    apply Nat.lt_of_not_le; intro hle
    exact h2 (Array.getElem?_eq_none hle)
   match i, hi6 with
   | 0, _ => simpa using hold
   | 1, _ => simpa using hold
   | 2, _ => simpa using hold
   | 3, _ => simpa using hold
   | 4, _ => have := hsz 4 (by omega); simp [this]
   | 5, _ => have := hsz 5 (by omega); simp [this]
 · have hz' : (mid l kk m)[k]? = some z := by rw [mid_get hz0, ← hz]; simp [hk]
   have hold := hold _ hz'
   rw [Array.getElem?_setIfInBounds, Array.getElem?_setIfInBounds]
   rw [if_neg (by omega), if_neg (by omega)]
   exact hold
end Go.Proofs.Vf
namespace Go.Proofs.Vf
open Go Go.Proofs Go.RowKit Go.Lib
open Go.Proofs.Vg (Lp inside insF insFrom)
attribute [local go_sem ↓] Go.wp_at_zero Go.wp_at_succ
theorem in_ex (at_ : Nat) (x1 x2 : Nat) (x3 x4 : Int) (x5 : Nat) (x6 : Int) (k : Nat) (W : World) (hk : W.heap[k]? = some (.cells #[.int .i64 at_] 3)) : Calls Tryz.prog 55 #[.agg #[.int .i64 x1, .int .i64 x2, .int .i64 x3, .int .i64 x4, .int .i64 x5, .int .i64 x6], .pointer (some ⟨k, 0, none⟩)] W fun e w' =>
 e = .returned (.bool (inside at_ ⟨x1, x2, x3, x4, x5, x6⟩)) ∧ w' = W.alloc (.cells #[.int .i64 x1, .int .i64 x2, .int .i64 x3, .int .i64 x4, .int .i64 x5, .int .i64 x6] 78) := by
 have hlt : k < W.heap.size := (Array.getElem?_eq_some_iff.1 hk).1
 have c1 : ∀ o j, (W.alloc o).cell? ⟨k, j, none⟩ = (#[.int .i64 at_] : Array Value)[j]? := fun o j => blk_cell (((Below.one W o).block k hlt).trans hk) j
 go_enter Tryz.func55, Tryz.ntmps55
 go_wp2
 all_goals go_ret
 all_goals refine ⟨?_, rfl⟩
 all_goals first | (simp_all [inside]; done) | (simp_all [inside]; intros; omega) | (simp_all [inside]; omega)
theorem nest_any (W : World) (B : Nat) (s : Sl) (l : List Lp) (h : Rw W B s l) (hB : B ≤ W.heap.size) (h4 : s.n ≤ 4000) (h0 : ∀ x ∈ l, x.depth = 0) :
 Calls Tryz.prog 22 #[.slice s.a s.n s.c] W fun e w' => e = .returned (.bool (nestB l)) ∧ (nestB l = true → Rw w' B s (nested l)) ∧ Below B W w' := by
 obtain ⟨sa, sn, sc⟩ := s
 have hlen : sn = l.length := h.1
 have hsm : sn ≤ 4000 := h4
 have HL := Lib.hid hlen
 have H := Lib.hid h
 have HB := Lib.hid hB
 have H0 := Lib.hid h0
 clear hlen h hB h0 h4
 go_enter Tryz.func22, Tryz.ntmps22
 go_wp2
 go_loopg [11] sn (fun lft i wr => ∃ kk : Nat, kk + lft = sn ∧ i = .int .i64 kk ∧ Hid (Below B W wr ∧ Rw wr B ⟨sa, sn, sc⟩ (mid l kk 0) ∧ goodL l kk = true))
 case atStart => exact ⟨0, by omega, rfl, Lib.hid ⟨Below.refl _ _, by rw [mid_zero]; exact H.out, rfl⟩⟩
 case round =>
  obtain ⟨kk, hl, rfl, hst⟩ := hrel
  by_cases hlk : kk < sn
  · have hlt' : ((kk : Int) < (sn : Int)) = True := by simp; omega
    obtain ⟨x, hx⟩ : ∃ x, l[kk]? = some x := ⟨_, List.getElem?_eq_getElem (by have := HL.out; omega)⟩
    obtain ⟨g, vals, e1, hBg, hh, hv⟩ := hst.out.2.1.2.2.2 (by show 0 < sn; omega)
    have e1 : sa = some ⟨g, 0, none⟩ := e1
    subst e1
    have hgs : g < wr.heap.size := (Array.getElem?_eq_some_iff.1 hh).1
    obtain ⟨x1, x2, x3, x4, x5, x6⟩ := x
    have hm := mid_get (kk := kk) (m := 0) hx
    simp only [Nat.lt_irrefl, if_false, if_true] at hm
    replace hm : (mid l kk 0)[kk]? = some ⟨x1, x2, x3, x4, x5, x6⟩ := hm
    have q0 : vals[kk * 6]? = some (.int .i64 x1) := by simpa using hv kk _ hm 0 (by omega)
    have q1 : vals[kk * 6 + 1]? = some (.int .i64 x2) := by simpa using hv kk _ hm 1 (by omega)
    have d0 : ∀ w, Below wr.heap.size wr w → w.cell? ⟨g, kk * 6, none⟩ = some (.int .i64 x1) := fun w hb => (blk_cell ((hb.block g hgs).trans hh) _).trans q0
    have d1 : ∀ w, Below wr.heap.size wr w → w.cell? ⟨g, kk * 6 + 1, none⟩ = some (.int .i64 x2) := fun w hb => (blk_cell ((hb.block g hgs).trans hh) _).trans q1
    have c0 := d0 _ (Below.refl _ _)
    have c1 := d1 _ (Below.refl _ _)
    have a0 := fun o => d0 _ (Below.one wr o)
    have a1 := fun o => d1 _ (Below.one wr o)
    have HX := Lib.hid hx
    have HV := Lib.hid hv
    have HH := Lib.hid hh
    have HBG := Lib.hid hBg
    clear d0 d1 q0 q1 hv hh hm hBg hx
    go_wp2
    have HGS := Lib.hid hgs
    clear hgs
    have hkc : kk ≤ sc := by have : sn ≤ sc := H.out.2.2.1; omega
    have HST := Lib.hid hst
    refine (fun (key : (?Tail : Prop)) => ?main) ?kp
    case main =>
     go_region_with (first | (go_at_call 30; refine (mkin_any _ _).mono ?_; rintro e w2 ⟨rfl, rfl⟩))
     all_goals exact key
    clear a0 a1 c0 c1
    go_wp2
    go_loopg [31] kk (fun lft i wi => ∃ m : Nat, m + lft = kk ∧ i = .int .i64 m ∧ Hid (Below B W wi ∧ Rw wi B ⟨some ⟨g, 0, none⟩, sn, sc⟩ (mid l kk m) ∧ goodK l kk m = true ∧ wi.heap[wr.heap.size]? = some (.cells #[.int .i64 x1] 3) ∧ wi.heap[wr.heap.size + 1]? = some (.cells #[.int .i64 x2] 3)))
    case atStart =>
     have two := two_blocks wr (.cells #[.int .i64 x1] 3) (.cells #[.int .i64 x2] 3)
     exact ⟨0, by omega, rfl, Lib.hid ⟨HST.out.1.trans (two.1.drew.mono (Nat.le_trans HB.out HST.out.1.size)), HST.out.2.1.on two.1.drew, rfl, two.2.2.1, two.2.2.2⟩⟩
    case round =>
     obtain ⟨m, hm2, rfl, hin⟩ := hrel
     have HIN := Lib.hid hin
     by_cases hlm : m < kk
     · have hlm' : ((m : Int) < (kk : Int)) = True := by simp; omega
       obtain ⟨y, hy⟩ : ∃ y, l[m]? = some y := ⟨_, List.getElem?_eq_getElem (by have := HL.out; omega)⟩
       obtain ⟨y1, y2, y3, y4, y5, y6, hz, hins⟩ : ∃ y1 y2 y3 y4 y5 y6, dp l m y = ⟨y1, y2, y3, y4, y5, y6⟩ ∧ ∀ a, inside a ⟨y1, y2, y3, y4, y5, y6⟩ = inside a y := by
        refine ⟨_, _, _, _, _, _, rfl, fun a => ?_⟩
        unfold inside
        simp only [(dp_same l y m).1, (dp_same l y m).2.1]
       obtain ⟨g', vals', e1', _, hh', hv'⟩ := hin.out.2.1.2.2.2 (by show 0 < sn; omega)
       injection e1' with e1'; injection e1' with e1'
       subst e1'
       have hgs : g < wr.heap.size := (Array.getElem?_eq_some_iff.1 hh').1
       have hmy := mid_get (kk := kk) (m := m) hy
       rw [if_pos hlm, hz] at hmy
       have hmx := mid_get (kk := kk) (m := m) HX.out
       rw [if_neg (Nat.lt_irrefl _), if_pos rfl] at hmx
       have p0 : vals'[m * 6]? = some (.int .i64 y1) := by simpa using hv' m _ hmy 0 (by omega)
       have p1 := hv' m _ hmy 1 (by omega)
       have p2 := hv' m _ hmy 2 (by omega)
       have p3 := hv' m _ hmy 3 (by omega)
       have p4 := hv' m _ hmy 4 (by omega)
       have p5 := hv' m _ hmy 5 (by omega)
       have r4 := hv' kk _ hmx 4 (by omega)
       have r5 := hv' kk _ hmx 5 (by omega)
       have kb := blk_cell hh'
       have d0 := (kb _).trans p0
       have d1 := (kb _).trans p1
       have d2 := (kb _).trans p2
       have d3 := (kb _).trans p3
       have d4 := (kb _).trans p4
       have d5 := (kb _).trans p5
       simp at d1 d2 d3 d4 d5
       have hd4 : (dp l m ⟨x1, x2, x3, x4, x5, x6⟩).depth ≤ 4000 := by
        rw [dp_depth l _ m (by have := HL.out; omega)]
        have h1 := List.length_filter_le (inside x1) (l.take m)
        have h2 : x5 = 0 := H0.out _ (List.mem_of_getElem? HX.out)
        rw [List.length_take] at h1
        show x5 + ((l.take m).filter (inside x1)).length ≤ 4000
        omega
       have D4 : Hid (∀ w, Below wr.heap.size wr w → w.cell? ⟨g, kk * 6 + 4, none⟩ = some (.int .i64 (dp l m ⟨x1, x2, x3, x4, x5, x6⟩).depth) ∧ w.cell? ⟨g, kk * 6 + 5, none⟩ = some (.int .i64 (dp l m ⟨x1, x2, x3, x4, x5, x6⟩).inn) ∧ ∀ j, w.frozen? ⟨g, j, none⟩ = false) := Lib.hid (fun w hb => ⟨(blk_cell ((hb.block g hgs).trans hh') _).trans r4, (blk_cell ((hb.block g hgs).trans hh') _).trans r5, blk_frozen ((hb.block g hgs).trans hh')⟩)
       obtain ⟨dd, hdd⟩ : ∃ dd, dd = (dp l m ⟨x1, x2, x3, x4, x5, x6⟩).depth := ⟨_, rfl⟩
       obtain ⟨di, hdi⟩ : ∃ di, di = (dp l m ⟨x1, x2, x3, x4, x5, x6⟩).inn := ⟨_, rfl⟩
       rw [← hdd] at D4 hd4
       rw [← hdi] at D4
       have HDD := Lib.hid hdd
       have HVV := Lib.hid (And.intro hh' hv')
       have hwd : IntKind.i64.wrap ((dd : Int) + 1) = (dd : Int) + 1 := by rw [IntKind.wrap_i64]; omega
       clear hdd hdi hd4 p0 p1 p2 p3 p4 p5 r4 r5 kb hmx hmy hh' hv' hz
       have hc1 := hin.out.2.2.2.1
       have hc2 := hin.out.2.2.2.2
       have hI1 := fun w (hb : Below wr.heap.size wr w) => in_ex x1 y1 y2 y3 y4 y5 y6 _ w ((hb.block _ (Array.getElem?_eq_some_iff.1 hc1).1).trans hc1)
       have hI2 := fun w (hb : Below wr.heap.size wr w) => in_ex x2 y1 y2 y3 y4 y5 y6 _ w ((hb.block _ (Array.getElem?_eq_some_iff.1 hc2).1).trans hc2)
       simp only [hins] at hI1 hI2
       have HY := Lib.hid hy
       clear hins hy hc1 hc2 hin
       generalize hA : inside x1 y = bA at hI1
       generalize hB : inside x2 y = bB at hI2
       have HI1 := Lib.hid hI1
       have HI2 := Lib.hid hI2
       have HA := Lib.hid hA
       have HB2 := Lib.hid hB
       clear hI1 hI2 hA hB
       go_wp2
       refine (fun (key : (?Tail2 : Prop)) => ?main2) ?kp2
       case main2 =>
        go_region_with (first
         | (go_at_call 55; first | (with_reducible refine (HI1.out _ (by with_reducible repeat (first | exact Below.refl _ _ | refine Below.drew ?_ | refine Below.drewN ?_ _ | refine Below.new ?_ _))).mono ?_) | (with_reducible refine (HI2.out _ (by with_reducible repeat (first | exact Below.refl _ _ | refine Below.drew ?_ | refine Below.drewN ?_ _ | refine Below.new ?_ _))).mono ?_)
            rintro e w3 ⟨rfl, rfl⟩))
        all_goals exact key
       clear d0 d1 d2 d3 d4 d5
       have hgood : goodK l kk (m + 1) = (bA == bB) := by
        show (goodK l kk m && _) = _
        rw [HIN.out.2.2.1, HX.out, HY.out]
        simp only [Bool.true_and]
        rw [HA.out, HB2.out]
       have HG := Lib.hid hgood
       clear hgood
       by_cases hne : bA = bB
       · subst hne
         cases bA
         · go_wp2_with (first
            | (go_at_call 55; with_reducible refine (HI1.out _ (by with_reducible repeat (first | exact Below.refl _ _ | refine Below.drew ?_ | refine Below.drewN ?_ _ | refine Below.new ?_ _))).mono ?_
               rintro e w3 ⟨rfl, hw3⟩
               have hb3 : Below wr.heap.size wr w3 := by rw [hw3]; with_reducible repeat (first | exact Below.refl _ _ | refine Below.drew ?_ | refine Below.drewN ?_ _ | refine Below.new ?_ _)
               have HB3 := Lib.hid hb3
               clear hw3 hb3))
           go_roundg (kk - m - 1)
           case measure => omega
           case rel =>
            have h1 := HIN.out
            have hBw : B ≤ wr.heap.size := Nat.le_trans HB.out h1.1.size
            refine ⟨m + 1, by omega, by first | rfl | go_num, Lib.hid ⟨h1.1.trans (HB3.out.mono hBw), ?_, HG.out, ?_, ?_⟩⟩
            · rw [mid_skip HX.out HY.out HA.out]; exact h1.2.1.on HB3.out
            · exact (HB3.out.block _ (Array.getElem?_eq_some_iff.1 h1.2.2.2.1).1).trans h1.2.2.2.1
            · exact (HB3.out.block _ (Array.getElem?_eq_some_iff.1 h1.2.2.2.2).1).trans h1.2.2.2.2
         · go_wp2_with (first
            | (go_at_call 55; with_reducible refine (HI1.out _ (by with_reducible repeat (first | exact Below.refl _ _ | refine Below.drew ?_ | refine Below.drewN ?_ _ | refine Below.new ?_ _))).mono ?_
               rintro e w3 ⟨rfl, hw3⟩
               have hb3 : Below wr.heap.size wr w3 := by rw [hw3]; with_reducible repeat (first | exact Below.refl _ _ | refine Below.drew ?_ | refine Below.drewN ?_ _ | refine Below.new ?_ _)
               have kd := (D4.out w3 hb3).1
               have ke := (D4.out w3 hb3).2.1
               have kf := (D4.out w3 hb3).2.2
               have HB3 := Lib.hid hb3
               clear hw3 hb3))
           go_roundg (kk - m - 1)
           case measure => omega
           case rel =>
            have h1 := HIN.out
            have hBw : B ≤ wr.heap.size := Nat.le_trans HB.out h1.1.size
            have hp := mid_put HX.out HY.out HA.out HVV.out.2
            rw [← HDD.out] at hp
            have hg1 := HGS.out
            refine ⟨m + 1, by omega, by first | rfl | go_num, Lib.hid ⟨((h1.1.trans (HB3.out.mono hBw)).setCell (p := ⟨g, kk * 6 + 4, none⟩) HBG.out _).setCell (p := ⟨g, kk * 6 + 5, none⟩) HBG.out _, ⟨?_, h1.2.1.2.1, h1.2.1.2.2.1, fun _ => ⟨g, _, rfl, HBG.out, heap_setCell_same _ (heap_setCell_same _ ((HB3.out.block g hgs).trans HVV.out.1)), hp⟩⟩, HG.out, ?_, ?_⟩⟩
            · rw [mid_len]; exact HL.out
            · refine (Go.RowKit.Below.heap_setCell _ _ _ _ ?_).trans ((Go.RowKit.Below.heap_setCell _ _ _ _ ?_).trans ((HB3.out.block _ (Array.getElem?_eq_some_iff.1 h1.2.2.2.1).1).trans h1.2.2.2.1))
              all_goals (simp only; omega)
            · refine (Go.RowKit.Below.heap_setCell _ _ _ _ ?_).trans ((Go.RowKit.Below.heap_setCell _ _ _ _ ?_).trans ((HB3.out.block _ (Array.getElem?_eq_some_iff.1 h1.2.2.2.2).1).trans h1.2.2.2.2))
              all_goals (simp only; omega)
       · have hnb : nestB l = false := by
          have hg : goodK l kk kk = false := goodK_mono (show m + 1 ≤ kk by omega) (by rw [HG.out]; simpa using hne)
          refine goodL_mono (m := kk + 1) (show kk + 1 ≤ l.length by have := HL.out; omega) ?_
          show (goodL l kk && goodK l kk kk && _) = false
          rw [hg]; simp
         have HNB := Lib.hid hnb
         clear hnb
         cases bA <;> cases bB <;> first | (exact absurd rfl hne) | skip
         all_goals
          go_wp2
          go_ret
          refine ⟨by rw [HNB.out]; rfl, fun h => absurd (HNB.out.symm.trans h) (by simp), ?_⟩
          exact HIN.out.1.trans (((((Below.one wr _).new _).new _).drew).mono (Nat.le_trans HB.out HIN.out.1.size))
     · have hmk : m = kk := by omega
       subst hmk
       obtain ⟨g', vals', e1', _, hh', hv'⟩ := hin.out.2.1.2.2.2 (by show 0 < sn; omega)
       injection e1' with e1'; injection e1' with e1'
       subst e1'
       have hmx := mid_get (kk := m) (m := m) HX.out
       rw [if_neg (Nat.lt_irrefl _), if_pos rfl] at hmx
       have r4 := (blk_cell hh' _).trans (hv' m _ hmx 4 (by omega))
       have hgl : goodL l (m + 1) = decide ((dp l m ⟨x1, x2, x3, x4, x5, x6⟩).depth < 12) := by
        show (goodL l m && goodK l m m && _) = _
        rw [HST.out.2.2, HIN.out.2.2.1, HX.out]
        rfl
       obtain ⟨dd, hdd⟩ : ∃ dd, dd = (dp l m ⟨x1, x2, x3, x4, x5, x6⟩).depth := ⟨_, rfl⟩
       rw [← hdd] at hgl
       replace r4 : wr.cell? ⟨g, m * 6 + 4, none⟩ = some (.int .i64 dd) := by rw [hdd]; exact r4
       have HG := Lib.hid hgl
       clear hgl hdd hmx hh' hv' hin
       by_cases h12 : dd < 12
       · have hd12 : ((12 : Int) ≤ (dd : Int)) = False := by simp; omega
         have hd13 : (12 ≤ dd) = False := by simp; omega
         go_wp2
         go_roundg (sn - m - 1)
         case measure => omega
         case rel =>
          refine ⟨m + 1, by omega, by first | rfl | go_num, Lib.hid ⟨HIN.out.1, ?_, ?_⟩⟩
          · rw [← mid_next]; exact HIN.out.2.1
          · rw [HG.out]; simpa using h12
       · have hd12 : ((12 : Int) ≤ (dd : Int)) = True := by simp; omega
         have hd13 : (12 ≤ dd) = True := by simp; omega
         have hnb : nestB l = false := goodL_mono (m := m + 1) (show m + 1 ≤ l.length by have := HL.out; omega) (by rw [HG.out]; simpa using h12)
         have HNB := Lib.hid hnb
         clear hnb
         go_wp2
         go_ret
         exact ⟨by rw [HNB.out]; rfl, fun h => absurd (HNB.out.symm.trans h) (by simp), HIN.out.1⟩
  · have hlt' : ((kk : Int) < (sn : Int)) = False := by simp; omega
    have hks : kk = l.length := by have := HL.out; omega
    have h1 := hst.out
    rw [hks] at h1
    have HF := Lib.hid h1
    clear h1 hks hst
    go_wp2
    go_ret
    exact ⟨by rw [show nestB l = true from HF.out.2.2]; rfl, fun _ => HF.out.2.1, HF.out.1⟩
end Go.Proofs.Vf
