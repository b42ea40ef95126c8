/- The program's verify, flow and code, followed by hand: part 5. -/
import Derived.Test.YtmdcccegkamhaaaGreatDoorP4
set_option maxHeartbeats 4000000
set_option maxRecDepth 100000
set_option linter.unusedSectionVars false
set_option linter.unusedVariables false
set_option linter.unusedSimpArgs false
namespace Go.Proofs.Vf
open Go Go.Proofs Go.RowKit Go.Lib
attribute [local go_sem ↓] Go.wp_at_zero Go.wp_at_succ
def letters : List Nat := [45, 114, 107, 98, 115, 116, 99, 50, 49, 102, 120, 106, 110, 109, 105, 108, 119, 113]
def curAt (D : Dat) (n : Int) : Option Cur := D.curs[n.toNat]?
def below (n high : Int) : Bool := decide (0 ≤ n) && decide (n < high)
def fieldB (p : Pg) (D : Dat) (at_ : Int) (c : Nat) (n : Int) : Bool :=
 if c = 45 then n == 0
 else if c = 114 then below n p.regs
 else if c = 107 then below n p.cons.n
 else if c = 98 then below n p.binds
 else if c = 115 then below n p.sorts.n
 else if c = 116 then below n p.tots.n
 else if c = 99 then below n p.curs.n
 else if c = 50 then below n 15
 else if c = 49 then below n 2
 else if c = 102 then below n 10
 else if c = 120 then below n 60
 else if c = 106 then decide (at_ < n) && decide (n < p.code.n)
 else if c = 110 then decide (1 ≤ n) && decide (n ≤ at_)
 else if c = 109 then decide (1 ≤ n) && decide (n ≤ p.regs)
 else if c = 105 then below n p.curs.n && (match curAt D n with | some x => x.i | none => false)
 else if c = 108 then below n p.curs.n && (match curAt D n with | some x => !x.i | none => false)
 else if c = 119 then below n p.curs.n && (match curAt D n with | some x => !x.i && x.w | none => false)
 else if c = 113 then below n p.cons.n && (match D.cons[n.toNat]? with | some x => x.k == 2 | none => false)
 else false
def FieldOK (W0 : World) : Prop := ∀ w, Below W0.heap.size W0 w → ∀ (p : Pg) (D : Dat), Has w p D → ∀ (at_ : Nat) (c : UInt8) (n : Int), c.toNat ∈ letters → Gives 46 #[p.v, .int .i64 at_, .int .u8 c.toNat, .int .i64 n] w (.bool (fieldB p D at_ c.toNat n))
structure Known (W0 : World) : Prop where
 agg : AggOK W0
 shape : ShapeOK W0
 func : FuncOK W0
 field : FieldOK W0
def fourB : List UInt8 → Bool
 | [] => true
 | [a, b, c, d] => letters.contains a.toNat && letters.contains b.toNat && letters.contains c.toNat && letters.contains d.toNat
 | _ => false
theorem four_all : ∀ o : Fin 36, fourB (shapeL o.val) = true := by decide
theorem shape_four (o : Nat) : shapeL o = [] ∨ ∃ a b c d, shapeL o = [a, b, c, d] ∧ a.toNat ∈ letters ∧ b.toNat ∈ letters ∧ c.toNat ∈ letters ∧ d.toNat ∈ letters := by
 by_cases h : o < 36
 · have h1 := four_all ⟨o, h⟩
   have h1 : fourB (shapeL o) = true := h1
   unfold fourB at h1
   split at h1
   · rename_i e; exact .inl e
   · rename_i a b c d e
     simp only [Bool.and_eq_true, List.contains_iff_mem] at h1
     exact .inr ⟨a, b, c, d, e, h1.1.1.1, h1.1.1.2, h1.1.2, h1.2⟩
   · cases h1
 · left
   unfold shapeL
   split <;> first | rfl | omega
def Chk (p : Pg) (D : Dat) (j : Nat) (i : Ins) : Prop := ∃ a b c d, shapeL i.o.toNat = [a, b, c, d] ∧ fieldB p D j a.toNat i.a = true ∧ fieldB p D j b.toNat i.b = true ∧ fieldB p D j c.toNat i.c = true ∧ fieldB p D j d.toNat i.d = true ∧ runsB p D j i = true
def CheckP (p : Pg) (D : Dat) : Prop := partsB p D = true ∧ 1 ≤ D.code.length ∧ D.code.length ≤ 4000 ∧ (∃ i, D.code[D.code.length - 1]? = some i ∧ i.o = 35) ∧ ∀ j i, D.code[j]? = some i → Chk p D j i
open Classical in
noncomputable def checkE (p : Pg) (D : Dat) : Int := if CheckP p D then 0 else 140
def OpsOK (D : Dat) : Prop := ∀ i ∈ D.code, ∃ o : Nat, i.o = o ∧ o < 256
theorem index4 (ia ib ic id : Int) (w : World) : (Instr.index 114 (.agg #[.int .i64 ia, .int .i64 ib, .int .i64 ic, .int .i64 id]) (.int .i64 0)).run Tryz.prog w = .ok (.int .i64 ia) w ∧ (Instr.index 114 (.agg #[.int .i64 ia, .int .i64 ib, .int .i64 ic, .int .i64 id]) (.int .i64 1)).run Tryz.prog w = .ok (.int .i64 ib) w ∧
 (Instr.index 114 (.agg #[.int .i64 ia, .int .i64 ib, .int .i64 ic, .int .i64 id]) (.int .i64 2)).run Tryz.prog w = .ok (.int .i64 ic) w ∧ (Instr.index 114 (.agg #[.int .i64 ia, .int .i64 ib, .int .i64 ic, .int .i64 id]) (.int .i64 3)).run Tryz.prog w = .ok (.int .i64 id) w := by
 have h := Tryz.underlying114
 refine ⟨?_, ?_, ?_, ?_⟩ <;> simp [Instr.index, run_underlying h, asIntOf, go_sem]
theorem below_nat {n : Int} {k : Nat} (h : below n k = true) : ∃ j : Nat, n = j ∧ j < k := by
 unfold below at h
 simp only [Bool.and_eq_true, decide_eq_true_eq] at h
 exact ⟨n.toNat, by omega, by omega⟩
theorem runs_all (W0 : World) (hF : FuncOK W0) (p : Pg) (D : Dat) (W : World) (hW : Below W0.heap.size W0 W) (hp : Has W p D) (at_ : Nat) (on : Nat) (ia ib ic id : Int) (hi : D.code[at_]? = some ⟨on, ia, ib, ic, id⟩)
 (h8 : on = 8 → below id 10 = true) (h23 : on = 23 → below ib p.sorts.n = true) (h20 : on = 20 → below ia p.sorts.n = true) : Gives 47 #[p.v, .int .i64 at_] W (.bool (runsB p D at_ ⟨on, ia, ib, ic, id⟩)) := by
 have hl := hp.sorts.len
 by_cases e8 : on = 8
 · obtain ⟨d, rfl, hd⟩ := below_nat (k := 10) (h8 e8)
   subst e8
   exact runs_8 W0 hF p D W hW hp at_ ia ib ic d hd hi
 by_cases e23 : on = 23
 · obtain ⟨b, rfl, hb⟩ := below_nat (h23 e23)
   subst e23
   exact runs_23 p D W hp at_ ia b ic id _ (List.getElem?_eq_getElem (by omega)) hi
 by_cases e20 : on = 20
 · obtain ⟨b, rfl, hb⟩ := below_nat (h20 e20)
   subst e20
   exact runs_20 p D W hp at_ b ib ic id _ (List.getElem?_eq_getElem (by omega)) hi
 exact runs_rest p D W hp at_ on ia ib ic id hi (by omega) (by omega) (by omega)
theorem checkE_no {p : Pg} {D : Dat} (h : ¬ CheckP p D) : checkE p D = 140 := by unfold checkE; rw [if_neg h]
theorem checkE_yes {p : Pg} {D : Dat} (h : CheckP p D) : checkE p D = 0 := by unfold checkE; rw [if_pos h]
theorem check_any (W0 : World) (hK : Known W0) (p : Pg) (D : Dat) (W : World) (hW : Below W0.heap.size W0 W) (hp : Has W p D) (ho : OpsOK D) : Gives 20 #[p.v] W (.int .i64 (checkE p D)) := by
 have hpp : ∀ w, w = W.alloc (.cells p.cells 29) → Gives 44 #[p.v] w (.bool (partsB p D)) := fun w hw => by
  subst hw; exact parts_any W0 hK.agg p D _ (hW.new _) (hp.on (Below.one _ _))
 have hcl := hp.code.len
 have hcs := hp.code.small
 have on : ∀ w, Below (W.alloc (.cells p.cells 29)).heap.size (W.alloc (.cells p.cells 29)) w → Below W.heap.size W w ∧ Below W0.heap.size W0 w ∧ Has w p D ∧ (∀ j, w.cell? ⟨W.heap.size, j, none⟩ = p.cells[j]?) := fun w hb => by
  have hb2 := (Below.one W _).on hb
  exact ⟨hb2, hW.on hb2, hp.on hb2, blk_cell ((hb.block _ (by rw [heap_size_alloc]; omega)).trans (heap_alloc_new _ _))⟩
 have hlast : 1 ≤ p.code.n → ∃ i, D.code[p.code.n - 1]? = some i := fun h => ⟨_, List.getElem?_eq_getElem (by omega)⟩
 by_cases h0 : p.code.n = 0
 ·
  have hno : checkE p D = 140 := checkE_no fun h => by have := h.2.1; omega
  have HO := Lib.hid on
  have HPP := Lib.hid hpp
  have HN := Lib.hid hno
  clear on hpp hno hp hW hcl hlast hK ho
  obtain ⟨ver, regs, binds, names, cons, curs, sorts, tots, ⟨ca, cn, cc⟩⟩ := p
  have h0 : cn = 0 := h0
  subst h0
  unfold Gives
  go_enter Tryz.func20, Tryz.ntmps20
  go_wp2_with (first
   | (go_at_call 44; refine (HPP.out _ rfl).mono ?_; rintro e w2 ⟨rfl, hb2⟩; have k2 := (HO.out _ hb2).2.2.2))
  all_goals go_ret
  all_goals exact ⟨by rw [HN.out]; rfl, (HO.out _ hb2).1⟩
 obtain ⟨il, hil⟩ := hlast (by omega)
 obtain ⟨g, o, e1, hg, hlt, hcl0⟩ := hp.ins hil
 have hO2 := fun j i (hj : D.code[j]? = some i) => hp.ins hj
 have hnoP : partsB p D = false → checkE p D = 140 := fun h => checkE_no fun hc => by rw [hc.1] at h; cases h
 have hnoL : 4000 < p.code.n → checkE p D = 140 := fun h => checkE_no fun hc => by have := hc.2.2.1; omega
 have hnoH : il.o ≠ 35 → checkE p D = 140 := fun h => checkE_no fun hc => by
  obtain ⟨i, hi, h35⟩ := hc.2.2.2.1
  rw [← hcl, hil] at hi
  cases hi
  exact h h35
 have hnoC : ∀ j i, D.code[j]? = some i → ¬ Chk p D j i → checkE p D = 140 := fun j i hj hc => checkE_no fun h => hc (h.2.2.2.2 j i hj)
 have hyes : partsB p D = true → p.code.n ≤ 4000 → il.o = 35 → (∀ j i, D.code[j]? = some i → Chk p D j i) → checkE p D = 0 := fun h1 h2 h3 h4 =>
  checkE_yes ⟨h1, by omega, by omega, ⟨il, by rw [← hcl]; exact hil, h3⟩, h4⟩
 have HO := Lib.hid on
 have HPP := Lib.hid hpp
 have HK := Lib.hid hK
 have HC := Lib.hid hcl
 have HLen := Lib.hid hO2
 have NP := Lib.hid hnoP
 have NL := Lib.hid hnoL
 have NH := Lib.hid hnoH
 have NC := Lib.hid hnoC
 have YS := Lib.hid hyes
 have HOps := Lib.hid ho
 have HL0 := Lib.hid hcl0
 have HIL := Lib.hid hil
 clear on hpp hp hW hcl hlast hK hO2 hnoP hnoL hnoH hnoC hyes ho hcl0 hil
 obtain ⟨ver, regs, binds, names, cons, curs, sorts, tots, ⟨ca, cn, cc⟩⟩ := p
 obtain ⟨lo, la, lb, lc, ld⟩ := il
 have e1 : ca = some ⟨g, o, none⟩ := e1
 have hcs : cn ≤ 9223372036854775807 := hcs
 have h0 : ¬ cn = 0 := h0
 subst e1
 obtain ⟨m, rfl⟩ : ∃ m, cn = m + 1 := ⟨cn - 1, by omega⟩
 have dl : ∀ w, Below W.heap.size W w → w.cell? ⟨g, o + m * 5, none⟩ = some (.int .u8 lo) := fun w hb => (HL0.out w hb).1
 have DL := Lib.hid dl
 clear dl
 unfold Gives
 go_enter Tryz.func20, Tryz.ntmps20
 go_wp2_with (first
  | (go_at_call 44; refine (HPP.out _ rfl).mono ?_; rintro e w2 ⟨rfl, hb2⟩; have k2 := (HO.out _ hb2).2.2.2; have kl := DL.out _ (HO.out _ hb2).1))
 all_goals try (go_ret; refine ⟨?_, (HO.out _ hb2).1⟩; first
  | (rw [NP.out (by first | assumption | (simpa using ‹¬ _ = true›))]; rfl)
  | (rw [NL.out (by omega)]; rfl)
  | (rw [NH.out (by intro hh; have hh : lo = 35 := hh; rename_i hx _; simp [hh] at hx; omega)]; rfl)
  | (rw [NH.out (by intro hh; have hh : lo = 35 := hh; rename_i hx; simp [hh] at hx; omega)]; rfl))
 have hparts : partsB (⟨ver, regs, binds, names, cons, curs, sorts, tots, ⟨some ⟨g, o, none⟩, m + 1, cc⟩⟩ : Pg) D = true := ‹partsB _ D = true›
 rename ((1 ≤ (m : Int) + 1 ∧ (m : Int) + 1 ≤ 4000) ∧ (lo != 35) = false) => hlo
 have hlo35 : lo = 35 := by simpa using hlo.2
 have hle4 : m + 1 ≤ 4000 := by omega
 have HPT := Lib.hid hparts
 have HLO := Lib.hid hlo35
 have HLE := Lib.hid hle4
 have HB2 := Lib.hid hb2
 clear hparts hlo hlo35 hle4 hb2 k2 kl
 go_loopg [38] (m + 1) (fun lft i wr => ∃ kk : Nat, kk + lft = m + 1 ∧ i = .int .i64 kk ∧ Hid (Below (W.alloc (.cells (⟨ver, regs, binds, names, cons, curs, sorts, tots, ⟨some ⟨g, o, none⟩, m + 1, cc⟩⟩ : Pg).cells 29)).heap.size (W.alloc (.cells (⟨ver, regs, binds, names, cons, curs, sorts, tots, ⟨some ⟨g, o, none⟩, m + 1, cc⟩⟩ : Pg).cells 29)) wr ∧ ∀ j i, j < kk → D.code[j]? = some i → Chk (⟨ver, regs, binds, names, cons, curs, sorts, tots, ⟨some ⟨g, o, none⟩, m + 1, cc⟩⟩ : Pg) D j i))
 case atStart => exact ⟨0, by omega, rfl, Lib.hid ⟨HB2.out, fun j i hj => by omega⟩⟩
 case round =>
  obtain ⟨kk, hl, rfl, hst⟩ := hrel
  have kb := (HO.out _ hst.out.1).2.2.2
  by_cases hlk : kk < m + 1
  · have hlt' : ((kk : Int) < (m : Int) + 1) = True := by simp; omega
    obtain ⟨i, hi⟩ : ∃ i, D.code[kk]? = some i := ⟨_, List.getElem?_eq_getElem (by have := HC.out; omega)⟩
    obtain ⟨g', o', e', _, _, hd⟩ := HLen.out kk i hi
    obtain ⟨on, hon, hon2⟩ := HOps.out i (List.mem_of_getElem? hi)
    obtain ⟨io, ia, ib, ic, id⟩ := i
    injection e' with e'
    injection e' with e1' e2'
    subst e1' e2'
    have hon : io = on := hon
    subst hon
    obtain ⟨d0, d1, d2, d3, d4⟩ := hd wr (HO.out _ hst.out.1).1
    have HI := Lib.hid hi
    have HON := Lib.hid hon2
    clear hd hi hon2
    rcases shape_four on with hs | ⟨a, b, c, d, hs, ha, hb, hc, hd⟩
    · have hS : ∀ w, Below W0.heap.size W0 w → Gives 45 #[.int .u8 on] w (.string ⟨#[]⟩) := fun w hw => by
       have := HK.out.shape w hw on HON.out; rw [hs] at this; exact this
      have HS := Lib.hid hS
      have HSS := Lib.hid hs
      clear hS hs
      go_wp2_with (first
       | (go_at_call 45; refine (HS.out _ ((HO.out _ hst.out.1).2.1.new _)).mono ?_; rintro e w3 ⟨rfl, hb3⟩))
      go_ret
      refine ⟨?_, ((HO.out _ hst.out.1).1.new _).on hb3⟩
      rw [NC.out kk _ HI.out (by
       rintro ⟨a, b, c, d, h, _⟩
       have h : shapeL on = [a, b, c, d] := by simpa using h
       rw [HSS.out] at h; cases h)]
      rfl
    · have hS : ∀ w, Below W0.heap.size W0 w → Gives 45 #[.int .u8 on] w (.string ⟨#[a, b, c, d]⟩) := fun w hw => by
       have := HK.out.shape w hw on HON.out; rw [hs] at this; exact this
      have hch : Chk (⟨ver, regs, binds, names, cons, curs, sorts, tots, ⟨some ⟨g, o, none⟩, m + 1, cc⟩⟩ : Pg) D kk ⟨on, ia, ib, ic, id⟩ ↔ (fieldB (⟨ver, regs, binds, names, cons, curs, sorts, tots, ⟨some ⟨g, o, none⟩, m + 1, cc⟩⟩ : Pg) D kk a.toNat ia = true ∧ fieldB (⟨ver, regs, binds, names, cons, curs, sorts, tots, ⟨some ⟨g, o, none⟩, m + 1, cc⟩⟩ : Pg) D kk b.toNat ib = true ∧ fieldB (⟨ver, regs, binds, names, cons, curs, sorts, tots, ⟨some ⟨g, o, none⟩, m + 1, cc⟩⟩ : Pg) D kk c.toNat ic = true ∧ fieldB (⟨ver, regs, binds, names, cons, curs, sorts, tots, ⟨some ⟨g, o, none⟩, m + 1, cc⟩⟩ : Pg) D kk d.toNat id = true ∧ runsB (⟨ver, regs, binds, names, cons, curs, sorts, tots, ⟨some ⟨g, o, none⟩, m + 1, cc⟩⟩ : Pg) D kk ⟨on, ia, ib, ic, id⟩ = true) := by
       unfold Chk
       constructor
       · rintro ⟨a2, b2, c2, d2, h, hh⟩
         have h : shapeL on = [a2, b2, c2, d2] := by simpa using h
         rw [hs] at h; cases h; exact hh
       · intro h
         exact ⟨a, b, c, d, by simpa using hs, h⟩
      have HS := Lib.hid hS
      have HSS := Lib.hid hs
      have HCH := Lib.hid hch
      have HL4 := Lib.hid (And.intro ha (And.intro hb (And.intro hc hd)))
      clear hS hs hch ha hb hc hd
      go_wp2_with (first
       | (go_at_call 45; refine (HS.out _ ((HO.out _ hst.out.1).2.1.new _)).mono ?_; rintro e w3 ⟨rfl, hb3⟩
          have s3 := (hst.out.1.new (.cells #[.int .u8 on, .int .i64 ia, .int .i64 ib, .int .i64 ic, .int .i64 id] 45)).on hb3
          have ki := blk_cell ((hb3.block wr.heap.size (by rw [heap_size_alloc]; omega)).trans (heap_alloc_new wr _))
          have kp := (HO.out _ s3).2.2.2))
      go_loopg [57] 4 (fun lft i wx => ∃ k2 : Nat, k2 + lft = 4 ∧ i = .int .i64 k2 ∧ Hid (Below (W.alloc (.cells (⟨ver, regs, binds, names, cons, curs, sorts, tots, ⟨some ⟨g, o, none⟩, m + 1, cc⟩⟩ : Pg).cells 29)).heap.size (W.alloc (.cells (⟨ver, regs, binds, names, cons, curs, sorts, tots, ⟨some ⟨g, o, none⟩, m + 1, cc⟩⟩ : Pg).cells 29)) wx ∧
       (0 < k2 → fieldB (⟨ver, regs, binds, names, cons, curs, sorts, tots, ⟨some ⟨g, o, none⟩, m + 1, cc⟩⟩ : Pg) D kk a.toNat ia = true) ∧ (1 < k2 → fieldB (⟨ver, regs, binds, names, cons, curs, sorts, tots, ⟨some ⟨g, o, none⟩, m + 1, cc⟩⟩ : Pg) D kk b.toNat ib = true) ∧ (2 < k2 → fieldB (⟨ver, regs, binds, names, cons, curs, sorts, tots, ⟨some ⟨g, o, none⟩, m + 1, cc⟩⟩ : Pg) D kk c.toNat ic = true) ∧ (3 < k2 → fieldB (⟨ver, regs, binds, names, cons, curs, sorts, tots, ⟨some ⟨g, o, none⟩, m + 1, cc⟩⟩ : Pg) D kk d.toNat id = true)))
      case atStart => exact ⟨0, by omega, rfl, Lib.hid ⟨s3, fun h => by omega, fun h => by omega, fun h => by omega, fun h => by omega⟩⟩
      case round =>
       obtain ⟨k2, hl2, rfl, hx⟩ := hrel
       have kb2 := (HO.out _ hx.out.1).2.2.2
       have hk5 : k2 = 0 ∨ k2 = 1 ∨ k2 = 2 ∨ k2 = 3 ∨ k2 = 4 := by omega
       clear kb d0 d1 d2 d3 d4 ki kp
       rcases hk5 with rfl | rfl | rfl | rfl | rfl
       ·
        have x4 := fun w => (index4 ia ib ic id w).1
        have hF : ∀ w, w = wr.drew → Gives 46 #[(⟨ver, regs, binds, names, cons, curs, sorts, tots, ⟨some ⟨g, o, none⟩, m + 1, cc⟩⟩ : Pg).v, .int .i64 kk, .int .u8 a.toNat, .int .i64 ia] w (.bool (fieldB (⟨ver, regs, binds, names, cons, curs, sorts, tots, ⟨some ⟨g, o, none⟩, m + 1, cc⟩⟩ : Pg) D kk a.toNat ia)) := fun w hw => by
         subst hw
         exact HK.out.field _ ((HO.out _ hx.out.1).2.1.drew) (⟨ver, regs, binds, names, cons, curs, sorts, tots, ⟨some ⟨g, o, none⟩, m + 1, cc⟩⟩ : Pg) D ((HO.out _ hx.out.1).2.2.1.on (Below.refl _ _).drew) kk a ia HL4.out.1
        have hC := HO.out _ hx.out.1.drew
        cases hfb : fieldB (⟨ver, regs, binds, names, cons, curs, sorts, tots, ⟨some ⟨g, o, none⟩, m + 1, cc⟩⟩ : Pg) D kk a.toNat ia
        · rw [hfb] at hF
          have hno : checkE (⟨ver, regs, binds, names, cons, curs, sorts, tots, ⟨some ⟨g, o, none⟩, m + 1, cc⟩⟩ : Pg) D = 140 := NC.out kk _ HI.out fun hc => by rw [(HCH.out.1 hc).1] at hfb; cases hfb
          have HF := Lib.hid hF
          have HNO := Lib.hid hno
          have HC1 := Lib.hid hC.1
          clear hF hfb hno hC
          go_wp2_with fail
          go_region_with (first | (go_at_call 46; refine (HF.out _ rfl).mono ?_; rintro e w4 ⟨rfl, hb4⟩))
          all_goals go_wp2
          all_goals go_ret
          all_goals exact ⟨by rw [HNO.out]; rfl, HC1.out.on hb4⟩
        · rw [hfb] at hF
          have HF := Lib.hid hF
          have HFB := Lib.hid hfb
          clear hF hfb hC
          go_wp2_with fail
          go_region_with (first | (go_at_call 46; refine (HF.out _ rfl).mono ?_; rintro e w4 ⟨rfl, hb4⟩))
          all_goals go_wp2
          all_goals
           go_roundg 3
           case measure => omega
           case rel =>
            have hfb := HFB.out
            exact ⟨1, by omega, by first | rfl | go_num, Lib.hid ⟨hx.out.1.drew.on hb4, fun _ => hfb, fun h => by omega, fun h => by omega, fun h => by omega⟩⟩
       ·
        have x4 := fun w => (index4 ia ib ic id w).2.1
        have hF : ∀ w, w = wr.drew → Gives 46 #[(⟨ver, regs, binds, names, cons, curs, sorts, tots, ⟨some ⟨g, o, none⟩, m + 1, cc⟩⟩ : Pg).v, .int .i64 kk, .int .u8 b.toNat, .int .i64 ib] w (.bool (fieldB (⟨ver, regs, binds, names, cons, curs, sorts, tots, ⟨some ⟨g, o, none⟩, m + 1, cc⟩⟩ : Pg) D kk b.toNat ib)) := fun w hw => by
         subst hw
         exact HK.out.field _ ((HO.out _ hx.out.1).2.1.drew) (⟨ver, regs, binds, names, cons, curs, sorts, tots, ⟨some ⟨g, o, none⟩, m + 1, cc⟩⟩ : Pg) D ((HO.out _ hx.out.1).2.2.1.on (Below.refl _ _).drew) kk b ib HL4.out.2.1
        have hC := HO.out _ hx.out.1.drew
        cases hfb : fieldB (⟨ver, regs, binds, names, cons, curs, sorts, tots, ⟨some ⟨g, o, none⟩, m + 1, cc⟩⟩ : Pg) D kk b.toNat ib
        · rw [hfb] at hF
          have hno : checkE (⟨ver, regs, binds, names, cons, curs, sorts, tots, ⟨some ⟨g, o, none⟩, m + 1, cc⟩⟩ : Pg) D = 140 := NC.out kk _ HI.out fun hc => by rw [(HCH.out.1 hc).2.1] at hfb; cases hfb
          have HF := Lib.hid hF
          have HNO := Lib.hid hno
          have HC1 := Lib.hid hC.1
          clear hF hfb hno hC
          go_wp2_with fail
          go_region_with (first | (go_at_call 46; refine (HF.out _ rfl).mono ?_; rintro e w4 ⟨rfl, hb4⟩))
          all_goals go_wp2
          all_goals go_ret
          all_goals exact ⟨by rw [HNO.out]; rfl, HC1.out.on hb4⟩
        · rw [hfb] at hF
          have HF := Lib.hid hF
          have HFB := Lib.hid hfb
          clear hF hfb hC
          go_wp2_with fail
          go_region_with (first | (go_at_call 46; refine (HF.out _ rfl).mono ?_; rintro e w4 ⟨rfl, hb4⟩))
          all_goals go_wp2
          all_goals
           go_roundg 2
           case measure => omega
           case rel =>
            have hfb := HFB.out
            exact ⟨2, by omega, by first | rfl | go_num, Lib.hid ⟨hx.out.1.drew.on hb4, fun _ => hx.out.2.1 (by omega), fun _ => hfb, fun h => by omega, fun h => by omega⟩⟩
       ·
        have x4 := fun w => (index4 ia ib ic id w).2.2.1
        have hF : ∀ w, w = wr.drew → Gives 46 #[(⟨ver, regs, binds, names, cons, curs, sorts, tots, ⟨some ⟨g, o, none⟩, m + 1, cc⟩⟩ : Pg).v, .int .i64 kk, .int .u8 c.toNat, .int .i64 ic] w (.bool (fieldB (⟨ver, regs, binds, names, cons, curs, sorts, tots, ⟨some ⟨g, o, none⟩, m + 1, cc⟩⟩ : Pg) D kk c.toNat ic)) := fun w hw => by
         subst hw
         exact HK.out.field _ ((HO.out _ hx.out.1).2.1.drew) (⟨ver, regs, binds, names, cons, curs, sorts, tots, ⟨some ⟨g, o, none⟩, m + 1, cc⟩⟩ : Pg) D ((HO.out _ hx.out.1).2.2.1.on (Below.refl _ _).drew) kk c ic HL4.out.2.2.1
        have hC := HO.out _ hx.out.1.drew
        cases hfb : fieldB (⟨ver, regs, binds, names, cons, curs, sorts, tots, ⟨some ⟨g, o, none⟩, m + 1, cc⟩⟩ : Pg) D kk c.toNat ic
        · rw [hfb] at hF
          have hno : checkE (⟨ver, regs, binds, names, cons, curs, sorts, tots, ⟨some ⟨g, o, none⟩, m + 1, cc⟩⟩ : Pg) D = 140 := NC.out kk _ HI.out fun hc => by rw [(HCH.out.1 hc).2.2.1] at hfb; cases hfb
          have HF := Lib.hid hF
          have HNO := Lib.hid hno
          have HC1 := Lib.hid hC.1
          clear hF hfb hno hC
          go_wp2_with fail
          go_region_with (first | (go_at_call 46; refine (HF.out _ rfl).mono ?_; rintro e w4 ⟨rfl, hb4⟩))
          all_goals go_wp2
          all_goals go_ret
          all_goals exact ⟨by rw [HNO.out]; rfl, HC1.out.on hb4⟩
        · rw [hfb] at hF
          have HF := Lib.hid hF
          have HFB := Lib.hid hfb
          clear hF hfb hC
          go_wp2_with fail
          go_region_with (first | (go_at_call 46; refine (HF.out _ rfl).mono ?_; rintro e w4 ⟨rfl, hb4⟩))
          all_goals go_wp2
          all_goals
           go_roundg 1
           case measure => omega
           case rel =>
            have hfb := HFB.out
            exact ⟨3, by omega, by first | rfl | go_num, Lib.hid ⟨hx.out.1.drew.on hb4, fun _ => hx.out.2.1 (by omega), fun _ => hx.out.2.2.1 (by omega), fun _ => hfb, fun h => by omega⟩⟩
       ·
        have x4 := fun w => (index4 ia ib ic id w).2.2.2
        have hF : ∀ w, w = wr.drew → Gives 46 #[(⟨ver, regs, binds, names, cons, curs, sorts, tots, ⟨some ⟨g, o, none⟩, m + 1, cc⟩⟩ : Pg).v, .int .i64 kk, .int .u8 d.toNat, .int .i64 id] w (.bool (fieldB (⟨ver, regs, binds, names, cons, curs, sorts, tots, ⟨some ⟨g, o, none⟩, m + 1, cc⟩⟩ : Pg) D kk d.toNat id)) := fun w hw => by
         subst hw
         exact HK.out.field _ ((HO.out _ hx.out.1).2.1.drew) (⟨ver, regs, binds, names, cons, curs, sorts, tots, ⟨some ⟨g, o, none⟩, m + 1, cc⟩⟩ : Pg) D ((HO.out _ hx.out.1).2.2.1.on (Below.refl _ _).drew) kk d id HL4.out.2.2.2
        have hC := HO.out _ hx.out.1.drew
        cases hfb : fieldB (⟨ver, regs, binds, names, cons, curs, sorts, tots, ⟨some ⟨g, o, none⟩, m + 1, cc⟩⟩ : Pg) D kk d.toNat id
        · rw [hfb] at hF
          have hno : checkE (⟨ver, regs, binds, names, cons, curs, sorts, tots, ⟨some ⟨g, o, none⟩, m + 1, cc⟩⟩ : Pg) D = 140 := NC.out kk _ HI.out fun hc => by rw [(HCH.out.1 hc).2.2.2.1] at hfb; cases hfb
          have HF := Lib.hid hF
          have HNO := Lib.hid hno
          have HC1 := Lib.hid hC.1
          clear hF hfb hno hC
          go_wp2_with fail
          go_region_with (first | (go_at_call 46; refine (HF.out _ rfl).mono ?_; rintro e w4 ⟨rfl, hb4⟩))
          all_goals go_wp2
          all_goals go_ret
          all_goals exact ⟨by rw [HNO.out]; rfl, HC1.out.on hb4⟩
        · rw [hfb] at hF
          have HF := Lib.hid hF
          have HFB := Lib.hid hfb
          clear hF hfb hC
          go_wp2_with fail
          go_region_with (first | (go_at_call 46; refine (HF.out _ rfl).mono ?_; rintro e w4 ⟨rfl, hb4⟩))
          all_goals go_wp2
          all_goals
           go_roundg 0
           case measure => omega
           case rel =>
            have hfb := HFB.out
            exact ⟨4, by omega, by first | rfl | go_num, Lib.hid ⟨hx.out.1.drew.on hb4, fun _ => hx.out.2.1 (by omega), fun _ => hx.out.2.2.1 (by omega), fun _ => hx.out.2.2.2.1 (by omega), fun _ => hfb⟩⟩
       ·
        have hR : ∀ w, w = wr → Gives 47 #[(⟨ver, regs, binds, names, cons, curs, sorts, tots, ⟨some ⟨g, o, none⟩, m + 1, cc⟩⟩ : Pg).v, .int .i64 kk] w (.bool (runsB (⟨ver, regs, binds, names, cons, curs, sorts, tots, ⟨some ⟨g, o, none⟩, m + 1, cc⟩⟩ : Pg) D kk ⟨on, ia, ib, ic, id⟩)) := fun w hw => by
         subst hw
         have hsl := HSS.out
         refine runs_all W0 HK.out.func (⟨ver, regs, binds, names, cons, curs, sorts, tots, ⟨some ⟨g, o, none⟩, m + 1, cc⟩⟩ : Pg) D _ (HO.out _ hx.out.1).2.1 (HO.out _ hx.out.1).2.2.1 kk on ia ib ic id HI.out (fun h => ?_) (fun h => ?_) (fun h => ?_)
         · subst h; cases hsl; exact hx.out.2.2.2.2 (by omega)
         · subst h; cases hsl; exact hx.out.2.2.1 (by omega)
         · subst h; cases hsl; exact hx.out.2.1 (by omega)
        have hC := HO.out _ hx.out.1
        cases hrb : runsB (⟨ver, regs, binds, names, cons, curs, sorts, tots, ⟨some ⟨g, o, none⟩, m + 1, cc⟩⟩ : Pg) D kk ⟨on, ia, ib, ic, id⟩
        · rw [hrb] at hR
          have hno : checkE (⟨ver, regs, binds, names, cons, curs, sorts, tots, ⟨some ⟨g, o, none⟩, m + 1, cc⟩⟩ : Pg) D = 140 := NC.out kk _ HI.out fun hc => by rw [(HCH.out.1 hc).2.2.2.2] at hrb; cases hrb
          have HR := Lib.hid hR
          have HNO := Lib.hid hno
          have HC1 := Lib.hid hC.1
          clear hR hrb hno hC
          go_wp2_with (first | (go_at_call 47; refine (HR.out _ rfl).mono ?_; rintro e w4 ⟨rfl, hb4⟩))
          go_ret
          exact ⟨by rw [HNO.out]; rfl, HC1.out.on hb4⟩
        · rw [hrb] at hR
          have hck : Chk (⟨ver, regs, binds, names, cons, curs, sorts, tots, ⟨some ⟨g, o, none⟩, m + 1, cc⟩⟩ : Pg) D kk ⟨on, ia, ib, ic, id⟩ := HCH.out.2 ⟨hx.out.2.1 (by omega), hx.out.2.2.1 (by omega), hx.out.2.2.2.1 (by omega), hx.out.2.2.2.2 (by omega), hrb⟩
          have HR := Lib.hid hR
          have HCK := Lib.hid hck
          clear hR hrb hck hC
          go_wp2_with (first | (go_at_call 47; refine (HR.out _ rfl).mono ?_; rintro e w4 ⟨rfl, hb4⟩))
          go_roundg (m - kk)
          case measure => omega
          case rel =>
           refine ⟨kk + 1, by omega, by first | rfl | go_num, Lib.hid ⟨hx.out.1.on hb4, fun j i hj hi => ?_⟩⟩
           by_cases hjk : j = kk
           · subst hjk
             rw [HI.out] at hi; cases hi; exact HCK.out
           · exact hst.out.2 j i (by omega) hi
  · have hlt' : ((kk : Int) < (m : Int) + 1) = False := by simp; omega
    have hok : checkE (⟨ver, regs, binds, names, cons, curs, sorts, tots, ⟨some ⟨g, o, none⟩, m + 1, cc⟩⟩ : Pg) D = 0 := YS.out HPT.out HLE.out HLO.out fun j i hj => hst.out.2 j i (by
     have := (List.getElem?_eq_some_iff.1 hj).1
     have h2 : m + 1 = D.code.length := HC.out
     omega) hj
    have HOK := Lib.hid hok
    clear hok
    go_wp2
    go_ret
    exact ⟨by rw [HOK.out]; rfl, (HO.out _ hst.out.1).1⟩
end Go.Proofs.Vf
