/- The program's verify, flow and code, followed by hand: part 3. -/
import Derived.Test.YtmdcccegkamhaaaGreatDoorP2
set_option maxHeartbeats 4000000
set_option maxRecDepth 100000
set_option linter.unusedSectionVars false
set_option linter.unusedVariables false
set_option linter.unusedSimpArgs false
namespace Go.Proofs.Vf
open Go Go.Proofs Go.RowKit Go.Lib
def shapeL : Nat → List UInt8
 | 1 => [114, 107, 45, 45]
 | 2 => [114, 98, 45, 45]
 | 3 => [114, 114, 45, 45]
 | 4 => [114, 114, 114, 50]
 | 5 => [114, 114, 45, 49]
 | 6 => [114, 114, 45, 49]
 | 7 => [114, 114, 45, 49]
 | 8 => [114, 114, 109, 102]
 | 9 => [114, 45, 45, 49]
 | 10 => [106, 45, 45, 45]
 | 11 => [106, 114, 45, 45]
 | 12 => [106, 114, 114, 109]
 | 13 => [99, 106, 45, 45]
 | 14 => [105, 106, 114, 109]
 | 15 => [99, 110, 45, 45]
 | 16 => [105, 106, 114, 109]
 | 17 => [108, 106, 114, 45]
 | 18 => [114, 99, 120, 45]
 | 19 => [114, 99, 45, 45]
 | 20 => [115, 114, 114, 45]
 | 21 => [115, 106, 45, 45]
 | 22 => [115, 110, 45, 45]
 | 23 => [114, 115, 120, 45]
 | 24 => [116, 45, 45, 45]
 | 25 => [116, 114, 45, 45]
 | 26 => [114, 116, 45, 45]
 | 27 => [114, 45, 45, 45]
 | 28 => [114, 119, 45, 45]
 | 29 => [119, 114, 114, 45]
 | 30 => [119, 114, 45, 45]
 | 31 => [113, 45, 45, 45]
 | 32 => [45, 45, 45, 45]
 | 33 => [45, 45, 45, 45]
 | 34 => [45, 45, 45, 45]
 | 35 => [45, 45, 45, 45]
 | _ => []
def ShapeOK (W0 : World) : Prop := ∀ w, Below W0.heap.size W0 w → ∀ o : Nat, o < 256 → Gives 45 #[.int .u8 o] w (.string ⟨(shapeL o).toArray⟩)
def funcL : Nat → List UInt8
 | 0 => [108, 101, 110, 103, 116, 104]
 | 1 => [117, 112, 112, 101, 114]
 | 2 => [108, 111, 119, 101, 114]
 | 3 => [97, 98, 115]
 | 4 => [116, 121, 112, 101, 111, 102]
 | 5 => [104, 101, 120]
 | 6 => [105, 102, 110, 117, 108, 108]
 | 7 => [105, 110, 115, 116, 114]
 | 8 => [115, 117, 98, 115, 116, 114]
 | 9 => [99, 111, 97, 108, 101, 115, 99, 101]
 | _ => []
def FuncOK (W0 : World) : Prop := ∀ w, Below W0.heap.size W0 w → ∀ d : Nat, d < 10 → Gives 105 #[.int .i64 d] w (.tuple #[.string ⟨(funcL d).toArray⟩, .bool true])
def knownF (s : List UInt8) (n : Int) : Bool :=
 if s == [108, 101, 110, 103, 116, 104] || s == [117, 112, 112, 101, 114] || s == [108, 111, 119, 101, 114] || s == [97, 98, 115] || s == [116, 121, 112, 101, 111, 102] || s == [104, 101, 120] then n == 1
 else if s == [105, 102, 110, 117, 108, 108] || s == [105, 110, 115, 116, 114] then n == 2
 else if s == [115, 117, 98, 115, 116, 114] then n == 2 || n == 3
 else if s == [99, 111, 97, 108, 101, 115, 99, 101] then decide (2 ≤ n) && decide (n ≤ 100)
 else false
theorem knownF_any (s : ByteArray) (n : Int) (W : World) : Tells 106 #[.string s, .int .i64 n] W (.bool (knownF s.toList n)) := by
 unfold Tells
 go_enter Tryz.func106, Tryz.ntmps106
 go_wp2
 all_goals go_ret
 all_goals refine ⟨?_, rfl⟩
 all_goals first | (simp_all [knownF]; done) | (simp_all [knownF]; intros; omega) | (simp_all [knownF]; omega)
def fitsB (regs frm many : Int) : Bool := decide (many ≤ wrap64 (regs - frm))
theorem fits_any (p : Pg) (k : Nat) (frm many : Int) (W : World) (hk : W.heap[k]? = some (.cells p.cells 29)) : Tells 104 #[.int .i64 frm, .int .i64 many, .pointer (some ⟨k, 0, none⟩)] W (.bool (fitsB p.regs frm many)) := by
 have c1 := blk_cell hk
 unfold Tells
 go_enter Tryz.func104, Tryz.ntmps104
 go_wp2
 all_goals go_ret
 exact ⟨rfl, rfl⟩
def srtN (D : Dat) (k : Int) : Int := match D.sorts[k.toNat]? with
 | some x => x.n
 | none => 0
def srtD (D : Dat) (k : Int) : Int := match D.sorts[k.toNat]? with
 | some x => x.d.n
 | none => 0
def runsB (p : Pg) (D : Dat) (at_ : Int) (i : Ins) : Bool :=
 if i.o == 8 then decide (i.c ≤ 100) && fitsB p.regs i.b i.c && knownF (funcL i.d.toNat) i.c
 else if i.o == 12 then fitsB p.regs i.b i.d && fitsB p.regs i.c i.d
 else if i.o == 14 || i.o == 16 then fitsB p.regs i.c i.d
 else if i.o == 18 then decide (i.c < 30)
 else if i.o == 23 then decide (i.c < srtN D i.b)
 else if i.o == 20 then fitsB p.regs i.b (srtD D i.a) && fitsB p.regs i.c (srtN D i.a)
 else if i.o == 27 then fitsB p.regs i.a p.names.n
 else if i.o == 31 || i.o == 32 || i.o == 33 || i.o == 34 then at_ == 0 && (p.code.n : Int) == 2
 else true
theorem below_two (W : World) (a b : Obj) : Below W.heap.size W ((W.alloc a).alloc b) := (two_blocks W a b).1
theorem runs_8 (W0 : World) (hF : FuncOK W0) (p : Pg) (D : Dat) (W : World) (hW : Below W0.heap.size W0 W) (hp : Has W p D) (at_ : Nat) (ia ib ic : Int) (d : Nat) (hd : d < 10) (hi : D.code[at_]? = some ⟨8, ia, ib, ic, d⟩) :
 Gives 47 #[p.v, .int .i64 at_] W (.bool (runsB p D at_ ⟨8, ia, ib, ic, d⟩)) := by
 obtain ⟨g, o, e1, hg, hlt, hc⟩ := hp.ins hi
 obtain ⟨ver, regs, binds, names, cons, curs, sorts, tots, ⟨ca, cn, cc⟩⟩ := p
 have e1 : ca = some ⟨g, o, none⟩ := e1
 have hlt : at_ < cn := hlt
 have hsm : cn ≤ 9223372036854775807 := hp.code.small
 subst e1
 have d0 : ∀ o', (W.alloc o').cell? ⟨g, o + at_ * 5, none⟩ = some (.int .u8 8) := fun o' => (hc _ (Below.one W o')).1
 have d1 : ∀ o', (W.alloc o').cell? ⟨g, o + at_ * 5 + 1, none⟩ = some (.int .i64 ia) := fun o' => (hc _ (Below.one W o')).2.1
 have d2 : ∀ o', (W.alloc o').cell? ⟨g, o + at_ * 5 + 2, none⟩ = some (.int .i64 ib) := fun o' => (hc _ (Below.one W o')).2.2.1
 have d3 : ∀ o', (W.alloc o').cell? ⟨g, o + at_ * 5 + 3, none⟩ = some (.int .i64 ic) := fun o' => (hc _ (Below.one W o')).2.2.2.1
 have d4 : ∀ o', (W.alloc o').cell? ⟨g, o + at_ * 5 + 4, none⟩ = some (.int .i64 (d : Int)) := fun o' => (hc _ (Below.one W o')).2.2.2.2
 have two := two_blocks W (.cells (⟨ver, regs, binds, names, cons, curs, sorts, tots, ⟨some ⟨g, o, none⟩, cn, cc⟩⟩ : Pg).cells 29) (.cells #[.int .u8 8, .int .i64 ia, .int .i64 ib, .int .i64 ic, .int .i64 (d : Int)] 45)
 have HT := Lib.hid two
 have HF := Lib.hid hF
 have HW := Lib.hid hW
 have HD := Lib.hid hd
 clear hp hF hW hd hi hc two
 have hmf : ∀ (fn : Fn) (first cap : Array Value) (w : World), (Instr.makeFunc fn first cap).run Tryz.prog w = .ok (.func fn first cap) w := fun _ _ _ _ => rfl
 unfold Gives
 go_enter Tryz.func47, Tryz.ntmps47
 go_wp2_with (first
  | (go_at_call 105
     refine (HF.out _ (HW.out.on HT.out.1) d HD.out).mono ?_
     rintro e w2 ⟨rfl, hb2⟩
     have z3 := (hb2.block W.heap.size (by rw [HT.out.2.1]; omega)).trans HT.out.2.2.1
     have k1 := blk_cell z3
     have k2 := blk_cell ((hb2.block (W.heap.size + 1) (by rw [HT.out.2.1]; omega)).trans HT.out.2.2.2))
  | (go_at_call 104; refine (fits_any (⟨ver, regs, binds, names, cons, curs, sorts, tots, ⟨some ⟨g, o, none⟩, cn, cc⟩⟩ : Pg) _ _ _ _ z3).mono ?_; rintro e w3 ⟨rfl, rfl⟩)
  | (go_at_call 106; refine (knownF_any _ _ _).mono ?_; rintro e w3 ⟨rfl, rfl⟩))
 all_goals go_ret
 all_goals refine ⟨?_, HT.out.1.on hb2⟩
 all_goals clear HT HF HW HD
 all_goals first | (simp_all [runsB]; done) | (simp_all [runsB]; intros; omega) | (simp_all [runsB]; omega)
theorem runs_rest (p : Pg) (D : Dat) (W : World) (hp : Has W p D) (at_ : Nat) (io ia ib ic id : Int) (hi : D.code[at_]? = some ⟨io, ia, ib, ic, id⟩) (h8 : io ≠ 8) (h23 : io ≠ 23) (h20 : io ≠ 20) :
 Gives 47 #[p.v, .int .i64 at_] W (.bool (runsB p D at_ ⟨io, ia, ib, ic, id⟩)) := by
 obtain ⟨g, o, e1, hg, hlt, hc⟩ := hp.ins hi
 obtain ⟨ver, regs, binds, names, cons, curs, sorts, tots, ⟨ca, cn, cc⟩⟩ := p
 have e1 : ca = some ⟨g, o, none⟩ := e1
 have hlt : at_ < cn := hlt
 have hsm : cn ≤ 9223372036854775807 := hp.code.small
 subst e1
 have d0 : ∀ o', (W.alloc o').cell? ⟨g, o + at_ * 5, none⟩ = some (.int .u8 io) := fun o' => (hc _ (Below.one W o')).1
 have d1 : ∀ o', (W.alloc o').cell? ⟨g, o + at_ * 5 + 1, none⟩ = some (.int .i64 ia) := fun o' => (hc _ (Below.one W o')).2.1
 have d2 : ∀ o', (W.alloc o').cell? ⟨g, o + at_ * 5 + 2, none⟩ = some (.int .i64 ib) := fun o' => (hc _ (Below.one W o')).2.2.1
 have d3 : ∀ o', (W.alloc o').cell? ⟨g, o + at_ * 5 + 3, none⟩ = some (.int .i64 ic) := fun o' => (hc _ (Below.one W o')).2.2.2.1
 have d4 : ∀ o', (W.alloc o').cell? ⟨g, o + at_ * 5 + 4, none⟩ = some (.int .i64 id) := fun o' => (hc _ (Below.one W o')).2.2.2.2
 have two := two_blocks W (.cells (⟨ver, regs, binds, names, cons, curs, sorts, tots, ⟨some ⟨g, o, none⟩, cn, cc⟩⟩ : Pg).cells 29) (.cells #[.int .u8 io, .int .i64 ia, .int .i64 ib, .int .i64 ic, .int .i64 id] 45)
 have x8 : (io == 8) = false := by simpa using h8
 have x23 : (io == 23) = false := by simpa using h23
 have x20 : (io == 20) = false := by simpa using h20
 have HT := Lib.hid two
 clear hp hi hc two h8 h23 h20
 have hmf : ∀ (fn : Fn) (first cap : Array Value) (w : World), (Instr.makeFunc fn first cap).run Tryz.prog w = .ok (.func fn first cap) w := fun _ _ _ _ => rfl
 unfold Gives
 go_enter Tryz.func47, Tryz.ntmps47
 go_wp2_with (first
  | (go_at_call 104; refine (fits_any (⟨ver, regs, binds, names, cons, curs, sorts, tots, ⟨some ⟨g, o, none⟩, cn, cc⟩⟩ : Pg) _ _ _ _ HT.out.2.2.1).mono ?_; rintro e w3 ⟨rfl, rfl⟩))
 all_goals go_ret
 all_goals refine ⟨?_, HT.out.1⟩
 all_goals clear HT
 all_goals first | (simp_all [runsB]; done) | (simp_all [runsB]; intros; omega) | (simp_all [runsB]; omega)
theorem runs_23 (p : Pg) (D : Dat) (W : World) (hp : Has W p D) (at_ : Nat) (ia : Int) (b : Nat) (ic id : Int) (x : Srt) (hx : D.sorts[b]? = some x) (hi : D.code[at_]? = some ⟨23, ia, b, ic, id⟩) :
 Gives 47 #[p.v, .int .i64 at_] W (.bool (runsB p D at_ ⟨23, ia, b, ic, id⟩)) := by
 obtain ⟨g2, o2, e2, hg2, hlt2, hc2⟩ := hp.srt hx
 have hss : p.sorts.n ≤ 9223372036854775807 := hp.sorts.small
 obtain ⟨g, o, e1, hg, hlt, hc⟩ := hp.ins hi
 obtain ⟨ver, regs, binds, names, cons, curs, ⟨sa, sn, sc⟩, tots, ⟨ca, cn, cc⟩⟩ := p
 have e2 : sa = some ⟨g2, o2, none⟩ := e2
 have hlt2 : b < sn := hlt2
 have hss : sn ≤ 9223372036854775807 := hss
 subst e2
 have e1 : ca = some ⟨g, o, none⟩ := e1
 have hlt : at_ < cn := hlt
 have hsm : cn ≤ 9223372036854775807 := hp.code.small
 subst e1
 have d0 : ∀ o', (W.alloc o').cell? ⟨g, o + at_ * 5, none⟩ = some (.int .u8 23) := fun o' => (hc _ (Below.one W o')).1
 have d1 : ∀ o', (W.alloc o').cell? ⟨g, o + at_ * 5 + 1, none⟩ = some (.int .i64 ia) := fun o' => (hc _ (Below.one W o')).2.1
 have d2 : ∀ o', (W.alloc o').cell? ⟨g, o + at_ * 5 + 2, none⟩ = some (.int .i64 (b : Int)) := fun o' => (hc _ (Below.one W o')).2.2.1
 have d3 : ∀ o', (W.alloc o').cell? ⟨g, o + at_ * 5 + 3, none⟩ = some (.int .i64 ic) := fun o' => (hc _ (Below.one W o')).2.2.2.1
 have d4 : ∀ o', (W.alloc o').cell? ⟨g, o + at_ * 5 + 4, none⟩ = some (.int .i64 id) := fun o' => (hc _ (Below.one W o')).2.2.2.2
 have two := two_blocks W (.cells (⟨ver, regs, binds, names, cons, curs, ⟨some ⟨g2, o2, none⟩, sn, sc⟩, tots, ⟨some ⟨g, o, none⟩, cn, cc⟩⟩ : Pg).cells 29) (.cells #[.int .u8 23, .int .i64 ia, .int .i64 (b : Int), .int .i64 ic, .int .i64 id] 45)
 have s1 : ∀ a b', ((W.alloc a).alloc b').cell? ⟨g2, o2 + b * 3 + 1, none⟩ = some (.int .i64 x.n) := fun a b' => (hc2 _ (below_two W a b')).2.1
 have hN : srtN D b = x.n := by unfold srtN; rw [Int.toNat_natCast, hx]
 have HT := Lib.hid two
 clear hp hi hc two hc2 hx
 have hmf : ∀ (fn : Fn) (first cap : Array Value) (w : World), (Instr.makeFunc fn first cap).run Tryz.prog w = .ok (.func fn first cap) w := fun _ _ _ _ => rfl
 unfold Gives
 go_enter Tryz.func47, Tryz.ntmps47
 go_wp2
 go_region
 all_goals go_wp2
 all_goals go_ret
 all_goals refine ⟨?_, HT.out.1.drew⟩
 all_goals clear HT
 all_goals simp_all [runsB]
end Go.Proofs.Vf
