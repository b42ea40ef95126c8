/- The program's verify, flow and code, followed by hand: part 1. -/
import Derived.Test.YtmdcccegkamhaaaGreatDoorProg
import Derived.WalkKit
import Derived.Lib.Walk
import Derived.Deep.QuietTactic
import Derived.BigQuiet
import Derived.Lib.Hide
import Derived.Deep.LoopGhost
import Derived.Lib.SliceRun
import Derived.Laws.AppendOwn
import Derived.Laws.Rows
import Derived.Laws.StructEq
import Derived.Deep.RegionWith
import Derived.Deep.DrawnRows
import Derived.Deep.RegionLaw
import Derived.Deep.AppendLies
set_option maxHeartbeats 4000000
set_option maxRecDepth 100000
set_option linter.unusedSectionVars false
set_option linter.unusedVariables false
set_option linter.unusedSimpArgs false
namespace Go.Proofs.Vf
open Go Go.Proofs Go.RowKit Go.Lib
structure Below (B : Nat) (w w' : World) : Prop where
 os : w'.os = w.os
 output : w'.output = w.output
 size : w.heap.size ≤ w'.heap.size
 block : ∀ k, k < B → w'.heap[k]? = w.heap[k]?
theorem Below.refl (B : Nat) (w : World) : Below B w w := ⟨rfl, rfl, Nat.le_refl _, fun _ _ => rfl⟩
theorem Below.trans {B : Nat} {a b c : World} (h : Below B a b) (k : Below B b c) : Below B a c :=
 ⟨k.os.trans h.os, k.output.trans h.output, Nat.le_trans h.size k.size, fun i hi => (k.block i hi).trans (h.block i hi)⟩
theorem Below.mono {B B' : Nat} {w w' : World} (h : Below B w w') (hB : B' ≤ B) : Below B' w w' := ⟨h.os, h.output, h.size, fun k hk => h.block k (Nat.lt_of_lt_of_le hk hB)⟩
theorem Below.drew {B : Nat} {a w : World} (h : Below B a w) : Below B a w.drew := ⟨h.os, h.output, h.size, h.block⟩
theorem Below.drewN {B : Nat} {a w : World} (h : Below B a w) (n : Nat) : Below B a (w.drewN n) := ⟨h.os, h.output, h.size, h.block⟩
theorem Below.heap_alloc (w : World) (o : Obj) (k : Nat) (h : k < w.heap.size) : (w.alloc o).heap[k]? = w.heap[k]? := Go.RowKit.Below.heap_alloc w o k h
theorem Below.alloc {B : Nat} {a w : World} (h : Below B a w) (hB : B ≤ w.heap.size) (o : Obj) : Below B a (w.alloc o) :=
 h.trans ⟨rfl, rfl, by simp, fun k hk => Go.RowKit.Below.heap_alloc _ _ _ (by omega)⟩
theorem Below.setCell {B : Nat} {a w : World} (h : Below B a w) {p : Addr} (hp : B ≤ p.block) (u : Value) : Below B a (w.setCell p u) :=
 h.trans ⟨rfl, rfl, by simp [World.setCell], fun k hk => Go.RowKit.Below.heap_setCell _ _ _ _ (by omega)⟩
theorem Below.grown {B : Nat} {a w w' : World} {row : Option Nat} (h : Below B a w) (hg : w.grownBy w' row) (hB : B ≤ w.heap.size) (hr : ∀ k, row = some k → B ≤ k) : Below B a w' :=
 h.trans ⟨hg.os, hg.output, hg.size, fun k hk => hg.block k (by omega) (fun e => by have := hr k e.symm; omega)⟩
theorem Below.cell {B : Nat} {w w' : World} (h : Below B w w') {p : Addr} (hp : p.block < B) : w'.cell? p = w.cell? p := World.cell?_of_block (w := w) (h.block p.block hp)
theorem Below.on {W0 w w' : World} (h : Below W0.heap.size W0 w) (k : Below w.heap.size w w') : Below W0.heap.size W0 w' := h.trans (k.mono h.size)
theorem Below.new {W0 w : World} (h : Below W0.heap.size W0 w) (o : Obj) : Below W0.heap.size W0 (w.alloc o) := h.alloc h.size o
theorem Below.one (w : World) (o : Obj) : Below w.heap.size w (w.alloc o) := (Below.refl _ w).alloc (Nat.le_refl _) o
theorem blk_cell {w : World} {b : Nat} {vals : Array Value} {t : TypeId} (h : w.heap[b]? = some (.cells vals t (0, 0))) : ∀ j, w.cell? ⟨b, j, none⟩ = vals[j]? := by
 intro j; simp [World.cell?, h]
theorem blk_frozen {w : World} {b : Nat} {vals : Array Value} {t : TypeId} (h : w.heap[b]? = some (.cells vals t (0, 0))) : ∀ j, w.frozen? ⟨b, j, none⟩ = false := by
 intro j; simp [World.frozen?, h]
structure Sl where (a : Option Addr) (n c : Nat)
abbrev Sl.v (s : Sl) : Value := .slice s.a s.n s.c
structure Con where (k n : Int) (s : ByteArray)
structure Cur where (s : ByteArray) (i w : Bool)
structure Srt where (d : Sl) (n : Int) (u : Bool)
structure Tot where (s : ByteArray) (u : Bool)
structure Ins where (o a b c d : Int)
abbrev Con.cells (x : Con) : List Value := [.int .u8 x.k, .int .i64 x.n, .string x.s]
abbrev Cur.cells (x : Cur) : List Value := [.string x.s, .bool x.i, .bool x.w]
abbrev Srt.cells (x : Srt) : List Value := [.slice x.d.a x.d.n x.d.c, .int .i64 x.n, .bool x.u]
abbrev Tot.cells (x : Tot) : List Value := [.string x.s, .bool x.u]
abbrev Ins.cells (x : Ins) : List Value := [.int .u8 x.o, .int .i64 x.a, .int .i64 x.b, .int .i64 x.c, .int .i64 x.d]
abbrev Con.v (x : Con) : Value := .agg #[.int .u8 x.k, .int .i64 x.n, .string x.s]
abbrev Cur.v (x : Cur) : Value := .agg #[.string x.s, .bool x.i, .bool x.w]
abbrev Srt.v (x : Srt) : Value := .agg #[.slice x.d.a x.d.n x.d.c, .int .i64 x.n, .bool x.u]
abbrev Tot.v (x : Tot) : Value := .agg #[.string x.s, .bool x.u]
abbrev Ins.v (x : Ins) : Value := .agg #[.int .u8 x.o, .int .i64 x.a, .int .i64 x.b, .int .i64 x.c, .int .i64 x.d]
structure Pg where
 (ver regs binds : Int) (names cons curs sorts tots code : Sl)
abbrev Pg.cells (p : Pg) : Array Value := #[.int .i64 p.ver, .int .i64 p.regs, .int .i64 p.binds, .slice p.names.a p.names.n p.names.c, .slice p.cons.a p.cons.n p.cons.c, .slice p.curs.a p.curs.n p.curs.c, .slice p.sorts.a p.sorts.n p.sorts.c, .slice p.tots.a p.tots.n p.tots.c, .slice p.code.a p.code.n p.code.c]
abbrev Pg.v (p : Pg) : Value := .agg #[.int .i64 p.ver, .int .i64 p.regs, .int .i64 p.binds, .slice p.names.a p.names.n p.names.c, .slice p.cons.a p.cons.n p.cons.c, .slice p.curs.a p.curs.n p.curs.c, .slice p.sorts.a p.sorts.n p.sorts.c, .slice p.tots.a p.tots.n p.tots.c, .slice p.code.a p.code.n p.code.c]
structure Lst {α : Type} (W : World) (s : Sl) (sz : Nat) (f : α → List Value) (l : List α) : Prop where
 len : s.n = l.length
 small : s.n ≤ 9223372036854775807
 at' : ∀ i x, l[i]? = some x → ∃ g o, s.a = some ⟨g, o, none⟩ ∧ g < W.heap.size ∧ ∀ j, j < sz → W.cell? ⟨g, o + i * sz + j, none⟩ = (f x)[j]?
theorem Lst.on {α : Type} {W w : World} {s : Sl} {sz : Nat} {f : α → List Value} {l : List α} (h : Lst W s sz f l) (hb : Below W.heap.size W w) : Lst w s sz f l :=
 ⟨h.len, h.small, fun i x hx => by
  obtain ⟨g, o, h1, h2, h3⟩ := h.at' i x hx
  exact ⟨g, o, h1, Nat.lt_of_lt_of_le h2 hb.size, fun j hj => (hb.cell (p := ⟨g, o + i * sz + j, none⟩) h2).trans (h3 j hj)⟩⟩
abbrev strC (s : ByteArray) : List Value := [.string s]
abbrev boolC (b : Bool) : List Value := [.bool b]
abbrev intC (n : Int) : List Value := [.int .i64 n]
structure Dat where
 names : List ByteArray
 cons : List Con
 curs : List Cur
 sorts : List Srt
 tots : List Tot
 code : List Ins
structure Has (W : World) (p : Pg) (D : Dat) : Prop where
 names : Lst W p.names 1 strC D.names
 cons : Lst W p.cons 3 Con.cells D.cons
 curs : Lst W p.curs 3 Cur.cells D.curs
 sorts : Lst W p.sorts 3 Srt.cells D.sorts
 tots : Lst W p.tots 2 Tot.cells D.tots
 code : Lst W p.code 5 Ins.cells D.code
 desc : ∀ x ∈ D.sorts, x.d.n ≤ 9223372036854775807
theorem Has.on {W w : World} {p : Pg} {D : Dat} (h : Has W p D) (hb : Below W.heap.size W w) : Has w p D :=
 ⟨h.names.on hb, h.cons.on hb, h.curs.on hb, h.sorts.on hb, h.tots.on hb, h.code.on hb, h.desc⟩
theorem Has.ins {W : World} {p : Pg} {D : Dat} (h : Has W p D) {k : Nat} {i : Ins} (hi : D.code[k]? = some i) : ∃ g o, p.code.a = some ⟨g, o, none⟩ ∧ g < W.heap.size ∧ k < p.code.n ∧ ∀ w, Below W.heap.size W w →
 w.cell? ⟨g, o + k * 5, none⟩ = some (.int .u8 i.o) ∧ w.cell? ⟨g, o + k * 5 + 1, none⟩ = some (.int .i64 i.a) ∧ w.cell? ⟨g, o + k * 5 + 2, none⟩ = some (.int .i64 i.b) ∧ w.cell? ⟨g, o + k * 5 + 3, none⟩ = some (.int .i64 i.c) ∧ w.cell? ⟨g, o + k * 5 + 4, none⟩ = some (.int .i64 i.d) := by
 obtain ⟨g, o, e, hg, hc⟩ := h.code.at' k i hi
 refine ⟨g, o, e, hg, by rw [h.code.len]; exact (List.getElem?_eq_some_iff.1 hi).1, fun w hb => ?_⟩
 have cl : ∀ a, w.cell? ⟨g, a, none⟩ = W.cell? ⟨g, a, none⟩ := fun a => hb.cell (p := ⟨g, a, none⟩) hg
 rw [cl, cl, cl, cl, cl]
 exact ⟨hc 0 (by omega), hc 1 (by omega), hc 2 (by omega), hc 3 (by omega), hc 4 (by omega)⟩
theorem Has.srt {W : World} {p : Pg} {D : Dat} (h : Has W p D) {k : Nat} {x : Srt} (hi : D.sorts[k]? = some x) : ∃ g o, p.sorts.a = some ⟨g, o, none⟩ ∧ g < W.heap.size ∧ k < p.sorts.n ∧ ∀ w, Below W.heap.size W w →
 w.cell? ⟨g, o + k * 3, none⟩ = some (.slice x.d.a x.d.n x.d.c) ∧ w.cell? ⟨g, o + k * 3 + 1, none⟩ = some (.int .i64 x.n) ∧ w.cell? ⟨g, o + k * 3 + 2, none⟩ = some (.bool x.u) := by
 obtain ⟨g, o, e, hg, hc⟩ := h.sorts.at' k x hi
 refine ⟨g, o, e, hg, by rw [h.sorts.len]; exact (List.getElem?_eq_some_iff.1 hi).1, fun w hb => ?_⟩
 have cl : ∀ a, w.cell? ⟨g, a, none⟩ = W.cell? ⟨g, a, none⟩ := fun a => hb.cell (p := ⟨g, a, none⟩) hg
 rw [cl, cl, cl]
 exact ⟨hc 0 (by omega), hc 1 (by omega), hc 2 (by omega)⟩
def Gives (f : FuncId) (args : Array Value) (W : World) (v : Value) : Prop := Calls Tryz.prog f args W fun e w' => e = .returned v ∧ Below W.heap.size W w'
def Tells (f : FuncId) (args : Array Value) (W : World) (v : Value) : Prop := Calls Tryz.prog f args W fun e w' => e = .returned v ∧ w' = W
theorem Tells.gives {f : FuncId} {args : Array Value} {W : World} {v : Value} (h : Tells f args W v) : Gives f args W v := h.mono fun _ _ ⟨h1, h2⟩ => ⟨h1, h2 ▸ Below.refl _ _⟩
theorem heap_size_alloc (w : World) (o : Obj) : (w.alloc o).heap.size = w.heap.size + 1 := by
 show (w.heap.push _).size = _
 simp
theorem two_blocks (W : World) (a b : Obj) : Below W.heap.size W ((W.alloc a).alloc b) ∧ ((W.alloc a).alloc b).heap.size = W.heap.size + 2 ∧ ((W.alloc a).alloc b).heap[W.heap.size]? = some a ∧ ((W.alloc a).alloc b).heap[W.heap.size + 1]? = some b := by
 have s1 : (W.alloc a).heap.size = W.heap.size + 1 := heap_size_alloc W a
 refine ⟨(Below.one W a).alloc (by rw [s1]; omega) b, by rw [heap_size_alloc, s1], ?_, ?_⟩
 · exact (Below.heap_alloc _ _ _ (by rw [s1]; omega)).trans (heap_alloc_new W _)
 · have := heap_alloc_new (W.alloc a) b
   rw [s1] at this; exact this
def rightB (x : Con) : Bool := if x.k == 0 then x.n == 0 && x.s.toList.isEmpty else if x.k == 1 then x.s.toList.isEmpty else if x.k == 2 || x.k == 3 then x.n == 0 && decide ((x.s.size : Int) ≤ 65536) else false
theorem right_any (x : Con) (W : World) : Gives 82 #[x.v] W (.bool (rightB x)) := by
 unfold Gives
 go_enter Tryz.func82, Tryz.ntmps82
 go_wp2
 all_goals go_ret
 all_goals refine ⟨?_, Below.one _ _⟩
 all_goals simp_all [rightB]
theorem within_any (n lo hi : Int) (W : World) : Tells 79 #[.int .i64 n, .int .i64 lo, .int .i64 hi] W (.bool (decide (lo ≤ n) && decide (n ≤ hi))) := by
 unfold Tells
 go_enter Tryz.func79, Tryz.ntmps79
 go_wp2
 all_goals go_ret
 all_goals refine ⟨?_, rfl⟩
 all_goals first | (simp_all; done) | (simp_all; omega)
theorem name_any (s : ByteArray) (W : World) : Tells 80 #[.string s] W (.bool (decide ((200 : Int) < s.size))) := by
 unfold Tells
 go_enter Tryz.func80, Tryz.ntmps80
 go_wp2
 all_goals go_ret
 all_goals refine ⟨?_, rfl⟩
 all_goals first | (simp_all; done) | (simp_all; omega)
def knownT (s : ByteArray) : Bool := s.toList == [99, 111, 117, 110, 116] || s.toList == [99, 111, 117, 110, 116, 42] || s.toList == [115, 117, 109] || s.toList == [116, 111, 116, 97, 108] || s.toList == [109, 105, 110] || s.toList == [109, 97, 120] || s.toList == [103, 114, 111, 117, 112, 95, 99, 111, 110, 99, 97, 116]
theorem known_any (s : ByteArray) (W : World) : Gives 132 #[.string s] W (.bool (knownT s)) := by
 unfold Gives
 go_enter Tryz.func132, Tryz.ntmps132
 go_wp2
 all_goals go_ret
 all_goals refine ⟨?_, Below.refl _ _⟩
 all_goals simp_all [knownT]
def totE (x : Tot) : Int := if knownT x.s then (if x.u && x.s.toList == [99, 111, 117, 110, 116, 42] then 2 else 0) else 21
theorem curw_any (x : Cur) (W : World) : Gives 83 #[x.v] W (.bool (x.s.toList.isEmpty || decide ((200 : Int) < x.s.size) || (x.i && x.w))) := by
 unfold Gives
 go_enter Tryz.func83, Tryz.ntmps83
 go_wp2
 all_goals go_ret
 all_goals refine ⟨?_, Below.one _ _⟩
 all_goals first | (simp_all; done) | (simp_all; omega)
theorem conw_any (x : Con) (W : World) : Gives 81 #[x.v] W (.bool (!rightB x)) := by
 unfold Gives
 go_enter Tryz.func81, Tryz.ntmps81
 go_wp2_with (first | (go_at_call 82; refine (right_any x _).mono ?_; rintro e w2 ⟨rfl, hb2⟩))
 all_goals go_ret
 exact ⟨rfl, (Below.one _ _).on hb2⟩
def AggOK (W0 : World) : Prop := ∀ w, Below W0.heap.size W0 w → ∀ x : Tot, Calls Tryz.prog 86 #[.string x.s, .bool x.u] w fun e w' => (∃ v, e = .returned (.tuple #[v, .int .i64 (totE x)])) ∧ Below w.heap.size w w'
theorem totw_any (W0 : World) (hA : AggOK W0) (x : Tot) (W : World) (hW : Below W0.heap.size W0 W) : Gives 85 #[x.v] W (.bool (totE x != 0)) := by
 unfold Gives
 go_enter Tryz.func85, Tryz.ntmps85
 go_wp2_with (first | (go_at_call 86; refine (hA _ (hW.new _) x).mono ?_; rintro e w2 ⟨⟨v, rfl⟩, hb2⟩))
 all_goals go_ret
 all_goals exact ⟨rfl, (Below.one _ _).on hb2⟩
theorem srtw_any (x : Srt) (k : Nat) (W : World) (hk : W.heap[k]? = some (.cells #[.func (.func 79) #[] #[]] 155)) (hd : x.d.n ≤ 9223372036854775807) : Gives 84 #[x.v, .pointer (some ⟨k, 0, none⟩)] W (.bool (decide ((30 : Int) < x.d.n) || !(decide (1 ≤ x.n) && decide (x.n ≤ 60)))) := by
 have hlt : k < W.heap.size := (Array.getElem?_eq_some_iff.1 hk).1
 have c1 : ∀ o j, (W.alloc o).cell? ⟨k, j, none⟩ = (#[.func (.func 79) #[] #[]] : Array Value)[j]? := fun o j => blk_cell (((Below.one W o).block k hlt).trans hk) j
 unfold Gives
 go_enter Tryz.func84, Tryz.ntmps84
 go_wp2_with (first | (go_at_call 79; refine (within_any _ _ _ _).mono ?_; rintro e w2 ⟨rfl, rfl⟩))
 all_goals go_ret
 all_goals exact ⟨by simp_all, Below.one _ _⟩
end Go.Proofs.Vf
namespace Go.Proofs.Vf
open Go Go.Proofs Go.RowKit Go.Lib
attribute [local go_sem ↓] Go.wp_at_zero Go.wp_at_succ
theorem idx_str_80 (W : World) (s : Sl) (l : List ByteArray) (h : Lst W s 1 strC l) (t : ByteArray → Bool) (ht : ∀ w, Below W.heap.size W w → ∀ x ∈ l, Gives 80 #[.string x] w (.bool (t x))) :
 Calls Tryz.prog 134 #[.slice s.a s.n s.c, .func (.func 80) #[] #[]] W fun e w' => (∃ r : Int, e = .returned (.int .i64 r) ∧ decide (0 ≤ r) = l.any t) ∧ Below W.heap.size W w' := by
 obtain ⟨sa, sn, sc⟩ := s
 have HL : Hid (sn = l.length) := Lib.hid h.len
 have hsm : sn ≤ 9223372036854775807 := h.small
 have HT := Lib.hid h
 have HC := Lib.hid ht
 clear h ht
 go_enter Tryz.func134, Tryz.ntmps134
 go_wp2
 go_loopg [8] sn (fun lft i wr => ∃ kk : Nat, kk + lft = sn ∧ i = .int .i64 kk ∧ Below W.heap.size W wr ∧ Hid ((l.take kk).any t = false))
 case atStart => exact ⟨0, by omega, rfl, Below.refl _ _, Lib.hid (by simp)⟩
 case round =>
  obtain ⟨kk, hl, rfl, hbr, hk⟩ := hrel
  by_cases hlk : kk < sn
  · have hlt' : ((kk : Int) < (sn : Int)) = True := by simp; omega
    obtain ⟨x, hx⟩ : ∃ x, l[kk]? = some x := ⟨_, List.getElem?_eq_getElem (by have := HL.out; omega)⟩
    obtain ⟨g, o, e1, hg, hc⟩ := HT.out.at' kk x hx
    have e1 : sa = some ⟨g, o, none⟩ := e1
    subst e1
    have d0 : wr.cell? ⟨g, o + kk, none⟩ = some (.string x) := (hbr.cell (p := ⟨g, o + kk, none⟩) hg).trans (by have := hc 0 (by omega); first | exact this | (rw [Nat.mul_one] at this; exact this))
    have HX := Lib.hid hx
    clear hc hx
    go_wp2_with (first | (go_at_call 80; refine (HC.out wr hbr x (List.mem_of_getElem? HX.out)).mono ?_; rintro e w2 ⟨rfl, hb2⟩))
    · rename_i hbt
      go_ret
      refine ⟨⟨_, rfl, ?_⟩, hbr.on hb2⟩
      have h1 : l.any t = true := List.any_eq_true.2 ⟨x, List.mem_of_getElem? HX.out, hbt⟩
      rw [h1]; exact decide_eq_true (by omega)
    · rename_i hbt
      go_roundg (sn - kk - 1)
      case measure => omega
      case rel => exact ⟨kk + 1, by omega, by first | rfl | go_num, hbr.on hb2, Lib.hid (by
       rw [List.take_add_one, HX.out, List.any_append, hk.out]; simpa using hbt)⟩
  · have hlt' : ((kk : Int) < (sn : Int)) = False := by simp; omega
    go_wp2
    go_ret
    refine ⟨⟨_, rfl, ?_⟩, hbr⟩
    have := hk.out
    rw [List.take_of_length_le (by have := HL.out; omega)] at this
    rw [this]; rfl
theorem has_str_80 (W : World) (s : Sl) (l : List ByteArray) (h : Lst W s 1 strC l) (t : ByteArray → Bool) (ht : ∀ w, Below W.heap.size W w → ∀ x ∈ l, Gives 80 #[.string x] w (.bool (t x))) :
 Gives 87 #[.slice s.a s.n s.c, .func (.func 80) #[] #[]] W (.bool (l.any t)) := by
 unfold Gives
 go_enter Tryz.func87, Tryz.ntmps87
 go_wp2_with (first | (go_at_call 134; refine (idx_str_80 W s l h t ht).mono ?_; rintro e w2 ⟨⟨r, rfl, hr⟩, hb2⟩))
 go_ret
 exact ⟨by rw [← hr]; rfl, hb2⟩
theorem idx_con_81 (W : World) (s : Sl) (l : List Con) (h : Lst W s 3 Con.cells l) (t : Con → Bool) (ht : ∀ w, Below W.heap.size W w → ∀ x ∈ l, Gives 81 #[x.v] w (.bool (t x))) :
 Calls Tryz.prog 135 #[.slice s.a s.n s.c, .func (.func 81) #[] #[]] W fun e w' => (∃ r : Int, e = .returned (.int .i64 r) ∧ decide (0 ≤ r) = l.any t) ∧ Below W.heap.size W w' := by
 obtain ⟨sa, sn, sc⟩ := s
 have HL : Hid (sn = l.length) := Lib.hid h.len
 have hsm : sn ≤ 9223372036854775807 := h.small
 have HT := Lib.hid h
 have HC := Lib.hid ht
 clear h ht
 go_enter Tryz.func135, Tryz.ntmps135
 go_wp2
 go_loopg [8] sn (fun lft i wr => ∃ kk : Nat, kk + lft = sn ∧ i = .int .i64 kk ∧ Below W.heap.size W wr ∧ Hid ((l.take kk).any t = false))
 case atStart => exact ⟨0, by omega, rfl, Below.refl _ _, Lib.hid (by simp)⟩
 case round =>
  obtain ⟨kk, hl, rfl, hbr, hk⟩ := hrel
  by_cases hlk : kk < sn
  · have hlt' : ((kk : Int) < (sn : Int)) = True := by simp; omega
    obtain ⟨x, hx⟩ : ∃ x, l[kk]? = some x := ⟨_, List.getElem?_eq_getElem (by have := HL.out; omega)⟩
    obtain ⟨g, o, e1, hg, hc⟩ := HT.out.at' kk x hx
    have e1 : sa = some ⟨g, o, none⟩ := e1
    subst e1
    have d0 : wr.cell? ⟨g, o + kk * 3, none⟩ = some (.int .u8 x.k) := (hbr.cell (p := ⟨g, o + kk * 3, none⟩) hg).trans (by have := hc 0 (by omega); first | exact this | (rw [Nat.mul_one] at this; exact this))
    have d1 : wr.cell? ⟨g, o + kk * 3 + 1, none⟩ = some (.int .i64 x.n) := (hbr.cell (p := ⟨g, o + kk * 3 + 1, none⟩) hg).trans (by have := hc 1 (by omega); first | exact this | (rw [Nat.mul_one] at this; exact this))
    have d2 : wr.cell? ⟨g, o + kk * 3 + 2, none⟩ = some (.string x.s) := (hbr.cell (p := ⟨g, o + kk * 3 + 2, none⟩) hg).trans (by have := hc 2 (by omega); first | exact this | (rw [Nat.mul_one] at this; exact this))
    have HX := Lib.hid hx
    clear hc hx
    go_wp2_with (first | (go_at_call 81; refine (HC.out wr hbr x (List.mem_of_getElem? HX.out)).mono ?_; rintro e w2 ⟨rfl, hb2⟩))
    · rename_i hbt
      go_ret
      refine ⟨⟨_, rfl, ?_⟩, hbr.on hb2⟩
      have h1 : l.any t = true := List.any_eq_true.2 ⟨x, List.mem_of_getElem? HX.out, hbt⟩
      rw [h1]; exact decide_eq_true (by omega)
    · rename_i hbt
      go_roundg (sn - kk - 1)
      case measure => omega
      case rel => exact ⟨kk + 1, by omega, by first | rfl | go_num, hbr.on hb2, Lib.hid (by
       rw [List.take_add_one, HX.out, List.any_append, hk.out]; simpa using hbt)⟩
  · have hlt' : ((kk : Int) < (sn : Int)) = False := by simp; omega
    go_wp2
    go_ret
    refine ⟨⟨_, rfl, ?_⟩, hbr⟩
    have := hk.out
    rw [List.take_of_length_le (by have := HL.out; omega)] at this
    rw [this]; rfl
theorem has_con_81 (W : World) (s : Sl) (l : List Con) (h : Lst W s 3 Con.cells l) (t : Con → Bool) (ht : ∀ w, Below W.heap.size W w → ∀ x ∈ l, Gives 81 #[x.v] w (.bool (t x))) :
 Gives 88 #[.slice s.a s.n s.c, .func (.func 81) #[] #[]] W (.bool (l.any t)) := by
 unfold Gives
 go_enter Tryz.func88, Tryz.ntmps88
 go_wp2_with (first | (go_at_call 135; refine (idx_con_81 W s l h t ht).mono ?_; rintro e w2 ⟨⟨r, rfl, hr⟩, hb2⟩))
 go_ret
 exact ⟨by rw [← hr]; rfl, hb2⟩
theorem idx_cur_83 (W : World) (s : Sl) (l : List Cur) (h : Lst W s 3 Cur.cells l) (t : Cur → Bool) (ht : ∀ w, Below W.heap.size W w → ∀ x ∈ l, Gives 83 #[x.v] w (.bool (t x))) :
 Calls Tryz.prog 136 #[.slice s.a s.n s.c, .func (.func 83) #[] #[]] W fun e w' => (∃ r : Int, e = .returned (.int .i64 r) ∧ decide (0 ≤ r) = l.any t) ∧ Below W.heap.size W w' := by
 obtain ⟨sa, sn, sc⟩ := s
 have HL : Hid (sn = l.length) := Lib.hid h.len
 have hsm : sn ≤ 9223372036854775807 := h.small
 have HT := Lib.hid h
 have HC := Lib.hid ht
 clear h ht
 go_enter Tryz.func136, Tryz.ntmps136
 go_wp2
 go_loopg [8] sn (fun lft i wr => ∃ kk : Nat, kk + lft = sn ∧ i = .int .i64 kk ∧ Below W.heap.size W wr ∧ Hid ((l.take kk).any t = false))
 case atStart => exact ⟨0, by omega, rfl, Below.refl _ _, Lib.hid (by simp)⟩
 case round =>
  obtain ⟨kk, hl, rfl, hbr, hk⟩ := hrel
  by_cases hlk : kk < sn
  · have hlt' : ((kk : Int) < (sn : Int)) = True := by simp; omega
    obtain ⟨x, hx⟩ : ∃ x, l[kk]? = some x := ⟨_, List.getElem?_eq_getElem (by have := HL.out; omega)⟩
    obtain ⟨g, o, e1, hg, hc⟩ := HT.out.at' kk x hx
    have e1 : sa = some ⟨g, o, none⟩ := e1
    subst e1
    have d0 : wr.cell? ⟨g, o + kk * 3, none⟩ = some (.string x.s) := (hbr.cell (p := ⟨g, o + kk * 3, none⟩) hg).trans (by have := hc 0 (by omega); first | exact this | (rw [Nat.mul_one] at this; exact this))
    have d1 : wr.cell? ⟨g, o + kk * 3 + 1, none⟩ = some (.bool x.i) := (hbr.cell (p := ⟨g, o + kk * 3 + 1, none⟩) hg).trans (by have := hc 1 (by omega); first | exact this | (rw [Nat.mul_one] at this; exact this))
    have d2 : wr.cell? ⟨g, o + kk * 3 + 2, none⟩ = some (.bool x.w) := (hbr.cell (p := ⟨g, o + kk * 3 + 2, none⟩) hg).trans (by have := hc 2 (by omega); first | exact this | (rw [Nat.mul_one] at this; exact this))
    have HX := Lib.hid hx
    clear hc hx
    go_wp2_with (first | (go_at_call 83; refine (HC.out wr hbr x (List.mem_of_getElem? HX.out)).mono ?_; rintro e w2 ⟨rfl, hb2⟩))
    · rename_i hbt
      go_ret
      refine ⟨⟨_, rfl, ?_⟩, hbr.on hb2⟩
      have h1 : l.any t = true := List.any_eq_true.2 ⟨x, List.mem_of_getElem? HX.out, hbt⟩
      rw [h1]; exact decide_eq_true (by omega)
    · rename_i hbt
      go_roundg (sn - kk - 1)
      case measure => omega
      case rel => exact ⟨kk + 1, by omega, by first | rfl | go_num, hbr.on hb2, Lib.hid (by
       rw [List.take_add_one, HX.out, List.any_append, hk.out]; simpa using hbt)⟩
  · have hlt' : ((kk : Int) < (sn : Int)) = False := by simp; omega
    go_wp2
    go_ret
    refine ⟨⟨_, rfl, ?_⟩, hbr⟩
    have := hk.out
    rw [List.take_of_length_le (by have := HL.out; omega)] at this
    rw [this]; rfl
theorem has_cur_83 (W : World) (s : Sl) (l : List Cur) (h : Lst W s 3 Cur.cells l) (t : Cur → Bool) (ht : ∀ w, Below W.heap.size W w → ∀ x ∈ l, Gives 83 #[x.v] w (.bool (t x))) :
 Gives 89 #[.slice s.a s.n s.c, .func (.func 83) #[] #[]] W (.bool (l.any t)) := by
 unfold Gives
 go_enter Tryz.func89, Tryz.ntmps89
 go_wp2_with (first | (go_at_call 136; refine (idx_cur_83 W s l h t ht).mono ?_; rintro e w2 ⟨⟨r, rfl, hr⟩, hb2⟩))
 go_ret
 exact ⟨by rw [← hr]; rfl, hb2⟩
theorem idx_srt_84 (W : World) (s : Sl) (l : List Srt) (h : Lst W s 3 Srt.cells l) (p0 : Value) (t : Srt → Bool) (ht : ∀ w, Below W.heap.size W w → ∀ x ∈ l, Gives 84 #[x.v, p0] w (.bool (t x))) :
 Calls Tryz.prog 137 #[.slice s.a s.n s.c, .func (.func 84) #[] #[p0]] W fun e w' => (∃ r : Int, e = .returned (.int .i64 r) ∧ decide (0 ≤ r) = l.any t) ∧ Below W.heap.size W w' := by
 obtain ⟨sa, sn, sc⟩ := s
 have HL : Hid (sn = l.length) := Lib.hid h.len
 have hsm : sn ≤ 9223372036854775807 := h.small
 have HT := Lib.hid h
 have HC := Lib.hid ht
 clear h ht
 go_enter Tryz.func137, Tryz.ntmps137
 go_wp2
 go_loopg [8] sn (fun lft i wr => ∃ kk : Nat, kk + lft = sn ∧ i = .int .i64 kk ∧ Below W.heap.size W wr ∧ Hid ((l.take kk).any t = false))
 case atStart => exact ⟨0, by omega, rfl, Below.refl _ _, Lib.hid (by simp)⟩
 case round =>
  obtain ⟨kk, hl, rfl, hbr, hk⟩ := hrel
  by_cases hlk : kk < sn
  · have hlt' : ((kk : Int) < (sn : Int)) = True := by simp; omega
    obtain ⟨x, hx⟩ : ∃ x, l[kk]? = some x := ⟨_, List.getElem?_eq_getElem (by have := HL.out; omega)⟩
    obtain ⟨g, o, e1, hg, hc⟩ := HT.out.at' kk x hx
    have e1 : sa = some ⟨g, o, none⟩ := e1
    subst e1
    have d0 : wr.cell? ⟨g, o + kk * 3, none⟩ = some (.slice x.d.a x.d.n x.d.c) := (hbr.cell (p := ⟨g, o + kk * 3, none⟩) hg).trans (by have := hc 0 (by omega); first | exact this | (rw [Nat.mul_one] at this; exact this))
    have d1 : wr.cell? ⟨g, o + kk * 3 + 1, none⟩ = some (.int .i64 x.n) := (hbr.cell (p := ⟨g, o + kk * 3 + 1, none⟩) hg).trans (by have := hc 1 (by omega); first | exact this | (rw [Nat.mul_one] at this; exact this))
    have d2 : wr.cell? ⟨g, o + kk * 3 + 2, none⟩ = some (.bool x.u) := (hbr.cell (p := ⟨g, o + kk * 3 + 2, none⟩) hg).trans (by have := hc 2 (by omega); first | exact this | (rw [Nat.mul_one] at this; exact this))
    have HX := Lib.hid hx
    clear hc hx
    go_wp2_with (first | (go_at_call 84; refine (HC.out wr hbr x (List.mem_of_getElem? HX.out)).mono ?_; rintro e w2 ⟨rfl, hb2⟩))
    · rename_i hbt
      go_ret
      refine ⟨⟨_, rfl, ?_⟩, hbr.on hb2⟩
      have h1 : l.any t = true := List.any_eq_true.2 ⟨x, List.mem_of_getElem? HX.out, hbt⟩
      rw [h1]; exact decide_eq_true (by omega)
    · rename_i hbt
      go_roundg (sn - kk - 1)
      case measure => omega
      case rel => exact ⟨kk + 1, by omega, by first | rfl | go_num, hbr.on hb2, Lib.hid (by
       rw [List.take_add_one, HX.out, List.any_append, hk.out]; simpa using hbt)⟩
  · have hlt' : ((kk : Int) < (sn : Int)) = False := by simp; omega
    go_wp2
    go_ret
    refine ⟨⟨_, rfl, ?_⟩, hbr⟩
    have := hk.out
    rw [List.take_of_length_le (by have := HL.out; omega)] at this
    rw [this]; rfl
theorem has_srt_84 (W : World) (s : Sl) (l : List Srt) (h : Lst W s 3 Srt.cells l) (p0 : Value) (t : Srt → Bool) (ht : ∀ w, Below W.heap.size W w → ∀ x ∈ l, Gives 84 #[x.v, p0] w (.bool (t x))) :
 Gives 90 #[.slice s.a s.n s.c, .func (.func 84) #[] #[p0]] W (.bool (l.any t)) := by
 unfold Gives
 go_enter Tryz.func90, Tryz.ntmps90
 go_wp2_with (first | (go_at_call 137; refine (idx_srt_84 W s l h p0 t ht).mono ?_; rintro e w2 ⟨⟨r, rfl, hr⟩, hb2⟩))
 go_ret
 exact ⟨by rw [← hr]; rfl, hb2⟩
theorem idx_tot_85 (W : World) (s : Sl) (l : List Tot) (h : Lst W s 2 Tot.cells l) (t : Tot → Bool) (ht : ∀ w, Below W.heap.size W w → ∀ x ∈ l, Gives 85 #[x.v] w (.bool (t x))) :
 Calls Tryz.prog 138 #[.slice s.a s.n s.c, .func (.func 85) #[] #[]] W fun e w' => (∃ r : Int, e = .returned (.int .i64 r) ∧ decide (0 ≤ r) = l.any t) ∧ Below W.heap.size W w' := by
 obtain ⟨sa, sn, sc⟩ := s
 have HL : Hid (sn = l.length) := Lib.hid h.len
 have hsm : sn ≤ 9223372036854775807 := h.small
 have HT := Lib.hid h
 have HC := Lib.hid ht
 clear h ht
 go_enter Tryz.func138, Tryz.ntmps138
 go_wp2
 go_loopg [8] sn (fun lft i wr => ∃ kk : Nat, kk + lft = sn ∧ i = .int .i64 kk ∧ Below W.heap.size W wr ∧ Hid ((l.take kk).any t = false))
 case atStart => exact ⟨0, by omega, rfl, Below.refl _ _, Lib.hid (by simp)⟩
 case round =>
  obtain ⟨kk, hl, rfl, hbr, hk⟩ := hrel
  by_cases hlk : kk < sn
  · have hlt' : ((kk : Int) < (sn : Int)) = True := by simp; omega
    obtain ⟨x, hx⟩ : ∃ x, l[kk]? = some x := ⟨_, List.getElem?_eq_getElem (by have := HL.out; omega)⟩
    obtain ⟨g, o, e1, hg, hc⟩ := HT.out.at' kk x hx
    have e1 : sa = some ⟨g, o, none⟩ := e1
    subst e1
    have d0 : wr.cell? ⟨g, o + kk * 2, none⟩ = some (.string x.s) := (hbr.cell (p := ⟨g, o + kk * 2, none⟩) hg).trans (by have := hc 0 (by omega); first | exact this | (rw [Nat.mul_one] at this; exact this))
    have d1 : wr.cell? ⟨g, o + kk * 2 + 1, none⟩ = some (.bool x.u) := (hbr.cell (p := ⟨g, o + kk * 2 + 1, none⟩) hg).trans (by have := hc 1 (by omega); first | exact this | (rw [Nat.mul_one] at this; exact this))
    have HX := Lib.hid hx
    clear hc hx
    go_wp2_with (first | (go_at_call 85; refine (HC.out wr hbr x (List.mem_of_getElem? HX.out)).mono ?_; rintro e w2 ⟨rfl, hb2⟩))
    · rename_i hbt
      go_ret
      refine ⟨⟨_, rfl, ?_⟩, hbr.on hb2⟩
      have h1 : l.any t = true := List.any_eq_true.2 ⟨x, List.mem_of_getElem? HX.out, hbt⟩
      rw [h1]; exact decide_eq_true (by omega)
    · rename_i hbt
      go_roundg (sn - kk - 1)
      case measure => omega
      case rel => exact ⟨kk + 1, by omega, by first | rfl | go_num, hbr.on hb2, Lib.hid (by
       rw [List.take_add_one, HX.out, List.any_append, hk.out]; simpa using hbt)⟩
  · have hlt' : ((kk : Int) < (sn : Int)) = False := by simp; omega
    go_wp2
    go_ret
    refine ⟨⟨_, rfl, ?_⟩, hbr⟩
    have := hk.out
    rw [List.take_of_length_le (by have := HL.out; omega)] at this
    rw [this]; rfl
theorem has_tot_85 (W : World) (s : Sl) (l : List Tot) (h : Lst W s 2 Tot.cells l) (t : Tot → Bool) (ht : ∀ w, Below W.heap.size W w → ∀ x ∈ l, Gives 85 #[x.v] w (.bool (t x))) :
 Gives 91 #[.slice s.a s.n s.c, .func (.func 85) #[] #[]] W (.bool (l.any t)) := by
 unfold Gives
 go_enter Tryz.func91, Tryz.ntmps91
 go_wp2_with (first | (go_at_call 138; refine (idx_tot_85 W s l h t ht).mono ?_; rintro e w2 ⟨⟨r, rfl, hr⟩, hb2⟩))
 go_ret
 exact ⟨by rw [← hr]; rfl, hb2⟩
end Go.Proofs.Vf
