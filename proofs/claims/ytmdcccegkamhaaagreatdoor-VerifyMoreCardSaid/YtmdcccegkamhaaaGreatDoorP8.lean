/- The program's verify, flow and code, followed by hand: part 8. -/
import Derived.Test.YtmdcccegkamhaaaGreatDoorP7
import Derived.WalkKit
import Derived.Below
import Derived.Shelf.Lays
import Derived.Shelf.Lays2
import Derived.Shelf.Sort.Plain
import Derived.Shelf.Slices.CompactI
import Derived.Lib.RowBridge
set_option maxHeartbeats 4000000
set_option maxRecDepth 100000
set_option linter.unusedSectionVars false
set_option linter.unusedVariables false
set_option linter.unusedSimpArgs false
namespace Go.Proofs
open Go.Shelf
def Tryz.lays189_ren : Ren := { f := fun x => match x with | 189 => 71 | 125 => 123 | 257 => 122 | 128 => 151 | 129 => 152 | 294 => 142 | 295 => 143 | 296 => 144 | 297 => 145 | 298 => 146 | 299 => 147 | 216 => 148 | 300 => 149 | 301 => 150 | 328 => 174 | 329 => 175 | 330 => 176 | 331 => 177 | 332 => 178 | 215 => 179 | 343 => 200 | n => n, t := fun x => match x with | 28 => 40 | 3 => 3 | 46 => 195 | 0 => 0 | 51 => 225 | 53 => 206 | 4 => 4 | 183 => 219 | 182 => 218 | 131 => 119 | 5 => 5 | 9 => 9 | 218 => 250 | 222 => 254 | 228 => 279 | 229 => 280 | n => n, g := fun x => x }
theorem Tryz.lays189 : Lays.n189 Tryz.prog Tryz.lays189_ren := {
 mixed := by kernel_rfl,
 f125 := Tryz.func123.trans (congrArg some (by kernel_rfl)),
 f128 := Tryz.func151.trans (congrArg some (by kernel_rfl)),
 f129 := Tryz.func152.trans (congrArg some (by kernel_rfl)),
 f189 := Tryz.func71.trans (congrArg some (by kernel_rfl)),
 f215 := Tryz.func179.trans (congrArg some (by kernel_rfl)),
 f216 := Tryz.func148.trans (congrArg some (by kernel_rfl)),
 f257 := Tryz.func122.trans (congrArg some (by kernel_rfl)),
 f294 := Tryz.func142.trans (congrArg some (by kernel_rfl)),
 f295 := Tryz.func143.trans (congrArg some (by kernel_rfl)),
 f296 := Tryz.func144.trans (congrArg some (by kernel_rfl)),
 f297 := Tryz.func145.trans (congrArg some (by kernel_rfl)),
 f298 := Tryz.func146.trans (congrArg some (by kernel_rfl)),
 f299 := Tryz.func147.trans (congrArg some (by kernel_rfl)),
 f300 := Tryz.func149.trans (congrArg some (by kernel_rfl)),
 f301 := Tryz.func150.trans (congrArg some (by kernel_rfl)),
 f328 := Tryz.func174.trans (congrArg some (by kernel_rfl)),
 f329 := Tryz.func175.trans (congrArg some (by kernel_rfl)),
 f330 := Tryz.func176.trans (congrArg some (by kernel_rfl)),
 f331 := Tryz.func177.trans (congrArg some (by kernel_rfl)),
 f332 := Tryz.func178.trans (congrArg some (by kernel_rfl)),
 f343 := Tryz.func200.trans (congrArg some (by kernel_rfl)),
 t0 := Tryz.underlying0,
 a0 := Tryz.isAgg0,
 z0 := Tryz.sizeOf0,
 v0 := Tryz.zeroValue0,
 t3 := Tryz.underlying3,
 a3 := Tryz.isAgg3,
 z3 := Tryz.sizeOf3,
 v3 := Tryz.zeroValue3,
 t4 := Tryz.underlying4,
 a4 := Tryz.isAgg4,
 z4 := Tryz.sizeOf4,
 v4 := Tryz.zeroValue4,
 t5 := Tryz.underlying5,
 a5 := Tryz.isAgg5,
 z5 := Tryz.sizeOf5,
 v5 := Tryz.zeroValue5,
 t9 := Tryz.underlying9,
 a9 := Tryz.isAgg9,
 z9 := Tryz.sizeOf9,
 v9 := Tryz.zeroValue9,
 t28 := Tryz.underlying40,
 a28 := Tryz.isAgg40,
 z28 := Tryz.sizeOf40,
 v28 := Tryz.zeroValue40,
 t46 := Tryz.underlying195,
 a46 := Tryz.isAgg195,
 z46 := Tryz.sizeOf195,
 v46 := Tryz.zeroValue195,
 t51 := Tryz.underlying225,
 a51 := Tryz.isAgg225,
 z51 := Tryz.sizeOf225,
 v51 := Tryz.zeroValue225,
 t53 := Tryz.underlying206,
 a53 := Tryz.isAgg206,
 z53 := Tryz.sizeOf206,
 v53 := Tryz.zeroValue206,
 t131 := Tryz.underlying119,
 a131 := Tryz.isAgg119,
 z131 := Tryz.sizeOf119,
 v131 := Tryz.zeroValue119,
 t182 := Tryz.underlying218,
 a182 := Tryz.isAgg218,
 z182 := Tryz.sizeOf218,
 v182 := Tryz.zeroValue218,
 t183 := Tryz.underlying219,
 a183 := Tryz.isAgg219,
 z183 := Tryz.sizeOf219,
 v183 := Tryz.zeroValue219,
 t218 := Tryz.underlying250,
 a218 := Tryz.isAgg250,
 z218 := Tryz.sizeOf250,
 v218 := Tryz.zeroValue250,
 t222 := Tryz.underlying254,
 a222 := Tryz.isAgg254,
 z222 := Tryz.sizeOf254,
 v222 := Tryz.zeroValue254,
 t228 := Tryz.underlying279,
 a228 := Tryz.isAgg279,
 z228 := Tryz.sizeOf279,
 v228 := Tryz.zeroValue279,
 t229 := Tryz.underlying280,
 a229 := Tryz.isAgg280,
 z229 := Tryz.sizeOf280,
 v229 := Tryz.zeroValue280 }
def Tryz.lays20_ren : Ren := { f := fun x => match x with | 20 => 72 | n => n, t := fun x => match x with | 22 => 40 | 3 => 3 | 4 => 4 | 0 => 0 | n => n, g := fun x => x }
theorem Tryz.lays20 : Lays2.n20 Tryz.prog Tryz.lays20_ren := {
 mixed := by kernel_rfl,
 f20 := Tryz.func72.trans (congrArg some (by kernel_rfl)),
 t0 := Tryz.underlying0,
 a0 := Tryz.isAgg0,
 z0 := Tryz.sizeOf0,
 v0 := Tryz.zeroValue0,
 t3 := Tryz.underlying3,
 a3 := Tryz.isAgg3,
 z3 := Tryz.sizeOf3,
 v3 := Tryz.zeroValue3,
 t4 := Tryz.underlying4,
 a4 := Tryz.isAgg4,
 z4 := Tryz.sizeOf4,
 v4 := Tryz.zeroValue4,
 t22 := Tryz.underlying40,
 a22 := Tryz.isAgg40,
 z22 := Tryz.sizeOf40,
 v22 := Tryz.zeroValue40,
 i3 := by kernel_rfl }
end Go.Proofs
namespace Go.Proofs.Vf
open Go Go.Proofs Go.RowKit Go.Lib Go.Sort
theorem below_row {B blk n off : Nat} {w : World} {α : Type} [Inhabited α] (enc : α → Value) (d : Array α) (os : Array Obj) (hB : B ≤ blk) (hb : blk < w.heap.size) : Below B w (grow (putRow enc (Go.Sort.ahead w n) blk off d) os) := by
 refine ⟨rfl, rfl, by simp, fun k hk => ?_⟩
 rw [heap_grow_old _ _ (by simp; omega)]
 unfold putRow mapBlock
 rw [Array.getElem?_modify, if_neg (by omega)]
 rfl
abbrev srt (zs : List Int) : List Int := zs.mergeSort fun x y => decide (x ≤ y)
theorem sort_any (B blk cap : Nat) (zs : List Int) (w : World) (hH : Holds (Value.int .i64) w blk 0 zs.toArray) (hB : B ≤ blk) (hb : blk < w.heap.size) (hs : zs.length ≤ 4000) :
 Calls Tryz.prog 71 #[.slice (some ⟨blk, 0, none⟩) zs.length cap] w fun e w' => e = .returned (.tuple #[]) ∧ Holds (Value.int .i64) w' blk 0 (srt zs).toArray ∧ Below B w w' := by
 have h := Any.slices_Sort_int Tryz.lays189 blk 0 cap zs w hH hb (by omega)
 change Calls Tryz.prog 71 _ _ _ at h
 refine h.mono ?_
 rintro e w' ⟨rfl, n, os, rfl⟩
 refine ⟨rfl, ?_, below_row _ _ _ hB hb⟩
 refine holds_grow _ _ _ _ _ _ (by simpa using hb) (holds_putRow _ _ _ _ zs.toArray _ (holds_ahead _ _ _ _ _ _ hH) (by simp))
theorem compact_any (B blk cap : Nat) (zs : List Int) (w : World) (hH : Holds (Value.int .i64) w blk 0 zs.toArray) (hB : B ≤ blk) (hb : blk < w.heap.size) (hs : zs.length ≤ 4000) (hc : zs.length ≤ cap) :
 Calls Tryz.prog 72 #[.slice (some ⟨blk, 0, none⟩) zs.length cap] w fun e w' => (∃ s : Sl, e = .returned (.slice s.a s.n s.c) ∧ Lst w' s 1 intC (compact zs)) ∧ Below B w w' := by
 have h := Any.slices_Compact_int Tryz.lays20 blk 0 cap zs w hH (by omega) hc
 change Calls Tryz.prog 72 _ _ _ at h
 refine h.mono ?_
 rintro e w' ⟨rfl, n, rfl⟩
 have hle : (compact zs).length ≤ zs.length := compact_length_le zs
 have hb2 := below_row (n := n) (off := 0) (Value.int .i64) (compact zs ++ List.replicate (zs.length - (compact zs).length) 0).toArray #[] hB hb
 rw [grow_empty] at hb2
 have hh := holds_putRow (Value.int .i64) (Go.Sort.ahead w n) blk 0 zs.toArray (compact zs ++ List.replicate (zs.length - (compact zs).length) 0).toArray (holds_ahead _ _ _ _ _ _ hH) (by simp; omega)
 refine ⟨⟨⟨some ⟨blk, 0, none⟩, (compact zs).length, cap⟩, rfl, rfl, by show (compact zs).length ≤ _; omega, fun k x hx => ⟨blk, 0, rfl, by simpa using hb, fun i hi => ?_⟩⟩, hb2⟩
 have hk := (List.getElem?_eq_some_iff.1 hx)
 obtain ⟨hk, hx⟩ := hk
 have hi0 : i = 0 := by omega
 subst hi0
 have := (hh k (by simp; omega)).1
 rw [Nat.mul_one, Nat.add_zero]
 rw [this]
 have hget : (compact zs ++ List.replicate (zs.length - (compact zs).length) 0).toArray[k]! = x := by
  rw [getElem!_pos _ k (by simp; omega)]
  simp only [List.getElem_toArray]
  rw [List.getElem_append_left hk]; exact hx
 rw [hget]; rfl
end Go.Proofs.Vf
namespace Go.Proofs.Vf
open Go Go.Proofs Go.RowKit Go.Lib Go.Sort
attribute [local go_sem ↓] Go.wp_at_zero Go.wp_at_succ
def isJA (o : Int) : Bool := o == 11 || o == 12
def isJB (o : Int) : Bool := o == 13 || o == 14 || o == 16 || o == 17 || o == 21 || o == 15 || o == 22
def leadsF (k : Nat) (i : Ins) : List Int :=
 if i.o = 35 then [] else if i.o = 10 then [i.a] else compact (srt (((k : Int) + 1) :: (if isJA i.o then [i.a] else if isJB i.o then [i.b] else [])))
theorem holds_of_owns {w : World} {B : Nat} {v : Value} {zs : List Int} (h : w.ownsRow B 3 1 v zs.length (zs.map (Value.int .i64))) (h0 : 0 < zs.length) :
 ∃ g cap, v = .slice (some ⟨g, 0, none⟩) zs.length cap ∧ B ≤ g ∧ g < w.heap.size ∧ zs.length ≤ cap ∧ Holds (Value.int .i64) w g 0 zs.toArray := by
 rcases h.2 with ⟨_, h1⟩ | ⟨g, cap, cur, rfl, hB, hg, hc, _, hs, ht⟩
 · omega
 · refine ⟨g, cap, rfl, hB, (Array.getElem?_eq_some_iff.1 hg).1, hc, fun j hj => ?_⟩
   have hj' : j < zs.length := by simpa using hj
   refine ⟨?_, blk_frozen hg _⟩
   rw [Nat.zero_add, blk_cell hg]
   have h1 : (zs.map (Value.int .i64))[j]? = some (.int .i64 zs[j]) := by rw [List.getElem?_map, List.getElem?_eq_getElem hj']; rfl
   rw [← ht, List.getElem?_take, if_pos (by omega)] at h1
   rw [getElem!_pos _ j hj]
   simpa using h1
theorem owns_one {w : World} {B g : Nat} {zs : List Int} {x : Int} (h : w.heap[g]? = some (.cells #[.int .i64 x] 3)) (hB : B ≤ g) : w.ownsRow B 3 1 (.slice (some ⟨g, 0, none⟩) 1 1) 1 [.int .i64 x] :=
 ⟨rfl, .inr ⟨g, 1, #[.int .i64 x], rfl, hB, h, Nat.le_refl _, by decide, rfl, rfl⟩⟩
theorem at_two (W : World) (a b c : Obj) : (((W.alloc a).alloc b).alloc c).heap[W.heap.size + 2]? = some c := by
 have h := heap_alloc_new ((W.alloc a).alloc b) c
 rw [heap_size_alloc, heap_size_alloc] at h
 exact h
theorem at_three (W : World) (a b c d : Obj) : ((((W.alloc a).alloc b).alloc c).alloc d).heap[W.heap.size + 3]? = some d := by
 have h := heap_alloc_new (((W.alloc a).alloc b).alloc c) d
 rw [heap_size_alloc, heap_size_alloc, heap_size_alloc] at h
 exact h
theorem lst_nil {α : Type} (w : World) (sz : Nat) (f : α → List Value) : Lst w ⟨none, 0, 0⟩ sz f [] := ⟨rfl, Nat.zero_le _, fun i x hx => by simp at hx⟩
theorem lst_one {w : World} {g : Nat} {x : Int} (h : w.heap[g]? = some (.cells #[.int .i64 x] 3)) : Lst w ⟨some ⟨g, 0, none⟩, 1, 1⟩ 1 intC [x] :=
 ⟨rfl, by show 1 ≤ _; omega, fun i y hy => by
  have hi := (List.getElem?_eq_some_iff.1 hy).1
  have h0 : i = 0 := by simpa using hi
  subst h0
  simp at hy; subst hy
  refine ⟨g, 0, rfl, (Array.getElem?_eq_some_iff.1 h).1, fun j hj => ?_⟩
  have : j = 0 := by omega
  subst this
  exact blk_cell h 0⟩
theorem leads_any (p : Pg) (D : Dat) (W : World) (hp : Has W p D) (k : Nat) (hk4 : k < 4000) (i : Ins) (hi2 : D.code[k]? = some i) :
 Calls Tryz.prog 38 #[p.v, .int .i64 k] W fun e w' => (∃ s : Sl, e = .returned (.slice s.a s.n s.c) ∧ Lst w' s 1 intC (leadsF k i)) ∧ Below W.heap.size W w' := by
 obtain ⟨i0, hi, hz0, hz1, hz2⟩ := info_parts info3
 obtain ⟨g, o, e1, hg, hlt, hd⟩ := hp.ins hi2
 have hcs : p.code.n ≤ 9223372036854775807 := hp.code.small
 obtain ⟨ver, regs, binds, names, cons, curs, sorts, tots, ⟨ca, cn, cc⟩⟩ := p
 have e1 : ca = some ⟨g, o, none⟩ := e1
 subst e1
 have hcs : cn ≤ 9223372036854775807 := hcs
 have hlt : k < cn := hlt
 have hlt' : ((k : Int) < (cn : Int)) = True := by simp; omega
 have d := fun o => hd _ (Below.one W o)
 obtain ⟨io, ia, ib, ic, id⟩ := i
 have d0 := fun o => (d o).1
 have d1 := fun o => (d o).2.1
 have d2 := fun o => (d o).2.2.1
 have d3 := fun o => (d o).2.2.2.1
 have d4 := fun o => (d o).2.2.2.2
 have hw1 : IntKind.i64.wrap ((k : Int) + 1) = (k : Int) + 1 := by rw [IntKind.wrap_i64]; omega
 clear hd d hi2 hp
 go_enter Tryz.func38, Tryz.ntmps38
 have HOWN : Hid (∀ a b d, ((((W.alloc a).alloc b).alloc (.cells #[.int .i64 ((k : Int) + 1)] 3)).alloc d).ownsRow W.heap.size 3 1 (.slice (some ⟨W.heap.size + 1 + 1, 0, none⟩) 1 1) 1 [.int .i64 ((k : Int) + 1)]) := Lib.hid fun a b d =>
  owns_one (zs := []) ((Below.heap_alloc _ d _ (by rw [heap_size_alloc, heap_size_alloc, heap_size_alloc]; omega)).trans (at_two W a b _)) (by omega)
 by_cases h35 : io = 35
 · subst h35
   go_wp2
   go_ret
   exact ⟨⟨⟨none, 0, 0⟩, rfl, lst_nil _ _ _⟩, ((Below.one W _).new _).new _⟩
 by_cases h10 : io = 10
 · subst h10
   go_wp2
   go_ret
   exact ⟨⟨⟨some ⟨W.heap.size + 1 + 1 + 1, 0, none⟩, 1, 1⟩, rfl, lst_one (at_three W _ _ _ _)⟩, (((Below.one W _).new _).new _).new _⟩
 have x35 : (io == 35) = false := by simpa using h35
 have x10 : (io == 10) = false := by simpa using h10
 clear h35 h10
 by_cases hA : isJA io = true
 · unfold isJA at hA
   simp only [Bool.or_eq_true, beq_iff_eq] at hA
   rcases hA with rfl | rfl
   · go_wp2_with (first
      | (at_builtin; refine wpList_append_own _ rfl _ _ 40 rfl W.heap.size 3 i0 (.int .i64 0) 1 8 Tryz.underlying40 hi hz0 hz1 hz2 rfl (by decide) _ _ _ rfl (HOWN.out _ _ _) ⟨W.heap.size + 3, 0, none⟩ 1 1 [.int .i64 ia] rfl rfl ?c1A0 ?c2A0 ?c3A0 ?c4A0 ?c5A0 ?_))
     case c2A0 => first | rfl | (intro u hu; simp at hu; subst hu; rfl)
     case c3A0 => unfold maxLen; omega
     case c5A0 => first | omega | (rw [heap_size_alloc]; omega)
     intro v' w4 hown4 hgrow _
     have hb4 : Below W.heap.size W w4 := ((((Below.one W _).new _).new _).new _).grown hgrow (by rw [heap_size_alloc, heap_size_alloc, heap_size_alloc, heap_size_alloc]; omega) (fun q hq => owns_ge (HOWN.out (.cells #[] 0) (.cells #[] 0) (.cells #[] 0)) hq)
     obtain ⟨g2, cap, hv, hB2, hg2, hc2, hH⟩ := holds_of_owns (zs := [(k : Int) + 1, ia]) hown4 (by simp)
     replace hv : v' = .slice (some ⟨g2, 0, none⟩) 2 cap := hv
     subst hv
     have hS : Calls Tryz.prog 71 #[.slice (some ⟨g2, 0, none⟩) 2 cap] w4 _ := sort_any W.heap.size g2 cap [(k : Int) + 1, ia] w4 hH hB2 hg2 (by simp)
     have HS := Lib.hid hS
     have HC : Hid (∀ w5, Below W.heap.size w4 w5 → Holds (Value.int .i64) w5 g2 0 (srt [(k : Int) + 1, ia]).toArray → Calls Tryz.prog 72 #[.slice (some ⟨g2, 0, none⟩) 2 cap] w5 fun e w' => (∃ s : Sl, e = .returned (.slice s.a s.n s.c) ∧ Lst w' s 1 intC (compact (srt [(k : Int) + 1, ia]))) ∧ Below W.heap.size w5 w') := Lib.hid fun w5 hb5 hH5 => by
      have h := compact_any W.heap.size g2 cap (srt [(k : Int) + 1, ia]) w5 hH5 hB2 (Nat.lt_of_lt_of_le hg2 hb5.size) (by simp) (by simpa using hc2)
      rw [show (srt [(k : Int) + 1, ia]).length = 2 by simp] at h
      exact h
     have HB4 := Lib.hid hb4
     clear hS hown4 hgrow hH hb4
     go_wp2_with (first
      | (go_at_call 71; with_reducible refine HS.out.mono ?_; rintro e w5 ⟨rfl, hH5, hb5⟩)
      | (go_at_call 72; with_reducible refine (HC.out _ hb5 hH5).mono ?_; rintro e w6 ⟨⟨s, rfl, hl⟩, hb6⟩))
     go_ret
     exact ⟨⟨s, rfl, hl⟩, HB4.out.trans (hb5.trans hb6)⟩
   · go_wp2_with (first
      | (at_builtin; refine wpList_append_own _ rfl _ _ 40 rfl W.heap.size 3 i0 (.int .i64 0) 1 8 Tryz.underlying40 hi hz0 hz1 hz2 rfl (by decide) _ _ _ rfl (HOWN.out _ _ _) ⟨W.heap.size + 3, 0, none⟩ 1 1 [.int .i64 ia] rfl rfl ?c1A1 ?c2A1 ?c3A1 ?c4A1 ?c5A1 ?_))
     case c2A1 => first | rfl | (intro u hu; simp at hu; subst hu; rfl)
     case c3A1 => unfold maxLen; omega
     case c5A1 => first | omega | (rw [heap_size_alloc]; omega)
     intro v' w4 hown4 hgrow _
     have hb4 : Below W.heap.size W w4 := ((((Below.one W _).new _).new _).new _).grown hgrow (by rw [heap_size_alloc, heap_size_alloc, heap_size_alloc, heap_size_alloc]; omega) (fun q hq => owns_ge (HOWN.out (.cells #[] 0) (.cells #[] 0) (.cells #[] 0)) hq)
     obtain ⟨g2, cap, hv, hB2, hg2, hc2, hH⟩ := holds_of_owns (zs := [(k : Int) + 1, ia]) hown4 (by simp)
     replace hv : v' = .slice (some ⟨g2, 0, none⟩) 2 cap := hv
     subst hv
     have hS : Calls Tryz.prog 71 #[.slice (some ⟨g2, 0, none⟩) 2 cap] w4 _ := sort_any W.heap.size g2 cap [(k : Int) + 1, ia] w4 hH hB2 hg2 (by simp)
     have HS := Lib.hid hS
     have HC : Hid (∀ w5, Below W.heap.size w4 w5 → Holds (Value.int .i64) w5 g2 0 (srt [(k : Int) + 1, ia]).toArray → Calls Tryz.prog 72 #[.slice (some ⟨g2, 0, none⟩) 2 cap] w5 fun e w' => (∃ s : Sl, e = .returned (.slice s.a s.n s.c) ∧ Lst w' s 1 intC (compact (srt [(k : Int) + 1, ia]))) ∧ Below W.heap.size w5 w') := Lib.hid fun w5 hb5 hH5 => by
      have h := compact_any W.heap.size g2 cap (srt [(k : Int) + 1, ia]) w5 hH5 hB2 (Nat.lt_of_lt_of_le hg2 hb5.size) (by simp) (by simpa using hc2)
      rw [show (srt [(k : Int) + 1, ia]).length = 2 by simp] at h
      exact h
     have HB4 := Lib.hid hb4
     clear hS hown4 hgrow hH hb4
     go_wp2_with (first
      | (go_at_call 71; with_reducible refine HS.out.mono ?_; rintro e w5 ⟨rfl, hH5, hb5⟩)
      | (go_at_call 72; with_reducible refine (HC.out _ hb5 hH5).mono ?_; rintro e w6 ⟨⟨s, rfl, hl⟩, hb6⟩))
     go_ret
     exact ⟨⟨s, rfl, hl⟩, HB4.out.trans (hb5.trans hb6)⟩
 by_cases hB : isJB io = true
 · unfold isJB at hB
   simp only [Bool.or_eq_true, beq_iff_eq] at hB
   rcases hB with (((((rfl | rfl) | rfl) | rfl) | rfl) | rfl) | rfl
   · go_wp2_with (first
      | (at_builtin; refine wpList_append_own _ rfl _ _ 40 rfl W.heap.size 3 i0 (.int .i64 0) 1 8 Tryz.underlying40 hi hz0 hz1 hz2 rfl (by decide) _ _ _ rfl (HOWN.out _ _ _) ⟨W.heap.size + 3, 0, none⟩ 1 1 [.int .i64 ib] rfl rfl ?c1B0 ?c2B0 ?c3B0 ?c4B0 ?c5B0 ?_))
     case c2B0 => first | rfl | (intro u hu; simp at hu; subst hu; rfl)
     case c3B0 => unfold maxLen; omega
     case c5B0 => first | omega | (rw [heap_size_alloc]; omega)
     intro v' w4 hown4 hgrow _
     have hb4 : Below W.heap.size W w4 := ((((Below.one W _).new _).new _).new _).grown hgrow (by rw [heap_size_alloc, heap_size_alloc, heap_size_alloc, heap_size_alloc]; omega) (fun q hq => owns_ge (HOWN.out (.cells #[] 0) (.cells #[] 0) (.cells #[] 0)) hq)
     obtain ⟨g2, cap, hv, hB2, hg2, hc2, hH⟩ := holds_of_owns (zs := [(k : Int) + 1, ib]) hown4 (by simp)
     replace hv : v' = .slice (some ⟨g2, 0, none⟩) 2 cap := hv
     subst hv
     have hS : Calls Tryz.prog 71 #[.slice (some ⟨g2, 0, none⟩) 2 cap] w4 _ := sort_any W.heap.size g2 cap [(k : Int) + 1, ib] w4 hH hB2 hg2 (by simp)
     have HS := Lib.hid hS
     have HC : Hid (∀ w5, Below W.heap.size w4 w5 → Holds (Value.int .i64) w5 g2 0 (srt [(k : Int) + 1, ib]).toArray → Calls Tryz.prog 72 #[.slice (some ⟨g2, 0, none⟩) 2 cap] w5 fun e w' => (∃ s : Sl, e = .returned (.slice s.a s.n s.c) ∧ Lst w' s 1 intC (compact (srt [(k : Int) + 1, ib]))) ∧ Below W.heap.size w5 w') := Lib.hid fun w5 hb5 hH5 => by
      have h := compact_any W.heap.size g2 cap (srt [(k : Int) + 1, ib]) w5 hH5 hB2 (Nat.lt_of_lt_of_le hg2 hb5.size) (by simp) (by simpa using hc2)
      rw [show (srt [(k : Int) + 1, ib]).length = 2 by simp] at h
      exact h
     have HB4 := Lib.hid hb4
     clear hS hown4 hgrow hH hb4
     go_wp2_with (first
      | (go_at_call 71; with_reducible refine HS.out.mono ?_; rintro e w5 ⟨rfl, hH5, hb5⟩)
      | (go_at_call 72; with_reducible refine (HC.out _ hb5 hH5).mono ?_; rintro e w6 ⟨⟨s, rfl, hl⟩, hb6⟩))
     go_ret
     exact ⟨⟨s, rfl, hl⟩, HB4.out.trans (hb5.trans hb6)⟩
   · go_wp2_with (first
      | (at_builtin; refine wpList_append_own _ rfl _ _ 40 rfl W.heap.size 3 i0 (.int .i64 0) 1 8 Tryz.underlying40 hi hz0 hz1 hz2 rfl (by decide) _ _ _ rfl (HOWN.out _ _ _) ⟨W.heap.size + 3, 0, none⟩ 1 1 [.int .i64 ib] rfl rfl ?c1B1 ?c2B1 ?c3B1 ?c4B1 ?c5B1 ?_))
     case c2B1 => first | rfl | (intro u hu; simp at hu; subst hu; rfl)
     case c3B1 => unfold maxLen; omega
     case c5B1 => first | omega | (rw [heap_size_alloc]; omega)
     intro v' w4 hown4 hgrow _
     have hb4 : Below W.heap.size W w4 := ((((Below.one W _).new _).new _).new _).grown hgrow (by rw [heap_size_alloc, heap_size_alloc, heap_size_alloc, heap_size_alloc]; omega) (fun q hq => owns_ge (HOWN.out (.cells #[] 0) (.cells #[] 0) (.cells #[] 0)) hq)
     obtain ⟨g2, cap, hv, hB2, hg2, hc2, hH⟩ := holds_of_owns (zs := [(k : Int) + 1, ib]) hown4 (by simp)
     replace hv : v' = .slice (some ⟨g2, 0, none⟩) 2 cap := hv
     subst hv
     have hS : Calls Tryz.prog 71 #[.slice (some ⟨g2, 0, none⟩) 2 cap] w4 _ := sort_any W.heap.size g2 cap [(k : Int) + 1, ib] w4 hH hB2 hg2 (by simp)
     have HS := Lib.hid hS
     have HC : Hid (∀ w5, Below W.heap.size w4 w5 → Holds (Value.int .i64) w5 g2 0 (srt [(k : Int) + 1, ib]).toArray → Calls Tryz.prog 72 #[.slice (some ⟨g2, 0, none⟩) 2 cap] w5 fun e w' => (∃ s : Sl, e = .returned (.slice s.a s.n s.c) ∧ Lst w' s 1 intC (compact (srt [(k : Int) + 1, ib]))) ∧ Below W.heap.size w5 w') := Lib.hid fun w5 hb5 hH5 => by
      have h := compact_any W.heap.size g2 cap (srt [(k : Int) + 1, ib]) w5 hH5 hB2 (Nat.lt_of_lt_of_le hg2 hb5.size) (by simp) (by simpa using hc2)
      rw [show (srt [(k : Int) + 1, ib]).length = 2 by simp] at h
      exact h
     have HB4 := Lib.hid hb4
     clear hS hown4 hgrow hH hb4
     go_wp2_with (first
      | (go_at_call 71; with_reducible refine HS.out.mono ?_; rintro e w5 ⟨rfl, hH5, hb5⟩)
      | (go_at_call 72; with_reducible refine (HC.out _ hb5 hH5).mono ?_; rintro e w6 ⟨⟨s, rfl, hl⟩, hb6⟩))
     go_ret
     exact ⟨⟨s, rfl, hl⟩, HB4.out.trans (hb5.trans hb6)⟩
   · go_wp2_with (first
      | (at_builtin; refine wpList_append_own _ rfl _ _ 40 rfl W.heap.size 3 i0 (.int .i64 0) 1 8 Tryz.underlying40 hi hz0 hz1 hz2 rfl (by decide) _ _ _ rfl (HOWN.out _ _ _) ⟨W.heap.size + 3, 0, none⟩ 1 1 [.int .i64 ib] rfl rfl ?c1B2 ?c2B2 ?c3B2 ?c4B2 ?c5B2 ?_))
     case c2B2 => first | rfl | (intro u hu; simp at hu; subst hu; rfl)
     case c3B2 => unfold maxLen; omega
     case c5B2 => first | omega | (rw [heap_size_alloc]; omega)
     intro v' w4 hown4 hgrow _
     have hb4 : Below W.heap.size W w4 := ((((Below.one W _).new _).new _).new _).grown hgrow (by rw [heap_size_alloc, heap_size_alloc, heap_size_alloc, heap_size_alloc]; omega) (fun q hq => owns_ge (HOWN.out (.cells #[] 0) (.cells #[] 0) (.cells #[] 0)) hq)
     obtain ⟨g2, cap, hv, hB2, hg2, hc2, hH⟩ := holds_of_owns (zs := [(k : Int) + 1, ib]) hown4 (by simp)
     replace hv : v' = .slice (some ⟨g2, 0, none⟩) 2 cap := hv
     subst hv
     have hS : Calls Tryz.prog 71 #[.slice (some ⟨g2, 0, none⟩) 2 cap] w4 _ := sort_any W.heap.size g2 cap [(k : Int) + 1, ib] w4 hH hB2 hg2 (by simp)
     have HS := Lib.hid hS
     have HC : Hid (∀ w5, Below W.heap.size w4 w5 → Holds (Value.int .i64) w5 g2 0 (srt [(k : Int) + 1, ib]).toArray → Calls Tryz.prog 72 #[.slice (some ⟨g2, 0, none⟩) 2 cap] w5 fun e w' => (∃ s : Sl, e = .returned (.slice s.a s.n s.c) ∧ Lst w' s 1 intC (compact (srt [(k : Int) + 1, ib]))) ∧ Below W.heap.size w5 w') := Lib.hid fun w5 hb5 hH5 => by
      have h := compact_any W.heap.size g2 cap (srt [(k : Int) + 1, ib]) w5 hH5 hB2 (Nat.lt_of_lt_of_le hg2 hb5.size) (by simp) (by simpa using hc2)
      rw [show (srt [(k : Int) + 1, ib]).length = 2 by simp] at h
      exact h
     have HB4 := Lib.hid hb4
     clear hS hown4 hgrow hH hb4
     go_wp2_with (first
      | (go_at_call 71; with_reducible refine HS.out.mono ?_; rintro e w5 ⟨rfl, hH5, hb5⟩)
      | (go_at_call 72; with_reducible refine (HC.out _ hb5 hH5).mono ?_; rintro e w6 ⟨⟨s, rfl, hl⟩, hb6⟩))
     go_ret
     exact ⟨⟨s, rfl, hl⟩, HB4.out.trans (hb5.trans hb6)⟩
   · go_wp2_with (first
      | (at_builtin; refine wpList_append_own _ rfl _ _ 40 rfl W.heap.size 3 i0 (.int .i64 0) 1 8 Tryz.underlying40 hi hz0 hz1 hz2 rfl (by decide) _ _ _ rfl (HOWN.out _ _ _) ⟨W.heap.size + 3, 0, none⟩ 1 1 [.int .i64 ib] rfl rfl ?c1B3 ?c2B3 ?c3B3 ?c4B3 ?c5B3 ?_))
     case c2B3 => first | rfl | (intro u hu; simp at hu; subst hu; rfl)
     case c3B3 => unfold maxLen; omega
     case c5B3 => first | omega | (rw [heap_size_alloc]; omega)
     intro v' w4 hown4 hgrow _
     have hb4 : Below W.heap.size W w4 := ((((Below.one W _).new _).new _).new _).grown hgrow (by rw [heap_size_alloc, heap_size_alloc, heap_size_alloc, heap_size_alloc]; omega) (fun q hq => owns_ge (HOWN.out (.cells #[] 0) (.cells #[] 0) (.cells #[] 0)) hq)
     obtain ⟨g2, cap, hv, hB2, hg2, hc2, hH⟩ := holds_of_owns (zs := [(k : Int) + 1, ib]) hown4 (by simp)
     replace hv : v' = .slice (some ⟨g2, 0, none⟩) 2 cap := hv
     subst hv
     have hS : Calls Tryz.prog 71 #[.slice (some ⟨g2, 0, none⟩) 2 cap] w4 _ := sort_any W.heap.size g2 cap [(k : Int) + 1, ib] w4 hH hB2 hg2 (by simp)
     have HS := Lib.hid hS
     have HC : Hid (∀ w5, Below W.heap.size w4 w5 → Holds (Value.int .i64) w5 g2 0 (srt [(k : Int) + 1, ib]).toArray → Calls Tryz.prog 72 #[.slice (some ⟨g2, 0, none⟩) 2 cap] w5 fun e w' => (∃ s : Sl, e = .returned (.slice s.a s.n s.c) ∧ Lst w' s 1 intC (compact (srt [(k : Int) + 1, ib]))) ∧ Below W.heap.size w5 w') := Lib.hid fun w5 hb5 hH5 => by
      have h := compact_any W.heap.size g2 cap (srt [(k : Int) + 1, ib]) w5 hH5 hB2 (Nat.lt_of_lt_of_le hg2 hb5.size) (by simp) (by simpa using hc2)
      rw [show (srt [(k : Int) + 1, ib]).length = 2 by simp] at h
      exact h
     have HB4 := Lib.hid hb4
     clear hS hown4 hgrow hH hb4
     go_wp2_with (first
      | (go_at_call 71; with_reducible refine HS.out.mono ?_; rintro e w5 ⟨rfl, hH5, hb5⟩)
      | (go_at_call 72; with_reducible refine (HC.out _ hb5 hH5).mono ?_; rintro e w6 ⟨⟨s, rfl, hl⟩, hb6⟩))
     go_ret
     exact ⟨⟨s, rfl, hl⟩, HB4.out.trans (hb5.trans hb6)⟩
   · go_wp2_with (first
      | (at_builtin; refine wpList_append_own _ rfl _ _ 40 rfl W.heap.size 3 i0 (.int .i64 0) 1 8 Tryz.underlying40 hi hz0 hz1 hz2 rfl (by decide) _ _ _ rfl (HOWN.out _ _ _) ⟨W.heap.size + 3, 0, none⟩ 1 1 [.int .i64 ib] rfl rfl ?c1B4 ?c2B4 ?c3B4 ?c4B4 ?c5B4 ?_))
     case c2B4 => first | rfl | (intro u hu; simp at hu; subst hu; rfl)
     case c3B4 => unfold maxLen; omega
     case c5B4 => first | omega | (rw [heap_size_alloc]; omega)
     intro v' w4 hown4 hgrow _
     have hb4 : Below W.heap.size W w4 := ((((Below.one W _).new _).new _).new _).grown hgrow (by rw [heap_size_alloc, heap_size_alloc, heap_size_alloc, heap_size_alloc]; omega) (fun q hq => owns_ge (HOWN.out (.cells #[] 0) (.cells #[] 0) (.cells #[] 0)) hq)
     obtain ⟨g2, cap, hv, hB2, hg2, hc2, hH⟩ := holds_of_owns (zs := [(k : Int) + 1, ib]) hown4 (by simp)
     replace hv : v' = .slice (some ⟨g2, 0, none⟩) 2 cap := hv
     subst hv
     have hS : Calls Tryz.prog 71 #[.slice (some ⟨g2, 0, none⟩) 2 cap] w4 _ := sort_any W.heap.size g2 cap [(k : Int) + 1, ib] w4 hH hB2 hg2 (by simp)
     have HS := Lib.hid hS
     have HC : Hid (∀ w5, Below W.heap.size w4 w5 → Holds (Value.int .i64) w5 g2 0 (srt [(k : Int) + 1, ib]).toArray → Calls Tryz.prog 72 #[.slice (some ⟨g2, 0, none⟩) 2 cap] w5 fun e w' => (∃ s : Sl, e = .returned (.slice s.a s.n s.c) ∧ Lst w' s 1 intC (compact (srt [(k : Int) + 1, ib]))) ∧ Below W.heap.size w5 w') := Lib.hid fun w5 hb5 hH5 => by
      have h := compact_any W.heap.size g2 cap (srt [(k : Int) + 1, ib]) w5 hH5 hB2 (Nat.lt_of_lt_of_le hg2 hb5.size) (by simp) (by simpa using hc2)
      rw [show (srt [(k : Int) + 1, ib]).length = 2 by simp] at h
      exact h
     have HB4 := Lib.hid hb4
     clear hS hown4 hgrow hH hb4
     go_wp2_with (first
      | (go_at_call 71; with_reducible refine HS.out.mono ?_; rintro e w5 ⟨rfl, hH5, hb5⟩)
      | (go_at_call 72; with_reducible refine (HC.out _ hb5 hH5).mono ?_; rintro e w6 ⟨⟨s, rfl, hl⟩, hb6⟩))
     go_ret
     exact ⟨⟨s, rfl, hl⟩, HB4.out.trans (hb5.trans hb6)⟩
   · go_wp2_with (first
      | (at_builtin; refine wpList_append_own _ rfl _ _ 40 rfl W.heap.size 3 i0 (.int .i64 0) 1 8 Tryz.underlying40 hi hz0 hz1 hz2 rfl (by decide) _ _ _ rfl (HOWN.out _ _ _) ⟨W.heap.size + 3, 0, none⟩ 1 1 [.int .i64 ib] rfl rfl ?c1B5 ?c2B5 ?c3B5 ?c4B5 ?c5B5 ?_))
     case c2B5 => first | rfl | (intro u hu; simp at hu; subst hu; rfl)
     case c3B5 => unfold maxLen; omega
     case c5B5 => first | omega | (rw [heap_size_alloc]; omega)
     intro v' w4 hown4 hgrow _
     have hb4 : Below W.heap.size W w4 := ((((Below.one W _).new _).new _).new _).grown hgrow (by rw [heap_size_alloc, heap_size_alloc, heap_size_alloc, heap_size_alloc]; omega) (fun q hq => owns_ge (HOWN.out (.cells #[] 0) (.cells #[] 0) (.cells #[] 0)) hq)
     obtain ⟨g2, cap, hv, hB2, hg2, hc2, hH⟩ := holds_of_owns (zs := [(k : Int) + 1, ib]) hown4 (by simp)
     replace hv : v' = .slice (some ⟨g2, 0, none⟩) 2 cap := hv
     subst hv
     have hS : Calls Tryz.prog 71 #[.slice (some ⟨g2, 0, none⟩) 2 cap] w4 _ := sort_any W.heap.size g2 cap [(k : Int) + 1, ib] w4 hH hB2 hg2 (by simp)
     have HS := Lib.hid hS
     have HC : Hid (∀ w5, Below W.heap.size w4 w5 → Holds (Value.int .i64) w5 g2 0 (srt [(k : Int) + 1, ib]).toArray → Calls Tryz.prog 72 #[.slice (some ⟨g2, 0, none⟩) 2 cap] w5 fun e w' => (∃ s : Sl, e = .returned (.slice s.a s.n s.c) ∧ Lst w' s 1 intC (compact (srt [(k : Int) + 1, ib]))) ∧ Below W.heap.size w5 w') := Lib.hid fun w5 hb5 hH5 => by
      have h := compact_any W.heap.size g2 cap (srt [(k : Int) + 1, ib]) w5 hH5 hB2 (Nat.lt_of_lt_of_le hg2 hb5.size) (by simp) (by simpa using hc2)
      rw [show (srt [(k : Int) + 1, ib]).length = 2 by simp] at h
      exact h
     have HB4 := Lib.hid hb4
     clear hS hown4 hgrow hH hb4
     go_wp2_with (first
      | (go_at_call 71; with_reducible refine HS.out.mono ?_; rintro e w5 ⟨rfl, hH5, hb5⟩)
      | (go_at_call 72; with_reducible refine (HC.out _ hb5 hH5).mono ?_; rintro e w6 ⟨⟨s, rfl, hl⟩, hb6⟩))
     go_ret
     exact ⟨⟨s, rfl, hl⟩, HB4.out.trans (hb5.trans hb6)⟩
   · go_wp2_with (first
      | (at_builtin; refine wpList_append_own _ rfl _ _ 40 rfl W.heap.size 3 i0 (.int .i64 0) 1 8 Tryz.underlying40 hi hz0 hz1 hz2 rfl (by decide) _ _ _ rfl (HOWN.out _ _ _) ⟨W.heap.size + 3, 0, none⟩ 1 1 [.int .i64 ib] rfl rfl ?c1B6 ?c2B6 ?c3B6 ?c4B6 ?c5B6 ?_))
     case c2B6 => first | rfl | (intro u hu; simp at hu; subst hu; rfl)
     case c3B6 => unfold maxLen; omega
     case c5B6 => first | omega | (rw [heap_size_alloc]; omega)
     intro v' w4 hown4 hgrow _
     have hb4 : Below W.heap.size W w4 := ((((Below.one W _).new _).new _).new _).grown hgrow (by rw [heap_size_alloc, heap_size_alloc, heap_size_alloc, heap_size_alloc]; omega) (fun q hq => owns_ge (HOWN.out (.cells #[] 0) (.cells #[] 0) (.cells #[] 0)) hq)
     obtain ⟨g2, cap, hv, hB2, hg2, hc2, hH⟩ := holds_of_owns (zs := [(k : Int) + 1, ib]) hown4 (by simp)
     replace hv : v' = .slice (some ⟨g2, 0, none⟩) 2 cap := hv
     subst hv
     have hS : Calls Tryz.prog 71 #[.slice (some ⟨g2, 0, none⟩) 2 cap] w4 _ := sort_any W.heap.size g2 cap [(k : Int) + 1, ib] w4 hH hB2 hg2 (by simp)
     have HS := Lib.hid hS
     have HC : Hid (∀ w5, Below W.heap.size w4 w5 → Holds (Value.int .i64) w5 g2 0 (srt [(k : Int) + 1, ib]).toArray → Calls Tryz.prog 72 #[.slice (some ⟨g2, 0, none⟩) 2 cap] w5 fun e w' => (∃ s : Sl, e = .returned (.slice s.a s.n s.c) ∧ Lst w' s 1 intC (compact (srt [(k : Int) + 1, ib]))) ∧ Below W.heap.size w5 w') := Lib.hid fun w5 hb5 hH5 => by
      have h := compact_any W.heap.size g2 cap (srt [(k : Int) + 1, ib]) w5 hH5 hB2 (Nat.lt_of_lt_of_le hg2 hb5.size) (by simp) (by simpa using hc2)
      rw [show (srt [(k : Int) + 1, ib]).length = 2 by simp] at h
      exact h
     have HB4 := Lib.hid hb4
     clear hS hown4 hgrow hH hb4
     go_wp2_with (first
      | (go_at_call 71; with_reducible refine HS.out.mono ?_; rintro e w5 ⟨rfl, hH5, hb5⟩)
      | (go_at_call 72; with_reducible refine (HC.out _ hb5 hH5).mono ?_; rintro e w6 ⟨⟨s, rfl, hl⟩, hb6⟩))
     go_ret
     exact ⟨⟨s, rfl, hl⟩, HB4.out.trans (hb5.trans hb6)⟩
 have hnA : isJA io = false := by simpa using hA
 have hnB : isJB io = false := by simpa using hB
 have hlf : leadsF k ⟨io, ia, ib, ic, id⟩ = compact (srt [(k : Int) + 1]) := by
  unfold leadsF
  rw [if_neg (by simpa using x35), if_neg (by simpa using x10)]
  simp only [hnA, hnB]
  rfl
 unfold isJA at hnA
 unfold isJB at hnB
 simp only [Bool.or_eq_false_iff] at hnA hnB
 obtain ⟨x11, x12⟩ := hnA
 obtain ⟨⟨⟨⟨⟨⟨x13, x14⟩, x16⟩, x17⟩, x21⟩, x15⟩, x22⟩ := hnB
 have hown : ∀ a b, ((((W.alloc a).alloc b).alloc (.cells #[.int .i64 ((k : Int) + 1)] 3))).ownsRow W.heap.size 3 1 (.slice (some ⟨W.heap.size + 1 + 1, 0, none⟩) 1 1) 1 [.int .i64 ((k : Int) + 1)] := fun a b => owns_one (zs := []) (at_two W a b _) (by omega)
 have hH := fun a b => holds_of_owns (zs := [(k : Int) + 1]) (hown a b) (by simp)
 have hH1 : ∀ a b, Holds (Value.int .i64) (((W.alloc a).alloc b).alloc (.cells #[.int .i64 ((k : Int) + 1)] 3)) (W.heap.size + 1 + 1) 0 [(k : Int) + 1].toArray := fun a b => by
  obtain ⟨g2, cap, hv, _, _, _, h⟩ := hH a b
  injection hv with q1 q2 q3
  injection q1 with q1
  injection q1 with q1
  subst q1
  exact h
 have hS : ∀ a b, Calls Tryz.prog 71 #[.slice (some ⟨W.heap.size + 1 + 1, 0, none⟩) 1 1] (((W.alloc a).alloc b).alloc (.cells #[.int .i64 ((k : Int) + 1)] 3)) _ := fun a b => sort_any W.heap.size (W.heap.size + 1 + 1) 1 [(k : Int) + 1] _ (hH1 a b) (by omega) (by rw [heap_size_alloc, heap_size_alloc, heap_size_alloc]; omega) (by simp)
 have HS := Lib.hid hS
 have HC : Hid (∀ w5, W.heap.size + 1 + 1 < w5.heap.size → Holds (Value.int .i64) w5 (W.heap.size + 1 + 1) 0 (srt [(k : Int) + 1]).toArray → Calls Tryz.prog 72 #[.slice (some ⟨W.heap.size + 1 + 1, 0, none⟩) 1 1] w5 fun e w' => (∃ s : Sl, e = .returned (.slice s.a s.n s.c) ∧ Lst w' s 1 intC (compact (srt [(k : Int) + 1]))) ∧ Below W.heap.size w5 w') := Lib.hid fun w5 hb5 hH5 => by
  have h := compact_any W.heap.size (W.heap.size + 1 + 1) 1 (srt [(k : Int) + 1]) w5 hH5 (by omega) hb5 (by simp) (by simp)
  rw [show (srt [(k : Int) + 1]).length = 1 by simp] at h
  exact h
 have HLF := Lib.hid hlf
 clear hS hH1 hH hown hlf hA hB
 go_wp2_with (first
  | (go_at_call 71; with_reducible refine (HS.out _ _).mono ?_; rintro e w5 ⟨rfl, hH5, hb5⟩)
  | (go_at_call 72; with_reducible refine (HC.out _ ?hz hH5).mono ?_
     case hz => have := hb5.size; rw [heap_size_alloc, heap_size_alloc, heap_size_alloc] at this; omega
     rintro e w6 ⟨⟨s, rfl, hl⟩, hb6⟩))
 go_ret
 exact ⟨⟨s, rfl, by rw [HLF.out]; exact hl⟩, (((Below.one W _).new _).new _).trans (hb5.trans hb6)⟩
end Go.Proofs.Vf
