/- GenReads, by hand: part H25. -/
import Derived.Test.YtkpaphoeldcakaaDoorH24
namespace Go.Proofs.YtkpaphoeldcakaaDoor.Gr
open Go Go.Proofs Go.RowKit Go.Lib
attribute [local go_sem ↓] Go.wp_at_zero Go.wp_at_succ
def CurE (w : World) (g o : Nat) : Prop := ∃ x b c, w.cell? ⟨g, o, none⟩ = some (.string x) ∧ w.cell? ⟨g, o + 1, none⟩ = some (.bool b) ∧ w.cell? ⟨g, o + 2, none⟩ = some (.bool c)
def TotE (w : World) (g o : Nat) : Prop := ∃ x b, w.cell? ⟨g, o, none⟩ = some (.string x) ∧ w.cell? ⟨g, o + 1, none⟩ = some (.bool b)
def Boo0 (w : World) (g o : Nat) : Prop := ∃ b, w.cell? ⟨g, o, none⟩ = some (.bool b)
def SrtE (w : World) (B : Nat) (g o : Nat) : Prop := ∃ (a : Option Addr) (n c : Nat) (q : Int) (b : Bool), w.cell? ⟨g, o, none⟩ = some (.slice a n c) ∧ w.cell? ⟨g, o + 1, none⟩ = some (.int .i64 q) ∧ w.cell? ⟨g, o + 2, none⟩ = some (.bool b) ∧ n ≤ 9223372036854775807 ∧ ListAt B ⟨a, n, c⟩ 1 (Boo0 w)
/-- Two lists hold the same constants; the same instructions. -/
def ConPair (w : World) (B : Nat) (a b : Option Addr) (n : Nat) : Prop := ∀ i, i < n → ∃ g o g' o' k q s, a = some ⟨g, o, none⟩ ∧ b = some ⟨g', o', none⟩ ∧ g < B ∧ g' < B ∧
  w.cell? ⟨g, o + i * 3, none⟩ = some (.int .u8 k) ∧ w.cell? ⟨g, o + i * 3 + 1, none⟩ = some (.int .i64 q) ∧ w.cell? ⟨g, o + i * 3 + 2, none⟩ = some (.string s) ∧
  w.cell? ⟨g', o' + i * 3, none⟩ = some (.int .u8 k) ∧ w.cell? ⟨g', o' + i * 3 + 1, none⟩ = some (.int .i64 q) ∧ w.cell? ⟨g', o' + i * 3 + 2, none⟩ = some (.string s)
def InsPair (w : World) (B : Nat) (a b : Option Addr) (n : Nat) : Prop := ∀ i, i < n → ∃ g o g' o' k x y z u, a = some ⟨g, o, none⟩ ∧ b = some ⟨g', o', none⟩ ∧ g < B ∧ g' < B ∧
  w.cell? ⟨g, o + i * 5, none⟩ = some (.int .u8 k) ∧ w.cell? ⟨g, o + i * 5 + 1, none⟩ = some (.int .i64 x) ∧ w.cell? ⟨g, o + i * 5 + 2, none⟩ = some (.int .i64 y) ∧ w.cell? ⟨g, o + i * 5 + 3, none⟩ = some (.int .i64 z) ∧ w.cell? ⟨g, o + i * 5 + 4, none⟩ = some (.int .i64 u) ∧
  w.cell? ⟨g', o' + i * 5, none⟩ = some (.int .u8 k) ∧ w.cell? ⟨g', o' + i * 5 + 1, none⟩ = some (.int .i64 x) ∧ w.cell? ⟨g', o' + i * 5 + 2, none⟩ = some (.int .i64 y) ∧ w.cell? ⟨g', o' + i * 5 + 3, none⟩ = some (.int .i64 z) ∧ w.cell? ⟨g', o' + i * 5 + 4, none⟩ = some (.int .i64 u)
/-- What Same reads, where it tells so. -/
structure SameIn (W : World) (sN sC sS sT : Sl) (ca ca2 : Option Addr) (nc : Nat) (da da2 : Option Addr) (nd : Nat) : Prop where
  names : ListAt W.heap.size sN 1 (Str0 W)
  curs : ListAt W.heap.size sC 3 (CurE W)
  sorts : ListAt W.heap.size sS 3 (SrtE W W.heap.size)
  tots : ListAt W.heap.size sT 2 (TotE W)
  cons : ConPair W W.heap.size ca ca2 nc
  code : InsPair W W.heap.size da da2 nd
  n1 : sN.n ≤ 9223372036854775807
  n2 : sC.n ≤ 9223372036854775807
  n3 : sS.n ≤ 9223372036854775807
  n4 : sT.n ≤ 9223372036854775807
  n5 : nc ≤ 9223372036854775807
  n6 : nd ≤ 9223372036854775807
/-- A world on the way: the two programs' own blocks. -/
structure Two (W : World) (p q : Pg) (w : World) : Prop where
  below : Below W.heap.size W w
  b0 : w.heap[W.heap.size]? = some (.cells p.cells 29)
  b1 : w.heap[W.heap.size + 1]? = some (.cells q.cells 29)
theorem Two.on {W : World} {p q : Pg} {w w' : World} (h : Two W p q w) (hb : Below (W.heap.size + 2) w w') : Two W p q w' :=
  ⟨h.below.trans (hb.mono (by omega)), (hb.block _ (by omega)).trans h.b0, (hb.block _ (by omega)).trans h.b1⟩
theorem Two.low {W : World} {p q : Pg} {w : World} (h : Two W p q w) : W.heap.size + 2 ≤ w.heap.size := by
  have := (Array.getElem?_eq_some_iff.1 h.b1).1
  omega
theorem Two.cell {W : World} {p q : Pg} {w : World} (h : Two W p q w) {g o : Nat} {v : Value} (hg : g < W.heap.size) (hc : W.cell? ⟨g, o, none⟩ = some v) : w.cell? ⟨g, o, none⟩ = some v := (h.below.cell (p := ⟨g, o, none⟩) hg).trans hc
theorem Two.drewN {W : World} {p q : Pg} {w : World} (h : Two W p q w) (n : Nat) : Two W p q (w.drewN n) := h.on (below_drewN (Below.refl _ _) n)
/-- Two copies of a sorter are made. -/
theorem two_new {W : World} {p q : Pg} {w : World} {cs : Array Value} (h : Hid (Two W p q w)) : Hid (Two W p q ((w.drew.alloc (.cells cs 71)).alloc (.cells cs 71)) ∧ ((w.drew.alloc (.cells cs 71)).alloc (.cells cs 71)).heap[w.heap.size]? = some (.cells cs 71) ∧ ((w.drew.alloc (.cells cs 71)).alloc (.cells cs 71)).heap[w.heap.size + 1]? = some (.cells cs 71)) := by
  have hl := h.out.low
  have s1 : (w.drew.alloc (.cells cs 71)).heap.size = w.heap.size + 1 := heap_size_alloc w.drew _
  have hb : Below w.heap.size w ((w.drew.alloc (.cells cs 71)).alloc (.cells cs 71)) := ((Below.refl w.heap.size w).drew.alloc (show w.heap.size ≤ w.drew.heap.size from Nat.le_refl _) _).alloc (by rw [s1]; omega) _
  refine Lib.hid ⟨h.out.on (hb.mono hl), ?_, ?_⟩
  · exact (Below.heap_alloc _ _ _ (by rw [s1]; omega)).trans (heap_alloc_new w.drew _)
  · have := heap_alloc_new (w.drew.alloc (.cells cs 71)) (.cells cs 71)
    rw [s1] at this; exact this
theorem two_new2 {W : World} {p q : Pg} {w : World} {cs : Array Value} (h : Hid (Two W p q w)) : Hid (Two W p q ((w.drew.alloc (.cells cs 71)).alloc (.cells cs 71)) ∧ ((w.drew.alloc (.cells cs 71)).alloc (.cells cs 71)).heap[w.heap.size + 1]? = some (.cells cs 71) ∧ ((w.drew.alloc (.cells cs 71)).alloc (.cells cs 71)).heap[w.heap.size]? = some (.cells cs 71)) :=
  Lib.hid ⟨(two_new h).out.1, (two_new h).out.2.2, (two_new h).out.2.1⟩
/-- The body of Same behind its k-th loop. -/
noncomputable def ssuf (k : Nat) : Code := dropS (k + 2) (Tryd.f8.body.getD .skip)
set_option maxHeartbeats 4000000 in
set_option maxRecDepth 100000 in
theorem ssuf5 (ver regs binds : Int) (names curs sorts tots : Sl) (ca ca2 : Option Addr) (nc cc cc2 : Nat) (da da2 : Option Addr) (nd dc dc2 : Nat) (W wr0 : World) (_H : Hid (SameIn W names curs sorts tots ca ca2 nc da da2 nd)) (h0 : Hid (Two W (⟨ver, regs, binds, names, ⟨ca, nc, cc⟩, curs, sorts, tots, ⟨da, nd, dc⟩⟩ : Pg) (⟨ver, regs, binds, names, ⟨ca2, nc, cc2⟩, curs, sorts, tots, ⟨da2, nd, dc2⟩⟩ : Pg) wr0)) (b4 u5 u6 u7 u8 u9 u10 u11 u12 u13 u14 u15 u16 u17 u18 u19 u20 u21 u22 u23 u24 u25 u26 u27 u28 u29 u30 u31 u32 u33 u34 u35 u36 u37 u38 u39 u40 u41 u42 u43 u44 u45 u46 u47 u48 u49 u50 u51 u52 u53 u54 u55 u56 u57 u58 u59 u60 u61 u62 u63 u64 u65 u66 u67 u68 u69 u70 u71 u72 u73 u74 u75 u76 u77 u78 u79 u80 u81 u82 u83 u84 u85 u86 u87 u88 u89 u90 u91 u92 u93 u94 u95 u96 u97 u98 u99 u100 u101 u102 u103 u104 u105 u106 u107 u108 u109 u110 u111 u112 u113 u114 u115 u116 u117 u118 u119 u120 u121 u122 u123 u124 u125 u126 u127 u128 u129 u130 u131 u132 u133 u134 u135 u136 u137 u138 u139 u140 u141 u142 u143 u144 u145 u146 u147 u148 u149 u150 u151 u152 u153 u154 u155 u156 u157 u158 u159 u160 u161 u162 u163 u164 u165 u166 u167 u168 u169 u170 u171 u172 u173 u174 u175 u176 u177 u178 u179 u180 u181 u182 u183 u184 u185 u186 u187 u188 u189 u190 u191 u192 u193 u194 u195 u196 u197 u198 u199 u200 u201 u202 u203 u204 u205 u206 u207 u208 u209 u210 u211 u212 : Value) :
    Code.wp Tryd.prog (ssuf 5) (bodyPost Tryd.prog Tryd.f8 fun e w' => e = .returned (.bool true) ∧ Below W.heap.size W w') ⟨#[(⟨ver, regs, binds, names, ⟨ca, nc, cc⟩, curs, sorts, tots, ⟨da, nd, dc⟩⟩ : Pg).v, (⟨ver, regs, binds, names, ⟨ca2, nc, cc2⟩, curs, sorts, tots, ⟨da2, nd, dc2⟩⟩ : Pg).v, .pointer (some ⟨W.heap.size, 0, none⟩), .pointer (some ⟨W.heap.size + 1, 0, none⟩), b4, u5, u6, u7, u8, u9, u10, u11, u12, u13, u14, u15, u16, u17, u18, u19, u20, u21, u22, u23, u24, u25, u26, u27, u28, u29, u30, u31, u32, u33, u34, u35, u36, u37, u38, u39, u40, u41, u42, u43, u44, u45, u46, u47, u48, u49, u50, u51, u52, u53, u54, u55, u56, u57, u58, u59, u60, u61, u62, u63, u64, u65, u66, u67, u68, u69, u70, u71, u72, u73, u74, u75, u76, u77, u78, u79, u80, u81, u82, u83, u84, u85, u86, u87, u88, u89, u90, u91, u92, u93, u94, u95, u96, u97, u98, u99, u100, u101, u102, u103, u104, u105, u106, u107, u108, u109, u110, u111, u112, u113, u114, u115, u116, u117, u118, u119, u120, u121, u122, u123, u124, u125, u126, u127, u128, u129, u130, u131, u132, u133, u134, u135, u136, u137, u138, u139, u140, u141, u142, u143, u144, u145, u146, u147, u148, u149, u150, u151, u152, u153, u154, u155, u156, u157, u158, u159, u160, u161, u162, u163, u164, u165, u166, u167, u168, u169, u170, u171, u172, u173, u174, u175, u176, u177, u178, u179, u180, u181, u182, u183, u184, u185, u186, u187, u188, u189, u190, u191, u192, u193, u194, u195, u196, u197, u198, u199, u200, u201, u202, u203, u204, u205, u206, u207, u208, u209, u210, u211, u212], []⟩ wr0 := by
  conv => arg 2; whnf
  go_wp2
  go_ret
  exact ⟨rfl, h0.out.below⟩
set_option maxHeartbeats 4000000 in
set_option maxRecDepth 100000 in
theorem ssuf4 (ver regs binds : Int) (names curs sorts tots : Sl) (ca ca2 : Option Addr) (nc cc cc2 : Nat) (da da2 : Option Addr) (nd dc dc2 : Nat) (W wr0 : World) (H : Hid (SameIn W names curs sorts tots ca ca2 nc da da2 nd)) (h0 : Hid (Two W (⟨ver, regs, binds, names, ⟨ca, nc, cc⟩, curs, sorts, tots, ⟨da, nd, dc⟩⟩ : Pg) (⟨ver, regs, binds, names, ⟨ca2, nc, cc2⟩, curs, sorts, tots, ⟨da2, nd, dc2⟩⟩ : Pg) wr0)) (b4 u5 u6 u7 u8 u9 u10 u11 u12 u13 u14 u15 u16 u17 u18 u19 u20 u21 u22 u23 u24 u25 u26 u27 u28 u29 u30 u31 u32 u33 u34 u35 u36 u37 u38 u39 u40 u41 u42 u43 u44 u45 u46 u47 u48 u49 u50 u51 u52 u53 u54 u55 u56 u57 u58 u59 u60 u61 u62 u63 u64 u65 u66 u67 u68 u69 u70 u71 u72 u73 u74 u75 u76 u77 u78 u79 u80 u81 u82 u83 u84 u85 u86 u87 u88 u89 u90 u91 u92 u93 u94 u95 u96 u97 u98 u99 u100 u101 u102 u103 u104 u105 u106 u107 u108 u109 u110 u111 u112 u113 u114 u115 u116 u117 u118 u119 u120 u121 u122 u123 u124 u125 u126 u127 u128 u129 u130 u131 u132 u133 u134 u135 u136 u137 u138 u139 u140 u141 u142 u143 u144 u145 u146 u147 u148 u149 u150 u151 u152 u153 u154 u155 u156 u157 u158 u159 u160 u161 u162 u163 u164 u165 u166 u167 u168 u169 u170 u171 u172 u173 u174 u175 u176 u177 u178 u179 u180 u181 u182 u183 u184 u185 u186 u187 u188 u189 u190 u191 u192 u193 u194 u195 u196 u197 u198 u199 u200 u201 u202 u203 u204 u205 u206 u207 u208 u209 u210 u211 u212 : Value) :
    Code.wp Tryd.prog (ssuf 4) (bodyPost Tryd.prog Tryd.f8 fun e w' => e = .returned (.bool true) ∧ Below W.heap.size W w') ⟨#[(⟨ver, regs, binds, names, ⟨ca, nc, cc⟩, curs, sorts, tots, ⟨da, nd, dc⟩⟩ : Pg).v, (⟨ver, regs, binds, names, ⟨ca2, nc, cc2⟩, curs, sorts, tots, ⟨da2, nd, dc2⟩⟩ : Pg).v, .pointer (some ⟨W.heap.size, 0, none⟩), .pointer (some ⟨W.heap.size + 1, 0, none⟩), b4, u5, u6, u7, u8, u9, u10, u11, u12, u13, u14, u15, u16, u17, u18, u19, u20, u21, u22, u23, u24, u25, u26, u27, u28, u29, u30, u31, u32, u33, u34, u35, u36, u37, u38, u39, u40, u41, u42, u43, u44, u45, u46, u47, u48, u49, u50, u51, u52, u53, u54, u55, u56, u57, u58, u59, u60, u61, u62, u63, u64, u65, u66, u67, u68, u69, u70, u71, u72, u73, u74, u75, u76, u77, u78, u79, u80, u81, u82, u83, u84, u85, u86, u87, u88, u89, u90, u91, u92, u93, u94, u95, u96, u97, u98, u99, u100, u101, u102, u103, u104, u105, u106, u107, u108, u109, u110, u111, u112, u113, u114, u115, u116, u117, u118, u119, u120, u121, u122, u123, u124, u125, u126, u127, u128, u129, u130, u131, u132, u133, u134, u135, u136, u137, u138, u139, u140, u141, u142, u143, u144, u145, u146, u147, u148, u149, u150, u151, u152, u153, u154, u155, u156, u157, u158, u159, u160, u161, u162, u163, u164, u165, u166, u167, u168, u169, u170, u171, u172, u173, u174, u175, u176, u177, u178, u179, u180, u181, u182, u183, u184, u185, u186, u187, u188, u189, u190, u191, u192, u193, u194, u195, u196, u197, u198, u199, u200, u201, u202, u203, u204, u205, u206, u207, u208, u209, u210, u211, u212], []⟩ wr0 := by
  conv => arg 2; whnf
  have c1 := blk_cell h0.out.b0
  have c2 := blk_cell h0.out.b1
  go_upto_block 10 with (fail)
  go_cut [4] from 5 (fun s4 wx => Hid (Two W (⟨ver, regs, binds, names, ⟨ca, nc, cc⟩, curs, sorts, tots, ⟨da, nd, dc⟩⟩ : Pg) (⟨ver, regs, binds, names, ⟨ca2, nc, cc2⟩, curs, sorts, tots, ⟨da2, nd, dc2⟩⟩ : Pg) wx))
  case first =>
    go_wp2_with (fail)
    go_loopg [198] (nd) (fun lft i wr => ∃ (kk : Nat), kk + lft = nd ∧ i = .int .i64 kk ∧ Hid (Two W (⟨ver, regs, binds, names, ⟨ca, nc, cc⟩, curs, sorts, tots, ⟨da, nd, dc⟩⟩ : Pg) (⟨ver, regs, binds, names, ⟨ca2, nc, cc2⟩, curs, sorts, tots, ⟨da2, nd, dc2⟩⟩ : Pg) wr))
    case atStart => exact ⟨0, by omega, rfl, h0⟩
    case round =>
      obtain ⟨kk, hl, rfl, ht⟩ := hrel
      have c1 := blk_cell ht.out.b0
      have c2 := blk_cell ht.out.b1
      by_cases hlk : kk < nd
      · have hlt : ((kk : Int) < (nd : Int)) = True := by simp; omega
        have hlt2 := H.out.n6
        obtain ⟨g, o, g2, o2, k, x, y, z, u, e1, e2, hg, hg2, x0, x1, x2, x3, x4, y0, y1, y2, y3, y4⟩ := H.out.code kk hlk
        have d0 : wr.cell? ⟨g, o + kk * 5, none⟩ = some (.int .u8 k) := ht.out.cell (by first | exact hg | exact hg2) (by first | exact x0 | exact x1 | exact x2 | exact x3 | exact x4 | exact y0 | exact y1 | exact y2 | exact y3 | exact y4)
        have f0 : wr.cell? ⟨g2, o2 + kk * 5, none⟩ = some (.int .u8 k) := ht.out.cell (by first | exact hg | exact hg2) (by first | exact x0 | exact x1 | exact x2 | exact x3 | exact x4 | exact y0 | exact y1 | exact y2 | exact y3 | exact y4)
        have d1 : wr.cell? ⟨g, o + kk * 5 + 1, none⟩ = some (.int .i64 x) := ht.out.cell (by first | exact hg | exact hg2) (by first | exact x0 | exact x1 | exact x2 | exact x3 | exact x4 | exact y0 | exact y1 | exact y2 | exact y3 | exact y4)
        have f1 : wr.cell? ⟨g2, o2 + kk * 5 + 1, none⟩ = some (.int .i64 x) := ht.out.cell (by first | exact hg | exact hg2) (by first | exact x0 | exact x1 | exact x2 | exact x3 | exact x4 | exact y0 | exact y1 | exact y2 | exact y3 | exact y4)
        have d2 : wr.cell? ⟨g, o + kk * 5 + 2, none⟩ = some (.int .i64 y) := ht.out.cell (by first | exact hg | exact hg2) (by first | exact x0 | exact x1 | exact x2 | exact x3 | exact x4 | exact y0 | exact y1 | exact y2 | exact y3 | exact y4)
        have f2 : wr.cell? ⟨g2, o2 + kk * 5 + 2, none⟩ = some (.int .i64 y) := ht.out.cell (by first | exact hg | exact hg2) (by first | exact x0 | exact x1 | exact x2 | exact x3 | exact x4 | exact y0 | exact y1 | exact y2 | exact y3 | exact y4)
        have d3 : wr.cell? ⟨g, o + kk * 5 + 3, none⟩ = some (.int .i64 z) := ht.out.cell (by first | exact hg | exact hg2) (by first | exact x0 | exact x1 | exact x2 | exact x3 | exact x4 | exact y0 | exact y1 | exact y2 | exact y3 | exact y4)
        have f3 : wr.cell? ⟨g2, o2 + kk * 5 + 3, none⟩ = some (.int .i64 z) := ht.out.cell (by first | exact hg | exact hg2) (by first | exact x0 | exact x1 | exact x2 | exact x3 | exact x4 | exact y0 | exact y1 | exact y2 | exact y3 | exact y4)
        have d4 : wr.cell? ⟨g, o + kk * 5 + 4, none⟩ = some (.int .i64 u) := ht.out.cell (by first | exact hg | exact hg2) (by first | exact x0 | exact x1 | exact x2 | exact x3 | exact x4 | exact y0 | exact y1 | exact y2 | exact y3 | exact y4)
        have f4 : wr.cell? ⟨g2, o2 + kk * 5 + 4, none⟩ = some (.int .i64 u) := ht.out.cell (by first | exact hg | exact hg2) (by first | exact x0 | exact x1 | exact x2 | exact x3 | exact x4 | exact y0 | exact y1 | exact y2 | exact y3 | exact y4)
        have he := fun w => neq46 k x y z u w
        have hg0 : ∀ (op : BinOp) (a b : Operand) (w : World), (eqGuard op 46 a b (.agg #[.int .u8 k, .int .i64 x, .int .i64 y, .int .i64 z, .int .i64 u]) (.agg #[.int .u8 k, .int .i64 x, .int .i64 y, .int .i64 z, .int .i64 u])).run Tryd.prog w = .ok () w := fun op a b w => run_eqGuard_agg w op 46 a b _ _ (by kernel_rfl)
        clear x0 x1 x2 x3 x4 y0 y1 y2 y3 y4
        go_wp2
        go_quiet (fail)
        go_wp2
        go_roundg (nd - kk - 1)
        case measure => omega
        case rel => exact ⟨kk + 1, by omega, by first | rfl | go_num, Lib.hid (ht.out.drewN _)⟩
      · have hlt : ((kk : Int) < (nd : Int)) = False := by simp; omega
        go_wp2_with fail
        go_meet
        exact ht
  case rest =>
    rename (∀ (a : Act) (w : World), Code.wp _ _ _ a w → _) => hK
    refine hK _ _ ?_
    exact ssuf5 ver regs binds names curs sorts tots ca ca2 nc cc cc2 da da2 nd dc dc2 W wc H hcut _ _ _ _ _ _ _ _ _ _ _ _ _ _ _ _ _ _ _ _ _ _ _ _ _ _ _ _ _ _ _ _ _ _ _ _ _ _ _ _ _ _ _ _ _ _ _ _ _ _ _ _ _ _ _ _ _ _ _ _ _ _ _ _ _ _ _ _ _ _ _ _ _ _ _ _ _ _ _ _ _ _ _ _ _ _ _ _ _ _ _ _ _ _ _ _ _ _ _ _ _ _ _ _ _ _ _ _ _ _ _ _ _ _ _ _ _ _ _ _ _ _ _ _ _ _ _ _ _ _ _ _ _ _ _ _ _ _ _ _ _ _ _ _ _ _ _ _ _ _ _ _ _ _ _ _ _ _ _ _ _ _ _ _ _ _ _ _ _ _ _ _ _ _ _ _ _ _ _ _ _ _ _ _ _ _ _ _ _ _ _ _ _ _ _ _ _ _ _ _ _ _ _ _ _ _ _ _ _
set_option maxHeartbeats 4000000 in
set_option maxRecDepth 100000 in
theorem ssuf3 (ver regs binds : Int) (names curs sorts tots : Sl) (ca ca2 : Option Addr) (nc cc cc2 : Nat) (da da2 : Option Addr) (nd dc dc2 : Nat) (W wr0 : World) (H : Hid (SameIn W names curs sorts tots ca ca2 nc da da2 nd)) (h0 : Hid (Two W (⟨ver, regs, binds, names, ⟨ca, nc, cc⟩, curs, sorts, tots, ⟨da, nd, dc⟩⟩ : Pg) (⟨ver, regs, binds, names, ⟨ca2, nc, cc2⟩, curs, sorts, tots, ⟨da2, nd, dc2⟩⟩ : Pg) wr0)) (b4 u5 u6 u7 u8 u9 u10 u11 u12 u13 u14 u15 u16 u17 u18 u19 u20 u21 u22 u23 u24 u25 u26 u27 u28 u29 u30 u31 u32 u33 u34 u35 u36 u37 u38 u39 u40 u41 u42 u43 u44 u45 u46 u47 u48 u49 u50 u51 u52 u53 u54 u55 u56 u57 u58 u59 u60 u61 u62 u63 u64 u65 u66 u67 u68 u69 u70 u71 u72 u73 u74 u75 u76 u77 u78 u79 u80 u81 u82 u83 u84 u85 u86 u87 u88 u89 u90 u91 u92 u93 u94 u95 u96 u97 u98 u99 u100 u101 u102 u103 u104 u105 u106 u107 u108 u109 u110 u111 u112 u113 u114 u115 u116 u117 u118 u119 u120 u121 u122 u123 u124 u125 u126 u127 u128 u129 u130 u131 u132 u133 u134 u135 u136 u137 u138 u139 u140 u141 u142 u143 u144 u145 u146 u147 u148 u149 u150 u151 u152 u153 u154 u155 u156 u157 u158 u159 u160 u161 u162 u163 u164 u165 u166 u167 u168 u169 u170 u171 u172 u173 u174 u175 u176 u177 u178 u179 u180 u181 u182 u183 u184 u185 u186 u187 u188 u189 u190 u191 u192 u193 u194 u195 u196 u197 u198 u199 u200 u201 u202 u203 u204 u205 u206 u207 u208 u209 u210 u211 u212 : Value) :
    Code.wp Tryd.prog (ssuf 3) (bodyPost Tryd.prog Tryd.f8 fun e w' => e = .returned (.bool true) ∧ Below W.heap.size W w') ⟨#[(⟨ver, regs, binds, names, ⟨ca, nc, cc⟩, curs, sorts, tots, ⟨da, nd, dc⟩⟩ : Pg).v, (⟨ver, regs, binds, names, ⟨ca2, nc, cc2⟩, curs, sorts, tots, ⟨da2, nd, dc2⟩⟩ : Pg).v, .pointer (some ⟨W.heap.size, 0, none⟩), .pointer (some ⟨W.heap.size + 1, 0, none⟩), b4, u5, u6, u7, u8, u9, u10, u11, u12, u13, u14, u15, u16, u17, u18, u19, u20, u21, u22, u23, u24, u25, u26, u27, u28, u29, u30, u31, u32, u33, u34, u35, u36, u37, u38, u39, u40, u41, u42, u43, u44, u45, u46, u47, u48, u49, u50, u51, u52, u53, u54, u55, u56, u57, u58, u59, u60, u61, u62, u63, u64, u65, u66, u67, u68, u69, u70, u71, u72, u73, u74, u75, u76, u77, u78, u79, u80, u81, u82, u83, u84, u85, u86, u87, u88, u89, u90, u91, u92, u93, u94, u95, u96, u97, u98, u99, u100, u101, u102, u103, u104, u105, u106, u107, u108, u109, u110, u111, u112, u113, u114, u115, u116, u117, u118, u119, u120, u121, u122, u123, u124, u125, u126, u127, u128, u129, u130, u131, u132, u133, u134, u135, u136, u137, u138, u139, u140, u141, u142, u143, u144, u145, u146, u147, u148, u149, u150, u151, u152, u153, u154, u155, u156, u157, u158, u159, u160, u161, u162, u163, u164, u165, u166, u167, u168, u169, u170, u171, u172, u173, u174, u175, u176, u177, u178, u179, u180, u181, u182, u183, u184, u185, u186, u187, u188, u189, u190, u191, u192, u193, u194, u195, u196, u197, u198, u199, u200, u201, u202, u203, u204, u205, u206, u207, u208, u209, u210, u211, u212], []⟩ wr0 := by
  conv => arg 2; whnf
  have c1 := blk_cell h0.out.b0
  have c2 := blk_cell h0.out.b1
  go_upto_block 8 with (fail)
  go_cut [4] from 5 (fun s4 wx => Hid (Two W (⟨ver, regs, binds, names, ⟨ca, nc, cc⟩, curs, sorts, tots, ⟨da, nd, dc⟩⟩ : Pg) (⟨ver, regs, binds, names, ⟨ca2, nc, cc2⟩, curs, sorts, tots, ⟨da2, nd, dc2⟩⟩ : Pg) wx))
  case first =>
    go_wp2_with (fail)
    go_loopg [180] (tots.n) (fun lft i wr => ∃ (kk : Nat), kk + lft = tots.n ∧ i = .int .i64 kk ∧ Hid (Two W (⟨ver, regs, binds, names, ⟨ca, nc, cc⟩, curs, sorts, tots, ⟨da, nd, dc⟩⟩ : Pg) (⟨ver, regs, binds, names, ⟨ca2, nc, cc2⟩, curs, sorts, tots, ⟨da2, nd, dc2⟩⟩ : Pg) wr))
    case atStart => exact ⟨0, by omega, rfl, h0⟩
    case round =>
      obtain ⟨kk, hl, rfl, ht⟩ := hrel
      have c1 := blk_cell ht.out.b0
      have c2 := blk_cell ht.out.b1
      by_cases hlk : kk < tots.n
      · have hlt : ((kk : Int) < (tots.n : Int)) = True := by simp; omega
        have hlt2 := H.out.n4
        obtain ⟨g, o, e1, hg, s, b, x0, x1⟩ := H.out.tots kk hlk
        have d0 : wr.cell? ⟨g, o + kk * 2, none⟩ = some (.string s) := ht.out.cell hg x0
        have d1 : wr.cell? ⟨g, o + kk * 2 + 1, none⟩ = some (.bool b) := ht.out.cell hg x1
        have he := fun w => neq73 s b w
        have hg0 : ∀ (op : BinOp) (a b2 : Operand) (w : World), (eqGuard op 73 a b2 (.agg #[.string s, .bool b]) (.agg #[.string s, .bool b])).run Tryd.prog w = .ok () w := fun op a b2 w => run_eqGuard_agg w op 73 a b2 _ _ (by kernel_rfl)
        clear x0 x1
        go_wp2
        go_quiet (fail)
        go_wp2
        go_roundg (tots.n - kk - 1)
        case measure => omega
        case rel => exact ⟨kk + 1, by omega, by first | rfl | go_num, Lib.hid (ht.out.drewN _)⟩
      · have hlt : ((kk : Int) < (tots.n : Int)) = False := by simp; omega
        go_wp2_with fail
        go_meet
        exact ht
  case rest =>
    rename (∀ (a : Act) (w : World), Code.wp _ _ _ a w → _) => hK
    refine hK _ _ ?_
    exact ssuf4 ver regs binds names curs sorts tots ca ca2 nc cc cc2 da da2 nd dc dc2 W wc H hcut _ _ _ _ _ _ _ _ _ _ _ _ _ _ _ _ _ _ _ _ _ _ _ _ _ _ _ _ _ _ _ _ _ _ _ _ _ _ _ _ _ _ _ _ _ _ _ _ _ _ _ _ _ _ _ _ _ _ _ _ _ _ _ _ _ _ _ _ _ _ _ _ _ _ _ _ _ _ _ _ _ _ _ _ _ _ _ _ _ _ _ _ _ _ _ _ _ _ _ _ _ _ _ _ _ _ _ _ _ _ _ _ _ _ _ _ _ _ _ _ _ _ _ _ _ _ _ _ _ _ _ _ _ _ _ _ _ _ _ _ _ _ _ _ _ _ _ _ _ _ _ _ _ _ _ _ _ _ _ _ _ _ _ _ _ _ _ _ _ _ _ _ _ _ _ _ _ _ _ _ _ _ _ _ _ _ _ _ _ _ _ _ _ _ _ _ _ _ _ _ _ _ _ _ _ _ _ _ _
set_option maxHeartbeats 4000000 in
set_option maxRecDepth 100000 in
theorem ssuf2 (ver regs binds : Int) (names curs sorts tots : Sl) (ca ca2 : Option Addr) (nc cc cc2 : Nat) (da da2 : Option Addr) (nd dc dc2 : Nat) (W wr0 : World) (H : Hid (SameIn W names curs sorts tots ca ca2 nc da da2 nd)) (h0 : Hid (Two W (⟨ver, regs, binds, names, ⟨ca, nc, cc⟩, curs, sorts, tots, ⟨da, nd, dc⟩⟩ : Pg) (⟨ver, regs, binds, names, ⟨ca2, nc, cc2⟩, curs, sorts, tots, ⟨da2, nd, dc2⟩⟩ : Pg) wr0)) (b4 u5 u6 u7 u8 u9 u10 u11 u12 u13 u14 u15 u16 u17 u18 u19 u20 u21 u22 u23 u24 u25 u26 u27 u28 u29 u30 u31 u32 u33 u34 u35 u36 u37 u38 u39 u40 u41 u42 u43 u44 u45 u46 u47 u48 u49 u50 u51 u52 u53 u54 u55 u56 u57 u58 u59 u60 u61 u62 u63 u64 u65 u66 u67 u68 u69 u70 u71 u72 u73 u74 u75 u76 u77 u78 u79 u80 u81 u82 u83 u84 u85 u86 u87 u88 u89 u90 u91 u92 u93 u94 u95 u96 u97 u98 u99 u100 u101 u102 u103 u104 u105 u106 u107 u108 u109 u110 u111 u112 u113 u114 u115 u116 u117 u118 u119 u120 u121 u122 u123 u124 u125 u126 u127 u128 u129 u130 u131 u132 u133 u134 u135 u136 u137 u138 u139 u140 u141 u142 u143 u144 u145 u146 u147 u148 u149 u150 u151 u152 u153 u154 u155 u156 u157 u158 u159 u160 u161 u162 u163 u164 u165 u166 u167 u168 u169 u170 u171 u172 u173 u174 u175 u176 u177 u178 u179 u180 u181 u182 u183 u184 u185 u186 u187 u188 u189 u190 u191 u192 u193 u194 u195 u196 u197 u198 u199 u200 u201 u202 u203 u204 u205 u206 u207 u208 u209 u210 u211 u212 : Value) :
    Code.wp Tryd.prog (ssuf 2) (bodyPost Tryd.prog Tryd.f8 fun e w' => e = .returned (.bool true) ∧ Below W.heap.size W w') ⟨#[(⟨ver, regs, binds, names, ⟨ca, nc, cc⟩, curs, sorts, tots, ⟨da, nd, dc⟩⟩ : Pg).v, (⟨ver, regs, binds, names, ⟨ca2, nc, cc2⟩, curs, sorts, tots, ⟨da2, nd, dc2⟩⟩ : Pg).v, .pointer (some ⟨W.heap.size, 0, none⟩), .pointer (some ⟨W.heap.size + 1, 0, none⟩), b4, u5, u6, u7, u8, u9, u10, u11, u12, u13, u14, u15, u16, u17, u18, u19, u20, u21, u22, u23, u24, u25, u26, u27, u28, u29, u30, u31, u32, u33, u34, u35, u36, u37, u38, u39, u40, u41, u42, u43, u44, u45, u46, u47, u48, u49, u50, u51, u52, u53, u54, u55, u56, u57, u58, u59, u60, u61, u62, u63, u64, u65, u66, u67, u68, u69, u70, u71, u72, u73, u74, u75, u76, u77, u78, u79, u80, u81, u82, u83, u84, u85, u86, u87, u88, u89, u90, u91, u92, u93, u94, u95, u96, u97, u98, u99, u100, u101, u102, u103, u104, u105, u106, u107, u108, u109, u110, u111, u112, u113, u114, u115, u116, u117, u118, u119, u120, u121, u122, u123, u124, u125, u126, u127, u128, u129, u130, u131, u132, u133, u134, u135, u136, u137, u138, u139, u140, u141, u142, u143, u144, u145, u146, u147, u148, u149, u150, u151, u152, u153, u154, u155, u156, u157, u158, u159, u160, u161, u162, u163, u164, u165, u166, u167, u168, u169, u170, u171, u172, u173, u174, u175, u176, u177, u178, u179, u180, u181, u182, u183, u184, u185, u186, u187, u188, u189, u190, u191, u192, u193, u194, u195, u196, u197, u198, u199, u200, u201, u202, u203, u204, u205, u206, u207, u208, u209, u210, u211, u212], []⟩ wr0 := by
  conv => arg 2; whnf
  have c1 := blk_cell h0.out.b0
  have c2 := blk_cell h0.out.b1
  go_upto_block 4 with (fail)
  go_cut [4] from 5 (fun s4 wx => Hid (Two W (⟨ver, regs, binds, names, ⟨ca, nc, cc⟩, curs, sorts, tots, ⟨da, nd, dc⟩⟩ : Pg) (⟨ver, regs, binds, names, ⟨ca2, nc, cc2⟩, curs, sorts, tots, ⟨da2, nd, dc2⟩⟩ : Pg) wx))
  case first =>
    go_wp2_with (fail)
    go_loopg [124] (sorts.n) (fun lft i wr => ∃ (kk : Nat), kk + lft = sorts.n ∧ i = .int .i64 kk ∧ Hid (Two W (⟨ver, regs, binds, names, ⟨ca, nc, cc⟩, curs, sorts, tots, ⟨da, nd, dc⟩⟩ : Pg) (⟨ver, regs, binds, names, ⟨ca2, nc, cc2⟩, curs, sorts, tots, ⟨da2, nd, dc2⟩⟩ : Pg) wr))
    case atStart => exact ⟨0, by omega, rfl, h0⟩
    case round =>
      obtain ⟨kk, hl, rfl, ht⟩ := hrel
      have c1 := blk_cell ht.out.b0
      have c2 := blk_cell ht.out.b1
      by_cases hlk : kk < sorts.n
      · have hlt : ((kk : Int) < (sorts.n : Int)) = True := by simp; omega
        have hlt2 := H.out.n3
        obtain ⟨g, o, e1, hg, sa, sn, sc, q, b, x0, x1, x2, hsn, hbl⟩ := H.out.sorts kk hlk
        obtain ⟨za, zn, zc⟩ := sorts
        dsimp only at e1 hl hlk hlt2
        subst e1
        have hlt : ((kk : Int) < (zn : Int)) = True := by simp; omega
        have d0 : wr.cell? ⟨g, o + kk * 3, none⟩ = some (.slice sa sn sc) := ht.out.cell hg x0
        have d1 : wr.cell? ⟨g, o + kk * 3 + 1, none⟩ = some (.int .i64 q) := ht.out.cell hg x1
        have d2 : wr.cell? ⟨g, o + kk * 3 + 2, none⟩ = some (.bool b) := ht.out.cell hg x2
        have hlow := ht.out.low
        have hgw : g < wr.heap.size := by omega
        have HBL := Lib.hid hbl
        clear x0 x1 x2 hbl
        go_upto_region 18 with (fail)
        go_cut [8, 9] from 125 to 176 (fun s8 s9 wx => ∃ X Y, s8 = .pointer (some ⟨X, 0, none⟩) ∧ s9 = .pointer (some ⟨Y, 0, none⟩) ∧ Hid (Two W (⟨ver, regs, binds, names, ⟨ca, nc, cc⟩, curs, ⟨some ⟨g, o, none⟩, zn, zc⟩, tots, ⟨da, nd, dc⟩⟩ : Pg) (⟨ver, regs, binds, names, ⟨ca2, nc, cc2⟩, curs, ⟨some ⟨g, o, none⟩, zn, zc⟩, tots, ⟨da2, nd, dc2⟩⟩ : Pg) wx ∧ wx.heap[X]? = some (.cells #[.slice sa sn sc, .int .i64 q, .bool b] 71) ∧ wx.heap[Y]? = some (.cells #[.slice sa sn sc, .int .i64 q, .bool b] 71)))
        case first =>
          have hkeep : ∀ w', Below wr.heap.size wr w' → (∀ j, w'.cell? ⟨W.heap.size, j, none⟩ = (⟨ver, regs, binds, names, ⟨ca, nc, cc⟩, curs, ⟨some ⟨g, o, none⟩, zn, zc⟩, tots, ⟨da, nd, dc⟩⟩ : Pg).cells[j]?) ∧ (∀ j, w'.cell? ⟨W.heap.size + 1, j, none⟩ = (⟨ver, regs, binds, names, ⟨ca2, nc, cc2⟩, curs, ⟨some ⟨g, o, none⟩, zn, zc⟩, tots, ⟨da2, nd, dc2⟩⟩ : Pg).cells[j]?) ∧ w'.cell? ⟨g, o + kk * 3, none⟩ = some (.slice sa sn sc) ∧ w'.cell? ⟨g, o + kk * 3 + 1, none⟩ = some (.int .i64 q) ∧ w'.cell? ⟨g, o + kk * 3 + 2, none⟩ = some (.bool b) := fun w' hb =>
            ⟨fun j => (hb.cell (p := ⟨W.heap.size, j, none⟩) (by show W.heap.size < _; omega)).trans (c1 j), fun j => (hb.cell (p := ⟨W.heap.size + 1, j, none⟩) (by show W.heap.size + 1 < _; omega)).trans (c2 j), (hb.cell (p := ⟨g, _, none⟩) hgw).trans d0, (hb.cell (p := ⟨g, _, none⟩) hgw).trans d1, (hb.cell (p := ⟨g, _, none⟩) hgw).trans d2⟩
          have HK := Lib.hid hkeep
          clear hkeep
          go_region_held3 (fun w' => (∀ j, w'.cell? ⟨W.heap.size, j, none⟩ = (⟨ver, regs, binds, names, ⟨ca, nc, cc⟩, curs, ⟨some ⟨g, o, none⟩, zn, zc⟩, tots, ⟨da, nd, dc⟩⟩ : Pg).cells[j]?) ∧ (∀ j, w'.cell? ⟨W.heap.size + 1, j, none⟩ = (⟨ver, regs, binds, names, ⟨ca2, nc, cc2⟩, curs, ⟨some ⟨g, o, none⟩, zn, zc⟩, tots, ⟨da2, nd, dc2⟩⟩ : Pg).cells[j]?) ∧ w'.cell? ⟨g, o + kk * 3, none⟩ = some (.slice sa sn sc) ∧ w'.cell? ⟨g, o + kk * 3 + 1, none⟩ = some (.int .i64 q) ∧ w'.cell? ⟨g, o + kk * 3 + 2, none⟩ = some (.bool b))
            (exact HK.out _ (by
              repeat (first
                | exact Below.refl _ _
                | refine Below.drew ?_
                | refine Below.alloc ?_ (by simp) _
                | refine Below.setCell ?_ (by simp) _)))
            (first | fail)
          all_goals (go_wp2_with fail)
          all_goals go_meet
          all_goals first
            | exact ⟨_, _, rfl, rfl, two_new ht⟩
            | exact ⟨_, _, rfl, rfl, two_new2 ht⟩
        case rest =>
          obtain ⟨X, Y, rfl, rfl, hxy⟩ := hcut
          have x0 := blk_cell hxy.out.2.1
          have y0 := blk_cell hxy.out.2.2
          clear d0 d1 d2 c1 c2
          go_wp2_with (fail)
          go_loopg [161] sn (fun lft2 i2 wq => ∃ (k2 : Nat), k2 + lft2 = sn ∧ i2 = .int .i64 k2 ∧ Hid (Two W (⟨ver, regs, binds, names, ⟨ca, nc, cc⟩, curs, ⟨some ⟨g, o, none⟩, zn, zc⟩, tots, ⟨da, nd, dc⟩⟩ : Pg) (⟨ver, regs, binds, names, ⟨ca2, nc, cc2⟩, curs, ⟨some ⟨g, o, none⟩, zn, zc⟩, tots, ⟨da2, nd, dc2⟩⟩ : Pg) wq ∧ wq.heap[X]? = some (.cells #[.slice sa sn sc, .int .i64 q, .bool b] 71) ∧ wq.heap[Y]? = some (.cells #[.slice sa sn sc, .int .i64 q, .bool b] 71)))
          case atStart => exact ⟨0, by omega, rfl, hxy⟩
          case round =>
            obtain ⟨k2, hl2, rfl, ht2⟩ := hrel
            have z0 := blk_cell ht2.out.2.1
            have z1 := blk_cell ht2.out.2.2
            by_cases hlk2 : k2 < sn
            · have hlt3 : ((k2 : Int) < (sn : Int)) = True := by simp; omega
              obtain ⟨g3, o3, e3, hg3, bb, hbb⟩ := HBL.out k2 hlk2
              simp only at e3
              have d3 : wr.cell? ⟨g3, o3 + k2, none⟩ = some (.bool bb) := ht2.out.1.cell hg3 (by rw [Nat.mul_one] at hbb; exact hbb)
              go_wp2
              go_quiet (fail)
              go_wp2
              go_roundg (sn - k2 - 1)
              case measure => omega
              case rel => exact ⟨k2 + 1, by omega, by first | rfl | go_num, Lib.hid ⟨ht2.out.1.drewN _, ht2.out.2.1, ht2.out.2.2⟩⟩
            · have hlt3 : ((k2 : Int) < (sn : Int)) = False := by simp; omega
              go_wp2_with (fail)
              go_roundg (zn - kk - 1)
              case measure => omega
              case rel => exact ⟨kk + 1, by omega, by first | rfl | go_num, Lib.hid ht2.out.1⟩
      · have hlt : ((kk : Int) < (sorts.n : Int)) = False := by simp; omega
        go_wp2_with fail
        go_meet
        exact ht
  case rest =>
    rename (∀ (a : Act) (w : World), Code.wp _ _ _ a w → _) => hK
    refine hK _ _ ?_
    exact ssuf3 ver regs binds names curs sorts tots ca ca2 nc cc cc2 da da2 nd dc dc2 W wc H hcut _ _ _ _ _ _ _ _ _ _ _ _ _ _ _ _ _ _ _ _ _ _ _ _ _ _ _ _ _ _ _ _ _ _ _ _ _ _ _ _ _ _ _ _ _ _ _ _ _ _ _ _ _ _ _ _ _ _ _ _ _ _ _ _ _ _ _ _ _ _ _ _ _ _ _ _ _ _ _ _ _ _ _ _ _ _ _ _ _ _ _ _ _ _ _ _ _ _ _ _ _ _ _ _ _ _ _ _ _ _ _ _ _ _ _ _ _ _ _ _ _ _ _ _ _ _ _ _ _ _ _ _ _ _ _ _ _ _ _ _ _ _ _ _ _ _ _ _ _ _ _ _ _ _ _ _ _ _ _ _ _ _ _ _ _ _ _ _ _ _ _ _ _ _ _ _ _ _ _ _ _ _ _ _ _ _ _ _ _ _ _ _ _ _ _ _ _ _ _ _ _ _ _ _ _ _ _ _ _
set_option maxHeartbeats 4000000 in
set_option maxRecDepth 100000 in
theorem ssuf1 (ver regs binds : Int) (names curs sorts tots : Sl) (ca ca2 : Option Addr) (nc cc cc2 : Nat) (da da2 : Option Addr) (nd dc dc2 : Nat) (W wr0 : World) (H : Hid (SameIn W names curs sorts tots ca ca2 nc da da2 nd)) (h0 : Hid (Two W (⟨ver, regs, binds, names, ⟨ca, nc, cc⟩, curs, sorts, tots, ⟨da, nd, dc⟩⟩ : Pg) (⟨ver, regs, binds, names, ⟨ca2, nc, cc2⟩, curs, sorts, tots, ⟨da2, nd, dc2⟩⟩ : Pg) wr0)) (b4 u5 u6 u7 u8 u9 u10 u11 u12 u13 u14 u15 u16 u17 u18 u19 u20 u21 u22 u23 u24 u25 u26 u27 u28 u29 u30 u31 u32 u33 u34 u35 u36 u37 u38 u39 u40 u41 u42 u43 u44 u45 u46 u47 u48 u49 u50 u51 u52 u53 u54 u55 u56 u57 u58 u59 u60 u61 u62 u63 u64 u65 u66 u67 u68 u69 u70 u71 u72 u73 u74 u75 u76 u77 u78 u79 u80 u81 u82 u83 u84 u85 u86 u87 u88 u89 u90 u91 u92 u93 u94 u95 u96 u97 u98 u99 u100 u101 u102 u103 u104 u105 u106 u107 u108 u109 u110 u111 u112 u113 u114 u115 u116 u117 u118 u119 u120 u121 u122 u123 u124 u125 u126 u127 u128 u129 u130 u131 u132 u133 u134 u135 u136 u137 u138 u139 u140 u141 u142 u143 u144 u145 u146 u147 u148 u149 u150 u151 u152 u153 u154 u155 u156 u157 u158 u159 u160 u161 u162 u163 u164 u165 u166 u167 u168 u169 u170 u171 u172 u173 u174 u175 u176 u177 u178 u179 u180 u181 u182 u183 u184 u185 u186 u187 u188 u189 u190 u191 u192 u193 u194 u195 u196 u197 u198 u199 u200 u201 u202 u203 u204 u205 u206 u207 u208 u209 u210 u211 u212 : Value) :
    Code.wp Tryd.prog (ssuf 1) (bodyPost Tryd.prog Tryd.f8 fun e w' => e = .returned (.bool true) ∧ Below W.heap.size W w') ⟨#[(⟨ver, regs, binds, names, ⟨ca, nc, cc⟩, curs, sorts, tots, ⟨da, nd, dc⟩⟩ : Pg).v, (⟨ver, regs, binds, names, ⟨ca2, nc, cc2⟩, curs, sorts, tots, ⟨da2, nd, dc2⟩⟩ : Pg).v, .pointer (some ⟨W.heap.size, 0, none⟩), .pointer (some ⟨W.heap.size + 1, 0, none⟩), b4, u5, u6, u7, u8, u9, u10, u11, u12, u13, u14, u15, u16, u17, u18, u19, u20, u21, u22, u23, u24, u25, u26, u27, u28, u29, u30, u31, u32, u33, u34, u35, u36, u37, u38, u39, u40, u41, u42, u43, u44, u45, u46, u47, u48, u49, u50, u51, u52, u53, u54, u55, u56, u57, u58, u59, u60, u61, u62, u63, u64, u65, u66, u67, u68, u69, u70, u71, u72, u73, u74, u75, u76, u77, u78, u79, u80, u81, u82, u83, u84, u85, u86, u87, u88, u89, u90, u91, u92, u93, u94, u95, u96, u97, u98, u99, u100, u101, u102, u103, u104, u105, u106, u107, u108, u109, u110, u111, u112, u113, u114, u115, u116, u117, u118, u119, u120, u121, u122, u123, u124, u125, u126, u127, u128, u129, u130, u131, u132, u133, u134, u135, u136, u137, u138, u139, u140, u141, u142, u143, u144, u145, u146, u147, u148, u149, u150, u151, u152, u153, u154, u155, u156, u157, u158, u159, u160, u161, u162, u163, u164, u165, u166, u167, u168, u169, u170, u171, u172, u173, u174, u175, u176, u177, u178, u179, u180, u181, u182, u183, u184, u185, u186, u187, u188, u189, u190, u191, u192, u193, u194, u195, u196, u197, u198, u199, u200, u201, u202, u203, u204, u205, u206, u207, u208, u209, u210, u211, u212], []⟩ wr0 := by
  conv => arg 2; whnf
  have c1 := blk_cell h0.out.b0
  have c2 := blk_cell h0.out.b1
  go_upto_block 2 with (fail)
  go_cut [4] from 5 (fun s4 wx => Hid (Two W (⟨ver, regs, binds, names, ⟨ca, nc, cc⟩, curs, sorts, tots, ⟨da, nd, dc⟩⟩ : Pg) (⟨ver, regs, binds, names, ⟨ca2, nc, cc2⟩, curs, sorts, tots, ⟨da2, nd, dc2⟩⟩ : Pg) wx))
  case first =>
    go_wp2_with (fail)
    go_loopg [106] (curs.n) (fun lft i wr => ∃ (kk : Nat), kk + lft = curs.n ∧ i = .int .i64 kk ∧ Hid (Two W (⟨ver, regs, binds, names, ⟨ca, nc, cc⟩, curs, sorts, tots, ⟨da, nd, dc⟩⟩ : Pg) (⟨ver, regs, binds, names, ⟨ca2, nc, cc2⟩, curs, sorts, tots, ⟨da2, nd, dc2⟩⟩ : Pg) wr))
    case atStart => exact ⟨0, by omega, rfl, h0⟩
    case round =>
      obtain ⟨kk, hl, rfl, ht⟩ := hrel
      have c1 := blk_cell ht.out.b0
      have c2 := blk_cell ht.out.b1
      by_cases hlk : kk < curs.n
      · have hlt : ((kk : Int) < (curs.n : Int)) = True := by simp; omega
        have hlt2 := H.out.n2
        obtain ⟨g, o, e1, hg, s, b, c, x0, x1, x2⟩ := H.out.curs kk hlk
        have d0 : wr.cell? ⟨g, o + kk * 3, none⟩ = some (.string s) := ht.out.cell hg x0
        have d1 : wr.cell? ⟨g, o + kk * 3 + 1, none⟩ = some (.bool b) := ht.out.cell hg x1
        have d2 : wr.cell? ⟨g, o + kk * 3 + 2, none⟩ = some (.bool c) := ht.out.cell hg x2
        have he := fun w => neq58 s b c w
        have hg0 : ∀ (op : BinOp) (a b2 : Operand) (w : World), (eqGuard op 58 a b2 (.agg #[.string s, .bool b, .bool c]) (.agg #[.string s, .bool b, .bool c])).run Tryd.prog w = .ok () w := fun op a b2 w => run_eqGuard_agg w op 58 a b2 _ _ (by kernel_rfl)
        clear x0 x1 x2
        go_wp2
        go_quiet (fail)
        go_wp2
        go_roundg (curs.n - kk - 1)
        case measure => omega
        case rel => exact ⟨kk + 1, by omega, by first | rfl | go_num, Lib.hid (ht.out.drewN _)⟩
      · have hlt : ((kk : Int) < (curs.n : Int)) = False := by simp; omega
        go_wp2_with fail
        go_meet
        exact ht
  case rest =>
    rename (∀ (a : Act) (w : World), Code.wp _ _ _ a w → _) => hK
    refine hK _ _ ?_
    exact ssuf2 ver regs binds names curs sorts tots ca ca2 nc cc cc2 da da2 nd dc dc2 W wc H hcut _ _ _ _ _ _ _ _ _ _ _ _ _ _ _ _ _ _ _ _ _ _ _ _ _ _ _ _ _ _ _ _ _ _ _ _ _ _ _ _ _ _ _ _ _ _ _ _ _ _ _ _ _ _ _ _ _ _ _ _ _ _ _ _ _ _ _ _ _ _ _ _ _ _ _ _ _ _ _ _ _ _ _ _ _ _ _ _ _ _ _ _ _ _ _ _ _ _ _ _ _ _ _ _ _ _ _ _ _ _ _ _ _ _ _ _ _ _ _ _ _ _ _ _ _ _ _ _ _ _ _ _ _ _ _ _ _ _ _ _ _ _ _ _ _ _ _ _ _ _ _ _ _ _ _ _ _ _ _ _ _ _ _ _ _ _ _ _ _ _ _ _ _ _ _ _ _ _ _ _ _ _ _ _ _ _ _ _ _ _ _ _ _ _ _ _ _ _ _ _ _ _ _ _ _ _ _ _ _
end Go.Proofs.YtkpaphoeldcakaaDoor.Gr
