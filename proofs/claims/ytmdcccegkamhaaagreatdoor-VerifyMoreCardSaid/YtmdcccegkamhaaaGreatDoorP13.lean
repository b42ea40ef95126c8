/- The program's verify, flow and code, followed by hand: part 13. -/
import Derived.Test.YtmdcccegkamhaaaGreatDoorP1
import Derived.Deep.CutBlock
import Derived.Deep.DeepCutAuto
import Derived.Deep.LoopGhost
import Derived.Test.YtmdcccegkamhaaaGreatDoorP12
set_option maxHeartbeats 4000000
set_option maxRecDepth 100000
set_option linter.unusedSectionVars false
set_option linter.unusedVariables false
set_option linter.unusedSimpArgs false
namespace Go.Proofs.Vf
open Go Go.Proofs Go.RowKit Go.Lib
attribute [local go_sem ↓] Go.wp_at_zero Go.wp_at_succ
def ListAt (B : Nat) (s : Sl) (sz : Nat) (E : Nat → Nat → Prop) : Prop := ∀ i, i < s.n → ∃ g o, s.a = some ⟨g, o, none⟩ ∧ g < B ∧ E g (o + i * sz)
def StrE (w : World) (k : Nat) (g o : Nat) : Prop := ∃ x, w.cell? ⟨g, o + k, none⟩ = some (.string x)
def Str0 (w : World) (g o : Nat) : Prop := ∃ x, w.cell? ⟨g, o, none⟩ = some (.string x)
def SlE (w : World) (g o : Nat) : Prop := ∃ a n c, w.cell? ⟨g, o, none⟩ = some (.slice a n c)
structure Read1 (W : World) (B : Nat) (p : Pg) : Prop where
 names : ListAt B p.names 1 (Str0 W)
 cons : ListAt B p.cons 3 (StrE W 2)
 curs : ListAt B p.curs 3 (Str0 W)
 sorts : ListAt B p.sorts 3 (SlE W)
 tots : ListAt B p.tots 2 (Str0 W)
 n1 : p.names.n ≤ 9223372036854775807
 n2 : p.cons.n ≤ 9223372036854775807
 n3 : p.curs.n ≤ 9223372036854775807
 n4 : p.sorts.n ≤ 9223372036854775807
 n5 : p.tots.n ≤ 9223372036854775807
def dropS : Nat → Code → Code
 | 0, c => c
 | n + 1, .seq _ b => dropS n b
 | _ + 1, c => c
noncomputable def gsuf (k : Nat) : Code := dropS (k + 3) (Tryz.f17.body.getD .skip)
def GrtP (c k : Nat) (e : Ending) : Prop := ∃ b, e = .returned (.bool b) ∧ (b = false → c ≤ 5000 ∧ k ≤ 1100)
theorem gsuf5 (B : Nat) (p : Pg) (W : World) (_hB : B ≤ W.heap.size) (_H : Hid (Read1 W B p)) (x : Int) (b2 u4 u5 u6 u7 u8 u9 u10 u11 u12 u13 u14 u15 u16 u17 u18 u19 u20 u21 u22 u23 u24 u25 u26 u27 u28 u29 u30 u31 u32 u33 u34 u35 u36 u37 u38 u39 u40 u41 u42 u43 u44 u45 u46 u47 u48 u49 u50 u51 u52 u53 u54 u55 u56 u57 u58 u59 u60 u61 u62 u63 u64 u65 u66 u67 u68 u69 u70 u71 u72 u73 u74 u75 u76 u77 u78 u79 u80 u81 u82 u83 u84 u85 u86 u87 u88 u89 u90 u91 u92 u93 u94 u95 u96 u97 u98 u99 u100 u101 u102 u103 u104 u105 u106 u107 u108 u109 u110 u111 u112 u113 u114 u115 u116 u117 : Value) (h5 : ¬ 5000 < p.code.n) (h11 : ¬ 1100 < p.cons.n) :
 Code.wp Tryz.prog (gsuf 5) (bodyPost Tryz.prog Tryz.f17 fun e w' => GrtP p.code.n p.cons.n e ∧ Below W.heap.size W w') ⟨#[p.v, .pointer (some ⟨W.heap.size, 0, none⟩), b2, .int .i64 x, u4, u5, u6, u7, u8, u9, u10, u11, u12, u13, u14, u15, u16, u17, u18, u19, u20, u21, u22, u23, u24, u25, u26, u27, u28, u29, u30, u31, u32, u33, u34, u35, u36, u37, u38, u39, u40, u41, u42, u43, u44, u45, u46, u47, u48, u49, u50, u51, u52, u53, u54, u55, u56, u57, u58, u59, u60, u61, u62, u63, u64, u65, u66, u67, u68, u69, u70, u71, u72, u73, u74, u75, u76, u77, u78, u79, u80, u81, u82, u83, u84, u85, u86, u87, u88, u89, u90, u91, u92, u93, u94, u95, u96, u97, u98, u99, u100, u101, u102, u103, u104, u105, u106, u107, u108, u109, u110, u111, u112, u113, u114, u115, u116, u117], []⟩ (W.alloc (.cells p.cells 29)) := by
 have hb : ∀ o, Below W.heap.size W (W.alloc o) := fun o => (Below.refl _ W).alloc (Nat.le_refl _) o
 conv => arg 2; whnf
 go_wp2
 go_ret
 exact ⟨⟨_, rfl, fun _ => by omega⟩, hb _⟩
theorem gsuf4 (B : Nat) (p : Pg) (W : World) (hB : B ≤ W.heap.size) (H : Hid (Read1 W B p)) (x : Int) (b2 u4 u5 u6 u7 u8 u9 u10 u11 u12 u13 u14 u15 u16 u17 u18 u19 u20 u21 u22 u23 u24 u25 u26 u27 u28 u29 u30 u31 u32 u33 u34 u35 u36 u37 u38 u39 u40 u41 u42 u43 u44 u45 u46 u47 u48 u49 u50 u51 u52 u53 u54 u55 u56 u57 u58 u59 u60 u61 u62 u63 u64 u65 u66 u67 u68 u69 u70 u71 u72 u73 u74 u75 u76 u77 u78 u79 u80 u81 u82 u83 u84 u85 u86 u87 u88 u89 u90 u91 u92 u93 u94 u95 u96 u97 u98 u99 u100 u101 u102 u103 u104 u105 u106 u107 u108 u109 u110 u111 u112 u113 u114 u115 u116 u117 : Value) (h5 : ¬ 5000 < p.code.n) (h11 : ¬ 1100 < p.cons.n) :
 Code.wp Tryz.prog (gsuf 4) (bodyPost Tryz.prog Tryz.f17 fun e w' => GrtP p.code.n p.cons.n e ∧ Below W.heap.size W w') ⟨#[p.v, .pointer (some ⟨W.heap.size, 0, none⟩), b2, .int .i64 x, u4, u5, u6, u7, u8, u9, u10, u11, u12, u13, u14, u15, u16, u17, u18, u19, u20, u21, u22, u23, u24, u25, u26, u27, u28, u29, u30, u31, u32, u33, u34, u35, u36, u37, u38, u39, u40, u41, u42, u43, u44, u45, u46, u47, u48, u49, u50, u51, u52, u53, u54, u55, u56, u57, u58, u59, u60, u61, u62, u63, u64, u65, u66, u67, u68, u69, u70, u71, u72, u73, u74, u75, u76, u77, u78, u79, u80, u81, u82, u83, u84, u85, u86, u87, u88, u89, u90, u91, u92, u93, u94, u95, u96, u97, u98, u99, u100, u101, u102, u103, u104, u105, u106, u107, u108, u109, u110, u111, u112, u113, u114, u115, u116, u117], []⟩ (W.alloc (.cells p.cells 29)) := by
 have hb : ∀ o, Below W.heap.size W (W.alloc o) := fun o => (Below.refl _ W).alloc (Nat.le_refl _) o
 conv => arg 2; whnf
 go_upto_block 8 with (fail)
 go_cut [3] from 4 (fun s3 wx => ∃ x : Int, s3 = .int .i64 x ∧ wx = W.alloc (.cells p.cells 29))
 case first =>
  go_wp2_with (fail)
  go_loopg [3, 103] (p.tots.n) (fun lft s3 i wr => ∃ (kk : Nat) (x : Int), kk + lft = p.tots.n ∧ i = .int .i64 kk ∧ s3 = .int .i64 x ∧ wr = W.alloc (.cells p.cells 29))
  case atStart => exact ⟨0, _, by omega, rfl, rfl, rfl⟩
  case round =>
   obtain ⟨kk, x, hl, rfl, rfl, rfl⟩ := hrel
   by_cases hlk : kk < p.tots.n
   · have hlt : ((kk : Int) < (p.tots.n : Int)) = True := by simp; omega
     have hlt2 := H.out.n5
     obtain ⟨g, o, e1, hg, y, hy⟩ := H.out.tots kk hlk
     have hgw : g < W.heap.size := by omega
     have d : ∀ o', (W.alloc o').cell? ⟨g, o + kk * 2, none⟩ = some (.string y) := fun o' => ((hb o').cell (p := ⟨g, o + kk * 2, none⟩) hgw).trans (by first | exact hy | (rw [Nat.mul_one] at hy; exact hy))
     go_wp2
     go_roundg (p.tots.n - kk - 1)
     case measure => omega
     case rel => exact ⟨kk + 1, _, by omega, by first | rfl | go_num, rfl, rfl⟩
   · have hlt : ((kk : Int) < (p.tots.n : Int)) = False := by simp; omega
     go_wp2_with fail
     go_meet
     exact ⟨x, rfl, rfl⟩
 case rest =>
  obtain ⟨x, rfl, rfl⟩ := hcut
  rename (∀ (a : Act) (w : World), Code.wp _ _ _ a w → _) => hK
  refine hK _ _ ?_
  exact gsuf5 B p W hB H x _ _ _ _ _ _ _ _ _ _ _ _ _ _ _ _ _ _ _ _ _ _ _ _ _ _ _ _ _ _ _ _ _ _ _ _ _ _ _ _ _ _ _ _ _ _ _ _ _ _ _ _ _ _ _ _ _ _ _ _ _ _ _ _ _ _ _ _ _ _ _ _ _ _ _ _ _ _ _ _ _ _ _ _ _ _ _ _ _ _ _ _ _ _ _ _ _ _ _ _ _ _ _ _ _ _ _ _ _ _ _ _ _ _ _ h5 h11
theorem gsuf3 (B : Nat) (p : Pg) (W : World) (hB : B ≤ W.heap.size) (H : Hid (Read1 W B p)) (x : Int) (b2 u4 u5 u6 u7 u8 u9 u10 u11 u12 u13 u14 u15 u16 u17 u18 u19 u20 u21 u22 u23 u24 u25 u26 u27 u28 u29 u30 u31 u32 u33 u34 u35 u36 u37 u38 u39 u40 u41 u42 u43 u44 u45 u46 u47 u48 u49 u50 u51 u52 u53 u54 u55 u56 u57 u58 u59 u60 u61 u62 u63 u64 u65 u66 u67 u68 u69 u70 u71 u72 u73 u74 u75 u76 u77 u78 u79 u80 u81 u82 u83 u84 u85 u86 u87 u88 u89 u90 u91 u92 u93 u94 u95 u96 u97 u98 u99 u100 u101 u102 u103 u104 u105 u106 u107 u108 u109 u110 u111 u112 u113 u114 u115 u116 u117 : Value) (h5 : ¬ 5000 < p.code.n) (h11 : ¬ 1100 < p.cons.n) :
 Code.wp Tryz.prog (gsuf 3) (bodyPost Tryz.prog Tryz.f17 fun e w' => GrtP p.code.n p.cons.n e ∧ Below W.heap.size W w') ⟨#[p.v, .pointer (some ⟨W.heap.size, 0, none⟩), b2, .int .i64 x, u4, u5, u6, u7, u8, u9, u10, u11, u12, u13, u14, u15, u16, u17, u18, u19, u20, u21, u22, u23, u24, u25, u26, u27, u28, u29, u30, u31, u32, u33, u34, u35, u36, u37, u38, u39, u40, u41, u42, u43, u44, u45, u46, u47, u48, u49, u50, u51, u52, u53, u54, u55, u56, u57, u58, u59, u60, u61, u62, u63, u64, u65, u66, u67, u68, u69, u70, u71, u72, u73, u74, u75, u76, u77, u78, u79, u80, u81, u82, u83, u84, u85, u86, u87, u88, u89, u90, u91, u92, u93, u94, u95, u96, u97, u98, u99, u100, u101, u102, u103, u104, u105, u106, u107, u108, u109, u110, u111, u112, u113, u114, u115, u116, u117], []⟩ (W.alloc (.cells p.cells 29)) := by
 have hb : ∀ o, Below W.heap.size W (W.alloc o) := fun o => (Below.refl _ W).alloc (Nat.le_refl _) o
 conv => arg 2; whnf
 go_upto_block 6 with (fail)
 go_cut [3] from 4 (fun s3 wx => ∃ x : Int, s3 = .int .i64 x ∧ wx = W.alloc (.cells p.cells 29))
 case first =>
  go_wp2_with (fail)
  go_loopg [3, 87] (p.sorts.n) (fun lft s3 i wr => ∃ (kk : Nat) (x : Int), kk + lft = p.sorts.n ∧ i = .int .i64 kk ∧ s3 = .int .i64 x ∧ wr = W.alloc (.cells p.cells 29))
  case atStart => exact ⟨0, _, by omega, rfl, rfl, rfl⟩
  case round =>
   obtain ⟨kk, x, hl, rfl, rfl, rfl⟩ := hrel
   by_cases hlk : kk < p.sorts.n
   · have hlt : ((kk : Int) < (p.sorts.n : Int)) = True := by simp; omega
     have hlt2 := H.out.n4
     obtain ⟨g, o, e1, hg, ya, yn, yc, hy⟩ := H.out.sorts kk hlk
     have hgw : g < W.heap.size := by omega
     have d : ∀ o', (W.alloc o').cell? ⟨g, o + kk * 3, none⟩ = some (.slice ya yn yc) := fun o' => ((hb o').cell (p := ⟨g, o + kk * 3, none⟩) hgw).trans hy
     go_wp2
     go_roundg (p.sorts.n - kk - 1)
     case measure => omega
     case rel => exact ⟨kk + 1, _, by omega, by first | rfl | go_num, rfl, rfl⟩
   · have hlt : ((kk : Int) < (p.sorts.n : Int)) = False := by simp; omega
     go_wp2_with fail
     go_meet
     exact ⟨x, rfl, rfl⟩
 case rest =>
  obtain ⟨x, rfl, rfl⟩ := hcut
  rename (∀ (a : Act) (w : World), Code.wp _ _ _ a w → _) => hK
  refine hK _ _ ?_
  exact gsuf4 B p W hB H x _ _ _ _ _ _ _ _ _ _ _ _ _ _ _ _ _ _ _ _ _ _ _ _ _ _ _ _ _ _ _ _ _ _ _ _ _ _ _ _ _ _ _ _ _ _ _ _ _ _ _ _ _ _ _ _ _ _ _ _ _ _ _ _ _ _ _ _ _ _ _ _ _ _ _ _ _ _ _ _ _ _ _ _ _ _ _ _ _ _ _ _ _ _ _ _ _ _ _ _ _ _ _ _ _ _ _ _ _ _ _ _ _ _ _ h5 h11
theorem gsuf2 (B : Nat) (p : Pg) (W : World) (hB : B ≤ W.heap.size) (H : Hid (Read1 W B p)) (x : Int) (b2 u4 u5 u6 u7 u8 u9 u10 u11 u12 u13 u14 u15 u16 u17 u18 u19 u20 u21 u22 u23 u24 u25 u26 u27 u28 u29 u30 u31 u32 u33 u34 u35 u36 u37 u38 u39 u40 u41 u42 u43 u44 u45 u46 u47 u48 u49 u50 u51 u52 u53 u54 u55 u56 u57 u58 u59 u60 u61 u62 u63 u64 u65 u66 u67 u68 u69 u70 u71 u72 u73 u74 u75 u76 u77 u78 u79 u80 u81 u82 u83 u84 u85 u86 u87 u88 u89 u90 u91 u92 u93 u94 u95 u96 u97 u98 u99 u100 u101 u102 u103 u104 u105 u106 u107 u108 u109 u110 u111 u112 u113 u114 u115 u116 u117 : Value) (h5 : ¬ 5000 < p.code.n) (h11 : ¬ 1100 < p.cons.n) :
 Code.wp Tryz.prog (gsuf 2) (bodyPost Tryz.prog Tryz.f17 fun e w' => GrtP p.code.n p.cons.n e ∧ Below W.heap.size W w') ⟨#[p.v, .pointer (some ⟨W.heap.size, 0, none⟩), b2, .int .i64 x, u4, u5, u6, u7, u8, u9, u10, u11, u12, u13, u14, u15, u16, u17, u18, u19, u20, u21, u22, u23, u24, u25, u26, u27, u28, u29, u30, u31, u32, u33, u34, u35, u36, u37, u38, u39, u40, u41, u42, u43, u44, u45, u46, u47, u48, u49, u50, u51, u52, u53, u54, u55, u56, u57, u58, u59, u60, u61, u62, u63, u64, u65, u66, u67, u68, u69, u70, u71, u72, u73, u74, u75, u76, u77, u78, u79, u80, u81, u82, u83, u84, u85, u86, u87, u88, u89, u90, u91, u92, u93, u94, u95, u96, u97, u98, u99, u100, u101, u102, u103, u104, u105, u106, u107, u108, u109, u110, u111, u112, u113, u114, u115, u116, u117], []⟩ (W.alloc (.cells p.cells 29)) := by
 have hb : ∀ o, Below W.heap.size W (W.alloc o) := fun o => (Below.refl _ W).alloc (Nat.le_refl _) o
 conv => arg 2; whnf
 go_upto_block 4 with (fail)
 go_cut [3] from 4 (fun s3 wx => ∃ x : Int, s3 = .int .i64 x ∧ wx = W.alloc (.cells p.cells 29))
 case first =>
  go_wp2_with (fail)
  go_loopg [3, 71] (p.curs.n) (fun lft s3 i wr => ∃ (kk : Nat) (x : Int), kk + lft = p.curs.n ∧ i = .int .i64 kk ∧ s3 = .int .i64 x ∧ wr = W.alloc (.cells p.cells 29))
  case atStart => exact ⟨0, _, by omega, rfl, rfl, rfl⟩
  case round =>
   obtain ⟨kk, x, hl, rfl, rfl, rfl⟩ := hrel
   by_cases hlk : kk < p.curs.n
   · have hlt : ((kk : Int) < (p.curs.n : Int)) = True := by simp; omega
     have hlt2 := H.out.n3
     obtain ⟨g, o, e1, hg, y, hy⟩ := H.out.curs kk hlk
     have hgw : g < W.heap.size := by omega
     have d : ∀ o', (W.alloc o').cell? ⟨g, o + kk * 3, none⟩ = some (.string y) := fun o' => ((hb o').cell (p := ⟨g, o + kk * 3, none⟩) hgw).trans (by first | exact hy | (rw [Nat.mul_one] at hy; exact hy))
     go_wp2
     go_roundg (p.curs.n - kk - 1)
     case measure => omega
     case rel => exact ⟨kk + 1, _, by omega, by first | rfl | go_num, rfl, rfl⟩
   · have hlt : ((kk : Int) < (p.curs.n : Int)) = False := by simp; omega
     go_wp2_with fail
     go_meet
     exact ⟨x, rfl, rfl⟩
 case rest =>
  obtain ⟨x, rfl, rfl⟩ := hcut
  rename (∀ (a : Act) (w : World), Code.wp _ _ _ a w → _) => hK
  refine hK _ _ ?_
  exact gsuf3 B p W hB H x _ _ _ _ _ _ _ _ _ _ _ _ _ _ _ _ _ _ _ _ _ _ _ _ _ _ _ _ _ _ _ _ _ _ _ _ _ _ _ _ _ _ _ _ _ _ _ _ _ _ _ _ _ _ _ _ _ _ _ _ _ _ _ _ _ _ _ _ _ _ _ _ _ _ _ _ _ _ _ _ _ _ _ _ _ _ _ _ _ _ _ _ _ _ _ _ _ _ _ _ _ _ _ _ _ _ _ _ _ _ _ _ _ _ _ h5 h11
theorem gsuf1 (B : Nat) (p : Pg) (W : World) (hB : B ≤ W.heap.size) (H : Hid (Read1 W B p)) (x : Int) (b2 u4 u5 u6 u7 u8 u9 u10 u11 u12 u13 u14 u15 u16 u17 u18 u19 u20 u21 u22 u23 u24 u25 u26 u27 u28 u29 u30 u31 u32 u33 u34 u35 u36 u37 u38 u39 u40 u41 u42 u43 u44 u45 u46 u47 u48 u49 u50 u51 u52 u53 u54 u55 u56 u57 u58 u59 u60 u61 u62 u63 u64 u65 u66 u67 u68 u69 u70 u71 u72 u73 u74 u75 u76 u77 u78 u79 u80 u81 u82 u83 u84 u85 u86 u87 u88 u89 u90 u91 u92 u93 u94 u95 u96 u97 u98 u99 u100 u101 u102 u103 u104 u105 u106 u107 u108 u109 u110 u111 u112 u113 u114 u115 u116 u117 : Value) (h5 : ¬ 5000 < p.code.n) (h11 : ¬ 1100 < p.cons.n) :
 Code.wp Tryz.prog (gsuf 1) (bodyPost Tryz.prog Tryz.f17 fun e w' => GrtP p.code.n p.cons.n e ∧ Below W.heap.size W w') ⟨#[p.v, .pointer (some ⟨W.heap.size, 0, none⟩), b2, .int .i64 x, u4, u5, u6, u7, u8, u9, u10, u11, u12, u13, u14, u15, u16, u17, u18, u19, u20, u21, u22, u23, u24, u25, u26, u27, u28, u29, u30, u31, u32, u33, u34, u35, u36, u37, u38, u39, u40, u41, u42, u43, u44, u45, u46, u47, u48, u49, u50, u51, u52, u53, u54, u55, u56, u57, u58, u59, u60, u61, u62, u63, u64, u65, u66, u67, u68, u69, u70, u71, u72, u73, u74, u75, u76, u77, u78, u79, u80, u81, u82, u83, u84, u85, u86, u87, u88, u89, u90, u91, u92, u93, u94, u95, u96, u97, u98, u99, u100, u101, u102, u103, u104, u105, u106, u107, u108, u109, u110, u111, u112, u113, u114, u115, u116, u117], []⟩ (W.alloc (.cells p.cells 29)) := by
 have hb : ∀ o, Below W.heap.size W (W.alloc o) := fun o => (Below.refl _ W).alloc (Nat.le_refl _) o
 conv => arg 2; whnf
 go_upto_block 2 with (fail)
 go_cut [3] from 4 (fun s3 wx => ∃ x : Int, s3 = .int .i64 x ∧ wx = W.alloc (.cells p.cells 29))
 case first =>
  go_wp2_with (fail)
  go_loopg [3, 55] (p.cons.n) (fun lft s3 i wr => ∃ (kk : Nat) (x : Int), kk + lft = p.cons.n ∧ i = .int .i64 kk ∧ s3 = .int .i64 x ∧ wr = W.alloc (.cells p.cells 29))
  case atStart => exact ⟨0, _, by omega, rfl, rfl, rfl⟩
  case round =>
   obtain ⟨kk, x, hl, rfl, rfl, rfl⟩ := hrel
   by_cases hlk : kk < p.cons.n
   · have hlt : ((kk : Int) < (p.cons.n : Int)) = True := by simp; omega
     have hlt2 := H.out.n2
     obtain ⟨g, o, e1, hg, y, hy⟩ := H.out.cons kk hlk
     have hgw : g < W.heap.size := by omega
     have d : ∀ o', (W.alloc o').cell? ⟨g, o + kk * 3 + 2, none⟩ = some (.string y) := fun o' => ((hb o').cell (p := ⟨g, o + kk * 3 + 2, none⟩) hgw).trans (by first | exact hy | (rw [Nat.mul_one] at hy; exact hy))
     go_wp2
     go_roundg (p.cons.n - kk - 1)
     case measure => omega
     case rel => exact ⟨kk + 1, _, by omega, by first | rfl | go_num, rfl, rfl⟩
   · have hlt : ((kk : Int) < (p.cons.n : Int)) = False := by simp; omega
     go_wp2_with fail
     go_meet
     exact ⟨x, rfl, rfl⟩
 case rest =>
  obtain ⟨x, rfl, rfl⟩ := hcut
  rename (∀ (a : Act) (w : World), Code.wp _ _ _ a w → _) => hK
  refine hK _ _ ?_
  exact gsuf2 B p W hB H x _ _ _ _ _ _ _ _ _ _ _ _ _ _ _ _ _ _ _ _ _ _ _ _ _ _ _ _ _ _ _ _ _ _ _ _ _ _ _ _ _ _ _ _ _ _ _ _ _ _ _ _ _ _ _ _ _ _ _ _ _ _ _ _ _ _ _ _ _ _ _ _ _ _ _ _ _ _ _ _ _ _ _ _ _ _ _ _ _ _ _ _ _ _ _ _ _ _ _ _ _ _ _ _ _ _ _ _ _ _ _ _ _ _ _ h5 h11
theorem great15_a (B : Nat) (p : Pg) (W : World) (_hB : B ≤ W.heap.size) (hp : Read1 W B p) (h5 : 5000 < p.code.n) :
 Calls Tryz.prog 17 #[p.v] W fun e w' => GrtP p.code.n p.cons.n e ∧ Below W.heap.size W w' := by
 have hb : ∀ o, Below W.heap.size W (W.alloc o) := fun o => (Below.refl _ W).alloc (Nat.le_refl _) o
 have H := Lib.hid hp
 clear hp
 have hd : ((5000 : Int) < (p.code.n : Int)) = True := by simp; omega
 clear h5
 go_enter Tryz.func17, Tryz.ntmps17
 go_wp2
 go_ret
 exact ⟨⟨_, rfl, fun h => by cases h⟩, hb _⟩
theorem great15_b (B : Nat) (p : Pg) (W : World) (_hB : B ≤ W.heap.size) (hp : Read1 W B p) (h5 : ¬ 5000 < p.code.n) (h3 : 1100 < IntKind.i64.wrap (IntKind.i64.wrap (IntKind.i64.wrap ((p.names.n : Int) + (p.curs.n : Int)) + (p.sorts.n : Int)) + (p.tots.n : Int))) :
 Calls Tryz.prog 17 #[p.v] W fun e w' => GrtP p.code.n p.cons.n e ∧ Below W.heap.size W w' := by
 have hb : ∀ o, Below W.heap.size W (W.alloc o) := fun o => (Below.refl _ W).alloc (Nat.le_refl _) o
 have H := Lib.hid hp
 clear hp
 have hd : ((5000 : Int) < (p.code.n : Int)) = False := by simp; omega
 obtain ⟨S1, hS1⟩ : ∃ S, IntKind.i64.wrap ((p.names.n : Int) + (p.curs.n : Int)) = S := ⟨_, rfl⟩
 obtain ⟨S2, hS2⟩ : ∃ S, IntKind.i64.wrap (S1 + (p.sorts.n : Int)) = S := ⟨_, rfl⟩
 obtain ⟨S3, hS3⟩ : ∃ S, IntKind.i64.wrap (S2 + (p.tots.n : Int)) = S := ⟨_, rfl⟩
 have hw1 : wrap64 ((p.names.n : Int) + (p.curs.n : Int)) = S1 := (IntWalk.i64_left _).symm.trans hS1
 have hw2 : wrap64 (S1 + (p.sorts.n : Int)) = S2 := (IntWalk.i64_left _).symm.trans hS2
 have hw3 : wrap64 (S2 + (p.tots.n : Int)) = S3 := (IntWalk.i64_left _).symm.trans hS3
 rw [hS1, hS2, hS3] at h3
 have hd3 : (1100 < S3) = True := by simp; omega
 clear h5 h3
 go_enter Tryz.func17, Tryz.ntmps17
 go_wp2
 go_ret
 exact ⟨⟨_, rfl, fun h => by cases h⟩, hb _⟩
theorem great15_c (B : Nat) (p : Pg) (W : World) (_hB : B ≤ W.heap.size) (hp : Read1 W B p) (h5 : ¬ 5000 < p.code.n) (h3 : ¬ 1100 < IntKind.i64.wrap (IntKind.i64.wrap (IntKind.i64.wrap ((p.names.n : Int) + (p.curs.n : Int)) + (p.sorts.n : Int)) + (p.tots.n : Int))) (h11 : 1100 < p.cons.n) :
 Calls Tryz.prog 17 #[p.v] W fun e w' => GrtP p.code.n p.cons.n e ∧ Below W.heap.size W w' := by
 have hb : ∀ o, Below W.heap.size W (W.alloc o) := fun o => (Below.refl _ W).alloc (Nat.le_refl _) o
 have H := Lib.hid hp
 clear hp
 have hd : ((5000 : Int) < (p.code.n : Int)) = False := by simp; omega
 obtain ⟨S1, hS1⟩ : ∃ S, IntKind.i64.wrap ((p.names.n : Int) + (p.curs.n : Int)) = S := ⟨_, rfl⟩
 obtain ⟨S2, hS2⟩ : ∃ S, IntKind.i64.wrap (S1 + (p.sorts.n : Int)) = S := ⟨_, rfl⟩
 obtain ⟨S3, hS3⟩ : ∃ S, IntKind.i64.wrap (S2 + (p.tots.n : Int)) = S := ⟨_, rfl⟩
 have hw1 : wrap64 ((p.names.n : Int) + (p.curs.n : Int)) = S1 := (IntWalk.i64_left _).symm.trans hS1
 have hw2 : wrap64 (S1 + (p.sorts.n : Int)) = S2 := (IntWalk.i64_left _).symm.trans hS2
 have hw3 : wrap64 (S2 + (p.tots.n : Int)) = S3 := (IntWalk.i64_left _).symm.trans hS3
 rw [hS1, hS2, hS3] at h3
 have hd3 : (1100 < S3) = False := by simp; omega
 have hd2 : ((1100 : Int) < (p.cons.n : Int)) = True := by simp; omega
 clear h5 h3 h11
 go_enter Tryz.func17, Tryz.ntmps17
 go_wp2
 go_ret
 exact ⟨⟨_, rfl, fun h => by cases h⟩, hb _⟩
theorem great15_d (B : Nat) (p : Pg) (W : World) (hB : B ≤ W.heap.size) (hp : Read1 W B p) (h5 : ¬ 5000 < p.code.n) (h3 : ¬ 1100 < IntKind.i64.wrap (IntKind.i64.wrap (IntKind.i64.wrap ((p.names.n : Int) + (p.curs.n : Int)) + (p.sorts.n : Int)) + (p.tots.n : Int))) (h11 : ¬ 1100 < p.cons.n) :
 Calls Tryz.prog 17 #[p.v] W fun e w' => GrtP p.code.n p.cons.n e ∧ Below W.heap.size W w' := by
 have hb : ∀ o, Below W.heap.size W (W.alloc o) := fun o => (Below.refl _ W).alloc (Nat.le_refl _) o
 have H := Lib.hid hp
 clear hp
 have hd : ((5000 : Int) < (p.code.n : Int)) = False := by simp; omega
 obtain ⟨S1, hS1⟩ : ∃ S, IntKind.i64.wrap ((p.names.n : Int) + (p.curs.n : Int)) = S := ⟨_, rfl⟩
 obtain ⟨S2, hS2⟩ : ∃ S, IntKind.i64.wrap (S1 + (p.sorts.n : Int)) = S := ⟨_, rfl⟩
 obtain ⟨S3, hS3⟩ : ∃ S, IntKind.i64.wrap (S2 + (p.tots.n : Int)) = S := ⟨_, rfl⟩
 have hw1 : wrap64 ((p.names.n : Int) + (p.curs.n : Int)) = S1 := (IntWalk.i64_left _).symm.trans hS1
 have hw2 : wrap64 (S1 + (p.sorts.n : Int)) = S2 := (IntWalk.i64_left _).symm.trans hS2
 have hw3 : wrap64 (S2 + (p.tots.n : Int)) = S3 := (IntWalk.i64_left _).symm.trans hS3
 rw [hS1, hS2, hS3] at h3
 have hd3 : (1100 < S3) = False := by simp; omega
 have hd2 : ((1100 : Int) < (p.cons.n : Int)) = False := by simp; omega
 clear h3
 go_enter Tryz.func17, Tryz.ntmps17
 go_upto_block 0 with (fail)
 go_cut [3] from 4 (fun s3 wx => ∃ x : Int, s3 = .int .i64 x ∧ wx = W.alloc (.cells p.cells 29))
 case first =>
  go_wp2_with (fail)
  go_loopg [3, 40] (p.names.n) (fun lft s3 i wr => ∃ (kk : Nat) (x : Int), kk + lft = p.names.n ∧ i = .int .i64 kk ∧ s3 = .int .i64 x ∧ wr = W.alloc (.cells p.cells 29))
  case atStart => exact ⟨0, _, by omega, rfl, rfl, rfl⟩
  case round =>
   obtain ⟨kk, x, hl, rfl, rfl, rfl⟩ := hrel
   by_cases hlk : kk < p.names.n
   · have hlt : ((kk : Int) < (p.names.n : Int)) = True := by simp; omega
     have hlt2 := H.out.n1
     obtain ⟨g, o, e1, hg, y, hy⟩ := H.out.names kk hlk
     have hgw : g < W.heap.size := by omega
     have d : ∀ o', (W.alloc o').cell? ⟨g, o + kk, none⟩ = some (.string y) := fun o' => ((hb o').cell (p := ⟨g, o + kk, none⟩) hgw).trans (by first | exact hy | (rw [Nat.mul_one] at hy; exact hy))
     go_wp2
     go_roundg (p.names.n - kk - 1)
     case measure => omega
     case rel => exact ⟨kk + 1, _, by omega, by first | rfl | go_num, rfl, rfl⟩
   · have hlt : ((kk : Int) < (p.names.n : Int)) = False := by simp; omega
     go_wp2_with fail
     go_meet
     exact ⟨x, rfl, rfl⟩
 case rest =>
  obtain ⟨x, rfl, rfl⟩ := hcut
  rename (∀ (a : Act) (w : World), Code.wp _ _ _ a w → _) => hK
  refine hK _ _ ?_
  exact gsuf1 B p W hB H x _ _ _ _ _ _ _ _ _ _ _ _ _ _ _ _ _ _ _ _ _ _ _ _ _ _ _ _ _ _ _ _ _ _ _ _ _ _ _ _ _ _ _ _ _ _ _ _ _ _ _ _ _ _ _ _ _ _ _ _ _ _ _ _ _ _ _ _ _ _ _ _ _ _ _ _ _ _ _ _ _ _ _ _ _ _ _ _ _ _ _ _ _ _ _ _ _ _ _ _ _ _ _ _ _ _ _ _ _ _ _ _ _ _ _ h5 h11
theorem great15 (B : Nat) (p : Pg) (W : World) (hB : B ≤ W.heap.size) (hp : Read1 W B p) :
 Calls Tryz.prog 17 #[p.v] W fun e w' => GrtP p.code.n p.cons.n e ∧ Below W.heap.size W w' := by
 by_cases h5 : 5000 < p.code.n
 · exact great15_a B p W hB hp h5
 by_cases h3 : 1100 < IntKind.i64.wrap (IntKind.i64.wrap (IntKind.i64.wrap ((p.names.n : Int) + (p.curs.n : Int)) + (p.sorts.n : Int)) + (p.tots.n : Int))
 · exact great15_b B p W hB hp h5 h3
 by_cases h11 : 1100 < p.cons.n
 · exact great15_c B p W hB hp h5 h3 h11
 · exact great15_d B p W hB hp h5 h3 h11
end Go.Proofs.Vf
namespace Go.Proofs.Vf
open Go Go.Proofs Go.RowKit Go.Lib Go.Maps Go.ChangeMaps
open Go.Proofs.Vg (Lp inside insF insFrom top boundF)
attribute [local go_sem ↓] Go.wp_at_zero Go.wp_at_succ
noncomputable def boundE (p : Pg) (D : Dat) (rows : Int) : Int := if loopsE p D = 0 then (if writesF D.code (loopsL D.code) then (if rows < 0 then 2 else 0) else 143) else loopsE p D
noncomputable def boundN (p : Pg) (D : Dat) (rows : Int) : Nat := if boundE p D rows = 0 then boundF D.code (loopsL D.code) rows.toNat else 0
theorem loopsE_cases (p : Pg) (D : Dat) : (loopsE p D = 0 ∧ CheckP p D ∧ loopsB D.code = true) ∨ loopsE p D = 140 ∨ loopsE p D = 141 := by
 unfold loopsE
 by_cases hc : CheckP p D
 · rw [checkE_yes hc, if_pos rfl]
   cases hb : loopsB D.code
   · exact .inr (.inr rfl)
   · exact .inl ⟨rfl, hc, rfl⟩
 · rw [checkE_no hc]; exact .inr (.inl rfl)
structure Giv (W0 W : World) (p : Pg) (D : Dat) : Prop where
 known : Known W0
 back : Below W0.heap.size W0 W
 has : Has W p D
 ops : OpsOK D
 wf : ∀ i ∈ D.code, (Lit.int .i64 i.a).wf = true
 cap : p.code.n ≤ p.code.c
theorem Giv.on {W0 W w : World} {p : Pg} {D : Dat} (h : Giv W0 W p D) (hb : Below W.heap.size W w) : Giv W0 w p D := ⟨h.known, h.back.on hb, h.has.on hb, h.ops, h.wf, h.cap⟩
theorem Giv.ahead {W0 W : World} {p : Pg} {D : Dat} (h : Giv W0 W p D) (hc : CheckP p D) (hb : loopsB D.code = true) (h0 : loopsE p D = 0) : Ahead W p D := by
 have hn : nestB (begs 0 D.code) = true := by
  unfold loopsB at hb
  simp only [Bool.and_eq_true] at hb
  exact hb.1.1.2
 refine ⟨h.has, jumps_of hc h.has.code.len, hc.2.2.1, hn, fun w hw => ?_⟩
 have g := h.on hw
 refine (loops_any W0 g.known p D w g.back g.has g.ops g.wf).mono ?_
 rintro e w' ⟨⟨s, he, hl⟩, hb'⟩
 exact ⟨⟨s, by rw [he, h0], loops_lps hc.2.2.1 hn (hl h0)⟩, hb'⟩
theorem bound_any {W0 W : World} {p : Pg} {D : Dat} (h : Giv W0 W p D) (rows : Int) (hr : rows ≤ 9223372036854775807) : Gives 10 #[p.v, .int .i64 rows] W (.tuple #[.int .i64 (boundN p D rows : Nat), .int .i64 (boundE p D rows)]) := by
 unfold Gives
 rcases loopsE_cases p D with ⟨h0, hc, hb⟩ | h1
 · have A := h.ahead hc hb h0
   cases hw : writesF D.code (loopsL D.code) with
   | false =>
     have e1 : boundE p D rows = 143 := by unfold boundE; rw [if_pos h0, hw]; rfl
     have e2 : boundN p D rows = 0 := by unfold boundN; rw [e1]; rfl
     rw [e1, e2]
     exact bound_write p D W rows A hw
   | true =>
     by_cases hn : rows < 0
     · have e1 : boundE p D rows = 2 := by unfold boundE; rw [if_pos h0, hw, if_pos rfl, if_pos hn]
       have e2 : boundN p D rows = 0 := by unfold boundN; rw [e1]; rfl
       rw [e1, e2]
       exact bound_neg p D W rows A hw hn
     · have e1 : boundE p D rows = 0 := by unfold boundE; rw [if_pos h0, hw, if_pos rfl, if_neg hn]
       have e2 : boundN p D rows = boundF D.code (loopsL D.code) rows.toNat := by unfold boundN; rw [if_pos e1]
       rw [e1, e2]
       have := bound_ok p D W rows.toNat A hw (by omega) h.wf h.cap hc.2.1
       rw [Int.toNat_of_nonneg (by omega)] at this
       exact this
 · have h2 : (loopsE p D == 0) = false := by rcases h1 with h | h <;> rw [h] <;> rfl
   have h3 : loopsE p D ≠ 0 := by simpa using h2
   have e1 : boundE p D rows = loopsE p D := by unfold boundE; rw [if_neg h3]
   have e2 : boundN p D rows = 0 := by unfold boundN; rw [e1, if_neg h3]
   rw [e1, e2]
   refine bound_bad p W rows (loopsE p D) h2 fun w hw => ?_
   have g := h.on hw
   refine (loops_any W0 g.known p D w g.back g.has g.ops g.wf).mono ?_
   rintro e w' ⟨⟨s, he, _⟩, hb'⟩
   exact ⟨⟨s, he⟩, hb'⟩
def pickN (x n : Int) : Nat := (if x.tmod n < 0 then x.tmod n + n else x.tmod n).toNat
theorem pickN_lt {x n : Int} (hn : 1 ≤ n) : (pickN x n : Int) < n := by
 have h1 : x.tmod n < n := Int.tmod_lt_of_pos x (by omega)
 have h2 : -n < x.tmod n := Int.lt_tmod_of_pos x (by omega)
 unfold pickN
 split <;> omega
theorem pick_any (x n : Int) (hn : 1 ≤ n ∧ n ≤ 1048576) (W : World) : Calls Tryz.prog 8 #[.int .i64 x, .int .i64 n] W fun e w' => e = .returned (.int .i64 (pickN x n : Nat)) ∧ w' = W := by
 have h1 : x.tmod n < n := Int.tmod_lt_of_pos x (by omega)
 have h2 : -n < x.tmod n := Int.lt_tmod_of_pos x (by omega)
 unfold pickN
 generalize hq : x.tmod n = q at h1 h2
 have e : (((if q < 0 then q + n else q).toNat : Nat) : Int) = if q < 0 then q + n else q := by split <;> omega
 rw [e]
 by_cases hh : q < 0
 · have hw : wrap64 (q + n) = q + n := by unfold wrap64; omega
   have hh2 : (q < 0) = True := by simpa using hh
   rw [if_pos hh]
   go_enter Tryz.func8, Tryz.ntmps8
   go_wp2
   go_ret
   exact ⟨rfl, rfl⟩
 · have hh2 : (q < 0) = False := by simpa using hh
   rw [if_neg hh]
   go_enter Tryz.func8, Tryz.ntmps8
   go_wp2
   go_ret
   exact ⟨rfl, rfl⟩
theorem listAt_of {α : Type} {W : World} {s : Sl} {sz : Nat} {f : α → List Value} {l : List α} (h : Lst W s sz f l) {E : Nat → Nat → Prop} (hE : ∀ g o x, (∀ j, j < sz → W.cell? ⟨g, o + j, none⟩ = (f x)[j]?) → E g o) : ListAt W.heap.size s sz E := by
 intro i hi
 obtain ⟨g, o, e, hg, hc⟩ := h.at' i _ (List.getElem?_eq_getElem (by rw [← h.len]; exact hi))
 exact ⟨g, o, e, hg, hE g _ _ hc⟩
theorem read1_of {W : World} {p : Pg} {D : Dat} (h : Has W p D) : Read1 W W.heap.size p :=
 ⟨listAt_of h.names fun g o x hc => ⟨x, hc 0 (by omega)⟩, listAt_of h.cons fun g o x hc => ⟨x.s, hc 2 (by omega)⟩, listAt_of h.curs fun g o x hc => ⟨x.s, hc 0 (by omega)⟩, listAt_of h.sorts fun g o x hc => ⟨_, _, _, hc 0 (by omega)⟩,
  listAt_of h.tots fun g o x hc => ⟨x.s, hc 0 (by omega)⟩, h.names.small, h.cons.small, h.curs.small, h.sorts.small, h.tots.small⟩
theorem great_any (p : Pg) (D : Dat) (W : World) (hp : Has W p D) : Calls Tryz.prog 6 #[p.v] W fun e w' => (∃ b, e = .returned (.bool b)) ∧ Below W.heap.size W w' := by
 have hg := fun w (hb : Below W.heap.size W w) => great15 w.heap.size p w (Nat.le_refl _) (read1_of (hp.on hb))
 have hsm : p.code.n ≤ 9223372036854775807 := hp.code.small
 have hbox : ∀ w, Below (W.alloc (.cells p.cells 29)).heap.size (W.alloc (.cells p.cells 29)) w → (∀ j, w.cell? ⟨W.heap.size, j, none⟩ = p.cells[j]?) := fun w hb =>
  blk_cell ((hb.block _ (by rw [heap_size_alloc]; omega)).trans (heap_alloc_new _ _))
 have HO := Lib.hid hbox
 clear hbox
 go_enter Tryz.func6, Tryz.ntmps6
 go_wp2_with (first | (go_at_call 17; refine (hg _ (Below.one W _)).mono ?_; rintro e w2 ⟨⟨b, rfl, _⟩, hb2⟩; have k2 := HO.out _ hb2))
 all_goals go_ret
 all_goals exact ⟨⟨_, rfl⟩, (Below.one W _).on hb2⟩
end Go.Proofs.Vf
