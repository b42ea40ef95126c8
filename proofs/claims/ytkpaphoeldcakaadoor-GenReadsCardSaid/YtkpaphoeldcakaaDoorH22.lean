/- GenReads, by hand: part H22. -/
import Derived.Test.YtkpaphoeldcakaaDoorH21
namespace Go.Proofs.YtkpaphoeldcakaaDoor.Gr
open Go Go.Proofs Go.RowKit Go.Lib
attribute [local go_sem ↓] Go.wp_at_zero Go.wp_at_succ
/-- A list whose places hold E, below block B. -/
def ListAt (B : Nat) (s : Sl) (sz : Nat) (E : Nat → Nat → Prop) : Prop := ∀ i, i < s.n → ∃ g o, s.a = some ⟨g, o, none⟩ ∧ g < B ∧ E g (o + i * sz)
def StrE (w : World) (k : Nat) (g o : Nat) : Prop := ∃ x, w.cell? ⟨g, o + k, none⟩ = some (.string x)
def Str0 (w : World) (g o : Nat) : Prop := ∃ x, w.cell? ⟨g, o, none⟩ = some (.string x)
def SlE (w : World) (g o : Nat) : Prop := ∃ a n c, w.cell? ⟨g, o, none⟩ = some (.slice a n c)
/-- What Great reads of a program's lists. -/
structure Read1 (W : World) (B : Nat) (p : Pg) : Prop where
  names : ListAt B p.names 1 (Str0 W)
  cons : ListAt B p.cons 3 (StrE W 2)
  curs : ListAt B p.curs 3 (Str0 W)
  sorts : ListAt B p.sorts 3 (SlE W)
  tots : ListAt B p.tots 2 (Str0 W)
  n1 : p.names.n ≤ 9223372036854775807
  n2 : p.cons.n ≤ 9223372036854775807
  n3 : p.curs.n ≤ 9223372036854775807
  n4 : p.sorts.n ≤ 9223372036854775807
  n5 : p.tots.n ≤ 9223372036854775807
/-- What stands behind the n-th statement. -/
def dropS : Nat → Code → Code
  | 0, c => c
  | n + 1, .seq _ b => dropS n b
  | _ + 1, c => c
/-- The body of Great behind its k-th loop. -/
noncomputable def gsuf (k : Nat) : Code := dropS (k + 3) (Tryd.f11.body.getD .skip)
/-- What Great tells. -/
def GrtP (c k : Nat) (e : Ending) : Prop := ∃ b, e = .returned (.bool b) ∧ (b = false → c ≤ 5000 ∧ k ≤ 1100)
set_option maxHeartbeats 4000000 in
set_option maxRecDepth 100000 in
theorem gsuf5 (B : Nat) (p : Pg) (W : World) (_hB : B ≤ W.heap.size) (_H : Hid (Read1 W B p)) (x : Int) (b2 u4 u5 u6 u7 u8 u9 u10 u11 u12 u13 u14 u15 u16 u17 u18 u19 u20 u21 u22 u23 u24 u25 u26 u27 u28 u29 u30 u31 u32 u33 u34 u35 u36 u37 u38 u39 u40 u41 u42 u43 u44 u45 u46 u47 u48 u49 u50 u51 u52 u53 u54 u55 u56 u57 u58 u59 u60 u61 u62 u63 u64 u65 u66 u67 u68 u69 u70 u71 u72 u73 u74 u75 u76 u77 u78 u79 u80 u81 u82 u83 u84 u85 u86 u87 u88 u89 u90 u91 u92 u93 u94 u95 u96 u97 u98 u99 u100 u101 u102 u103 u104 u105 u106 u107 u108 u109 u110 u111 u112 u113 u114 u115 u116 u117 : Value) (h5 : ¬ 5000 < p.code.n) (h11 : ¬ 1100 < p.cons.n) :
    Code.wp Tryd.prog (gsuf 5) (bodyPost Tryd.prog Tryd.f11 fun e w' => GrtP p.code.n p.cons.n e ∧ Below W.heap.size W w') ⟨#[p.v, .pointer (some ⟨W.heap.size, 0, none⟩), b2, .int .i64 x, u4, u5, u6, u7, u8, u9, u10, u11, u12, u13, u14, u15, u16, u17, u18, u19, u20, u21, u22, u23, u24, u25, u26, u27, u28, u29, u30, u31, u32, u33, u34, u35, u36, u37, u38, u39, u40, u41, u42, u43, u44, u45, u46, u47, u48, u49, u50, u51, u52, u53, u54, u55, u56, u57, u58, u59, u60, u61, u62, u63, u64, u65, u66, u67, u68, u69, u70, u71, u72, u73, u74, u75, u76, u77, u78, u79, u80, u81, u82, u83, u84, u85, u86, u87, u88, u89, u90, u91, u92, u93, u94, u95, u96, u97, u98, u99, u100, u101, u102, u103, u104, u105, u106, u107, u108, u109, u110, u111, u112, u113, u114, u115, u116, u117], []⟩ (W.alloc (.cells p.cells 29)) := by
  have hb : ∀ o, Below W.heap.size W (W.alloc o) := fun o => (Below.refl _ W).alloc (Nat.le_refl _) o
  conv => arg 2; whnf
  go_wp2
  go_ret
  exact ⟨⟨_, rfl, fun _ => by omega⟩, hb _⟩
set_option maxHeartbeats 4000000 in
set_option maxRecDepth 100000 in
theorem gsuf4 (B : Nat) (p : Pg) (W : World) (hB : B ≤ W.heap.size) (H : Hid (Read1 W B p)) (x : Int) (b2 u4 u5 u6 u7 u8 u9 u10 u11 u12 u13 u14 u15 u16 u17 u18 u19 u20 u21 u22 u23 u24 u25 u26 u27 u28 u29 u30 u31 u32 u33 u34 u35 u36 u37 u38 u39 u40 u41 u42 u43 u44 u45 u46 u47 u48 u49 u50 u51 u52 u53 u54 u55 u56 u57 u58 u59 u60 u61 u62 u63 u64 u65 u66 u67 u68 u69 u70 u71 u72 u73 u74 u75 u76 u77 u78 u79 u80 u81 u82 u83 u84 u85 u86 u87 u88 u89 u90 u91 u92 u93 u94 u95 u96 u97 u98 u99 u100 u101 u102 u103 u104 u105 u106 u107 u108 u109 u110 u111 u112 u113 u114 u115 u116 u117 : Value) (h5 : ¬ 5000 < p.code.n) (h11 : ¬ 1100 < p.cons.n) :
    Code.wp Tryd.prog (gsuf 4) (bodyPost Tryd.prog Tryd.f11 fun e w' => GrtP p.code.n p.cons.n e ∧ Below W.heap.size W w') ⟨#[p.v, .pointer (some ⟨W.heap.size, 0, none⟩), b2, .int .i64 x, u4, u5, u6, u7, u8, u9, u10, u11, u12, u13, u14, u15, u16, u17, u18, u19, u20, u21, u22, u23, u24, u25, u26, u27, u28, u29, u30, u31, u32, u33, u34, u35, u36, u37, u38, u39, u40, u41, u42, u43, u44, u45, u46, u47, u48, u49, u50, u51, u52, u53, u54, u55, u56, u57, u58, u59, u60, u61, u62, u63, u64, u65, u66, u67, u68, u69, u70, u71, u72, u73, u74, u75, u76, u77, u78, u79, u80, u81, u82, u83, u84, u85, u86, u87, u88, u89, u90, u91, u92, u93, u94, u95, u96, u97, u98, u99, u100, u101, u102, u103, u104, u105, u106, u107, u108, u109, u110, u111, u112, u113, u114, u115, u116, u117], []⟩ (W.alloc (.cells p.cells 29)) := by
  have hb : ∀ o, Below W.heap.size W (W.alloc o) := fun o => (Below.refl _ W).alloc (Nat.le_refl _) o
  conv => arg 2; whnf
  go_upto_block 8 with (fail)
  go_cut [3] from 4 (fun s3 wx => ∃ x : Int, s3 = .int .i64 x ∧ wx = W.alloc (.cells p.cells 29))
  case first =>
    go_wp2_with (fail)
    go_loopg [3, 103] (p.tots.n) (fun lft s3 i wr => ∃ (kk : Nat) (x : Int), kk + lft = p.tots.n ∧ i = .int .i64 kk ∧ s3 = .int .i64 x ∧ wr = W.alloc (.cells p.cells 29))
    case atStart => exact ⟨0, _, by omega, rfl, rfl, rfl⟩
    case round =>
      obtain ⟨kk, x, hl, rfl, rfl, rfl⟩ := hrel
      by_cases hlk : kk < p.tots.n
      · have hlt : ((kk : Int) < (p.tots.n : Int)) = True := by simp; omega
        have hlt2 := H.out.n5
        obtain ⟨g, o, e1, hg, y, hy⟩ := H.out.tots kk hlk
        have hgw : g < W.heap.size := by omega
        have d : ∀ o', (W.alloc o').cell? ⟨g, o + kk * 2, none⟩ = some (.string y) := fun o' => ((hb o').cell (p := ⟨g, o + kk * 2, none⟩) hgw).trans (by first | exact hy | (rw [Nat.mul_one] at hy; exact hy))
        go_wp2
        go_roundg (p.tots.n - kk - 1)
        case measure => omega
        case rel => exact ⟨kk + 1, _, by omega, by first | rfl | go_num, rfl, rfl⟩
      · have hlt : ((kk : Int) < (p.tots.n : Int)) = False := by simp; omega
        go_wp2_with fail
        go_meet
        exact ⟨x, rfl, rfl⟩
  case rest =>
    obtain ⟨x, rfl, rfl⟩ := hcut
    rename (∀ (a : Act) (w : World), Code.wp _ _ _ a w → _) => hK
    refine hK _ _ ?_
    exact gsuf5 B p W hB H x _ _ _ _ _ _ _ _ _ _ _ _ _ _ _ _ _ _ _ _ _ _ _ _ _ _ _ _ _ _ _ _ _ _ _ _ _ _ _ _ _ _ _ _ _ _ _ _ _ _ _ _ _ _ _ _ _ _ _ _ _ _ _ _ _ _ _ _ _ _ _ _ _ _ _ _ _ _ _ _ _ _ _ _ _ _ _ _ _ _ _ _ _ _ _ _ _ _ _ _ _ _ _ _ _ _ _ _ _ _ _ _ _ _ _ h5 h11
set_option maxHeartbeats 4000000 in
set_option maxRecDepth 100000 in
theorem gsuf3 (B : Nat) (p : Pg) (W : World) (hB : B ≤ W.heap.size) (H : Hid (Read1 W B p)) (x : Int) (b2 u4 u5 u6 u7 u8 u9 u10 u11 u12 u13 u14 u15 u16 u17 u18 u19 u20 u21 u22 u23 u24 u25 u26 u27 u28 u29 u30 u31 u32 u33 u34 u35 u36 u37 u38 u39 u40 u41 u42 u43 u44 u45 u46 u47 u48 u49 u50 u51 u52 u53 u54 u55 u56 u57 u58 u59 u60 u61 u62 u63 u64 u65 u66 u67 u68 u69 u70 u71 u72 u73 u74 u75 u76 u77 u78 u79 u80 u81 u82 u83 u84 u85 u86 u87 u88 u89 u90 u91 u92 u93 u94 u95 u96 u97 u98 u99 u100 u101 u102 u103 u104 u105 u106 u107 u108 u109 u110 u111 u112 u113 u114 u115 u116 u117 : Value) (h5 : ¬ 5000 < p.code.n) (h11 : ¬ 1100 < p.cons.n) :
    Code.wp Tryd.prog (gsuf 3) (bodyPost Tryd.prog Tryd.f11 fun e w' => GrtP p.code.n p.cons.n e ∧ Below W.heap.size W w') ⟨#[p.v, .pointer (some ⟨W.heap.size, 0, none⟩), b2, .int .i64 x, u4, u5, u6, u7, u8, u9, u10, u11, u12, u13, u14, u15, u16, u17, u18, u19, u20, u21, u22, u23, u24, u25, u26, u27, u28, u29, u30, u31, u32, u33, u34, u35, u36, u37, u38, u39, u40, u41, u42, u43, u44, u45, u46, u47, u48, u49, u50, u51, u52, u53, u54, u55, u56, u57, u58, u59, u60, u61, u62, u63, u64, u65, u66, u67, u68, u69, u70, u71, u72, u73, u74, u75, u76, u77, u78, u79, u80, u81, u82, u83, u84, u85, u86, u87, u88, u89, u90, u91, u92, u93, u94, u95, u96, u97, u98, u99, u100, u101, u102, u103, u104, u105, u106, u107, u108, u109, u110, u111, u112, u113, u114, u115, u116, u117], []⟩ (W.alloc (.cells p.cells 29)) := by
  have hb : ∀ o, Below W.heap.size W (W.alloc o) := fun o => (Below.refl _ W).alloc (Nat.le_refl _) o
  conv => arg 2; whnf
  go_upto_block 6 with (fail)
  go_cut [3] from 4 (fun s3 wx => ∃ x : Int, s3 = .int .i64 x ∧ wx = W.alloc (.cells p.cells 29))
  case first =>
    go_wp2_with (fail)
    go_loopg [3, 87] (p.sorts.n) (fun lft s3 i wr => ∃ (kk : Nat) (x : Int), kk + lft = p.sorts.n ∧ i = .int .i64 kk ∧ s3 = .int .i64 x ∧ wr = W.alloc (.cells p.cells 29))
    case atStart => exact ⟨0, _, by omega, rfl, rfl, rfl⟩
    case round =>
      obtain ⟨kk, x, hl, rfl, rfl, rfl⟩ := hrel
      by_cases hlk : kk < p.sorts.n
      · have hlt : ((kk : Int) < (p.sorts.n : Int)) = True := by simp; omega
        have hlt2 := H.out.n4
        obtain ⟨g, o, e1, hg, ya, yn, yc, hy⟩ := H.out.sorts kk hlk
        have hgw : g < W.heap.size := by omega
        have d : ∀ o', (W.alloc o').cell? ⟨g, o + kk * 3, none⟩ = some (.slice ya yn yc) := fun o' => ((hb o').cell (p := ⟨g, o + kk * 3, none⟩) hgw).trans hy
        go_wp2
        go_roundg (p.sorts.n - kk - 1)
        case measure => omega
        case rel => exact ⟨kk + 1, _, by omega, by first | rfl | go_num, rfl, rfl⟩
      · have hlt : ((kk : Int) < (p.sorts.n : Int)) = False := by simp; omega
        go_wp2_with fail
        go_meet
        exact ⟨x, rfl, rfl⟩
  case rest =>
    obtain ⟨x, rfl, rfl⟩ := hcut
    rename (∀ (a : Act) (w : World), Code.wp _ _ _ a w → _) => hK
    refine hK _ _ ?_
    exact gsuf4 B p W hB H x _ _ _ _ _ _ _ _ _ _ _ _ _ _ _ _ _ _ _ _ _ _ _ _ _ _ _ _ _ _ _ _ _ _ _ _ _ _ _ _ _ _ _ _ _ _ _ _ _ _ _ _ _ _ _ _ _ _ _ _ _ _ _ _ _ _ _ _ _ _ _ _ _ _ _ _ _ _ _ _ _ _ _ _ _ _ _ _ _ _ _ _ _ _ _ _ _ _ _ _ _ _ _ _ _ _ _ _ _ _ _ _ _ _ _ h5 h11
set_option maxHeartbeats 4000000 in
set_option maxRecDepth 100000 in
theorem gsuf2 (B : Nat) (p : Pg) (W : World) (hB : B ≤ W.heap.size) (H : Hid (Read1 W B p)) (x : Int) (b2 u4 u5 u6 u7 u8 u9 u10 u11 u12 u13 u14 u15 u16 u17 u18 u19 u20 u21 u22 u23 u24 u25 u26 u27 u28 u29 u30 u31 u32 u33 u34 u35 u36 u37 u38 u39 u40 u41 u42 u43 u44 u45 u46 u47 u48 u49 u50 u51 u52 u53 u54 u55 u56 u57 u58 u59 u60 u61 u62 u63 u64 u65 u66 u67 u68 u69 u70 u71 u72 u73 u74 u75 u76 u77 u78 u79 u80 u81 u82 u83 u84 u85 u86 u87 u88 u89 u90 u91 u92 u93 u94 u95 u96 u97 u98 u99 u100 u101 u102 u103 u104 u105 u106 u107 u108 u109 u110 u111 u112 u113 u114 u115 u116 u117 : Value) (h5 : ¬ 5000 < p.code.n) (h11 : ¬ 1100 < p.cons.n) :
    Code.wp Tryd.prog (gsuf 2) (bodyPost Tryd.prog Tryd.f11 fun e w' => GrtP p.code.n p.cons.n e ∧ Below W.heap.size W w') ⟨#[p.v, .pointer (some ⟨W.heap.size, 0, none⟩), b2, .int .i64 x, u4, u5, u6, u7, u8, u9, u10, u11, u12, u13, u14, u15, u16, u17, u18, u19, u20, u21, u22, u23, u24, u25, u26, u27, u28, u29, u30, u31, u32, u33, u34, u35, u36, u37, u38, u39, u40, u41, u42, u43, u44, u45, u46, u47, u48, u49, u50, u51, u52, u53, u54, u55, u56, u57, u58, u59, u60, u61, u62, u63, u64, u65, u66, u67, u68, u69, u70, u71, u72, u73, u74, u75, u76, u77, u78, u79, u80, u81, u82, u83, u84, u85, u86, u87, u88, u89, u90, u91, u92, u93, u94, u95, u96, u97, u98, u99, u100, u101, u102, u103, u104, u105, u106, u107, u108, u109, u110, u111, u112, u113, u114, u115, u116, u117], []⟩ (W.alloc (.cells p.cells 29)) := by
  have hb : ∀ o, Below W.heap.size W (W.alloc o) := fun o => (Below.refl _ W).alloc (Nat.le_refl _) o
  conv => arg 2; whnf
  go_upto_block 4 with (fail)
  go_cut [3] from 4 (fun s3 wx => ∃ x : Int, s3 = .int .i64 x ∧ wx = W.alloc (.cells p.cells 29))
  case first =>
    go_wp2_with (fail)
    go_loopg [3, 71] (p.curs.n) (fun lft s3 i wr => ∃ (kk : Nat) (x : Int), kk + lft = p.curs.n ∧ i = .int .i64 kk ∧ s3 = .int .i64 x ∧ wr = W.alloc (.cells p.cells 29))
    case atStart => exact ⟨0, _, by omega, rfl, rfl, rfl⟩
    case round =>
      obtain ⟨kk, x, hl, rfl, rfl, rfl⟩ := hrel
      by_cases hlk : kk < p.curs.n
      · have hlt : ((kk : Int) < (p.curs.n : Int)) = True := by simp; omega
        have hlt2 := H.out.n3
        obtain ⟨g, o, e1, hg, y, hy⟩ := H.out.curs kk hlk
        have hgw : g < W.heap.size := by omega
        have d : ∀ o', (W.alloc o').cell? ⟨g, o + kk * 3, none⟩ = some (.string y) := fun o' => ((hb o').cell (p := ⟨g, o + kk * 3, none⟩) hgw).trans (by first | exact hy | (rw [Nat.mul_one] at hy; exact hy))
        go_wp2
        go_roundg (p.curs.n - kk - 1)
        case measure => omega
        case rel => exact ⟨kk + 1, _, by omega, by first | rfl | go_num, rfl, rfl⟩
      · have hlt : ((kk : Int) < (p.curs.n : Int)) = False := by simp; omega
        go_wp2_with fail
        go_meet
        exact ⟨x, rfl, rfl⟩
  case rest =>
    obtain ⟨x, rfl, rfl⟩ := hcut
    rename (∀ (a : Act) (w : World), Code.wp _ _ _ a w → _) => hK
    refine hK _ _ ?_
    exact gsuf3 B p W hB H x _ _ _ _ _ _ _ _ _ _ _ _ _ _ _ _ _ _ _ _ _ _ _ _ _ _ _ _ _ _ _ _ _ _ _ _ _ _ _ _ _ _ _ _ _ _ _ _ _ _ _ _ _ _ _ _ _ _ _ _ _ _ _ _ _ _ _ _ _ _ _ _ _ _ _ _ _ _ _ _ _ _ _ _ _ _ _ _ _ _ _ _ _ _ _ _ _ _ _ _ _ _ _ _ _ _ _ _ _ _ _ _ _ _ _ h5 h11
set_option maxHeartbeats 4000000 in
set_option maxRecDepth 100000 in
theorem gsuf1 (B : Nat) (p : Pg) (W : World) (hB : B ≤ W.heap.size) (H : Hid (Read1 W B p)) (x : Int) (b2 u4 u5 u6 u7 u8 u9 u10 u11 u12 u13 u14 u15 u16 u17 u18 u19 u20 u21 u22 u23 u24 u25 u26 u27 u28 u29 u30 u31 u32 u33 u34 u35 u36 u37 u38 u39 u40 u41 u42 u43 u44 u45 u46 u47 u48 u49 u50 u51 u52 u53 u54 u55 u56 u57 u58 u59 u60 u61 u62 u63 u64 u65 u66 u67 u68 u69 u70 u71 u72 u73 u74 u75 u76 u77 u78 u79 u80 u81 u82 u83 u84 u85 u86 u87 u88 u89 u90 u91 u92 u93 u94 u95 u96 u97 u98 u99 u100 u101 u102 u103 u104 u105 u106 u107 u108 u109 u110 u111 u112 u113 u114 u115 u116 u117 : Value) (h5 : ¬ 5000 < p.code.n) (h11 : ¬ 1100 < p.cons.n) :
    Code.wp Tryd.prog (gsuf 1) (bodyPost Tryd.prog Tryd.f11 fun e w' => GrtP p.code.n p.cons.n e ∧ Below W.heap.size W w') ⟨#[p.v, .pointer (some ⟨W.heap.size, 0, none⟩), b2, .int .i64 x, u4, u5, u6, u7, u8, u9, u10, u11, u12, u13, u14, u15, u16, u17, u18, u19, u20, u21, u22, u23, u24, u25, u26, u27, u28, u29, u30, u31, u32, u33, u34, u35, u36, u37, u38, u39, u40, u41, u42, u43, u44, u45, u46, u47, u48, u49, u50, u51, u52, u53, u54, u55, u56, u57, u58, u59, u60, u61, u62, u63, u64, u65, u66, u67, u68, u69, u70, u71, u72, u73, u74, u75, u76, u77, u78, u79, u80, u81, u82, u83, u84, u85, u86, u87, u88, u89, u90, u91, u92, u93, u94, u95, u96, u97, u98, u99, u100, u101, u102, u103, u104, u105, u106, u107, u108, u109, u110, u111, u112, u113, u114, u115, u116, u117], []⟩ (W.alloc (.cells p.cells 29)) := by
  have hb : ∀ o, Below W.heap.size W (W.alloc o) := fun o => (Below.refl _ W).alloc (Nat.le_refl _) o
  conv => arg 2; whnf
  go_upto_block 2 with (fail)
  go_cut [3] from 4 (fun s3 wx => ∃ x : Int, s3 = .int .i64 x ∧ wx = W.alloc (.cells p.cells 29))
  case first =>
    go_wp2_with (fail)
    go_loopg [3, 55] (p.cons.n) (fun lft s3 i wr => ∃ (kk : Nat) (x : Int), kk + lft = p.cons.n ∧ i = .int .i64 kk ∧ s3 = .int .i64 x ∧ wr = W.alloc (.cells p.cells 29))
    case atStart => exact ⟨0, _, by omega, rfl, rfl, rfl⟩
    case round =>
      obtain ⟨kk, x, hl, rfl, rfl, rfl⟩ := hrel
      by_cases hlk : kk < p.cons.n
      · have hlt : ((kk : Int) < (p.cons.n : Int)) = True := by simp; omega
        have hlt2 := H.out.n2
        obtain ⟨g, o, e1, hg, y, hy⟩ := H.out.cons kk hlk
        have hgw : g < W.heap.size := by omega
        have d : ∀ o', (W.alloc o').cell? ⟨g, o + kk * 3 + 2, none⟩ = some (.string y) := fun o' => ((hb o').cell (p := ⟨g, o + kk * 3 + 2, none⟩) hgw).trans (by first | exact hy | (rw [Nat.mul_one] at hy; exact hy))
        go_wp2
        go_roundg (p.cons.n - kk - 1)
        case measure => omega
        case rel => exact ⟨kk + 1, _, by omega, by first | rfl | go_num, rfl, rfl⟩
      · have hlt : ((kk : Int) < (p.cons.n : Int)) = False := by simp; omega
        go_wp2_with fail
        go_meet
        exact ⟨x, rfl, rfl⟩
  case rest =>
    obtain ⟨x, rfl, rfl⟩ := hcut
    rename (∀ (a : Act) (w : World), Code.wp _ _ _ a w → _) => hK
    refine hK _ _ ?_
    exact gsuf2 B p W hB H x _ _ _ _ _ _ _ _ _ _ _ _ _ _ _ _ _ _ _ _ _ _ _ _ _ _ _ _ _ _ _ _ _ _ _ _ _ _ _ _ _ _ _ _ _ _ _ _ _ _ _ _ _ _ _ _ _ _ _ _ _ _ _ _ _ _ _ _ _ _ _ _ _ _ _ _ _ _ _ _ _ _ _ _ _ _ _ _ _ _ _ _ _ _ _ _ _ _ _ _ _ _ _ _ _ _ _ _ _ _ _ _ _ _ _ h5 h11
set_option maxHeartbeats 4000000 in
set_option maxRecDepth 100000 in
theorem great15_a (B : Nat) (p : Pg) (W : World) (_hB : B ≤ W.heap.size) (hp : Read1 W B p) (h5 : 5000 < p.code.n) :
    Calls Tryd.prog 11 #[p.v] W fun e w' => GrtP p.code.n p.cons.n e ∧ Below W.heap.size W w' := by
  have hb : ∀ o, Below W.heap.size W (W.alloc o) := fun o => (Below.refl _ W).alloc (Nat.le_refl _) o
  have H := Lib.hid hp
  clear hp
  have hd : ((5000 : Int) < (p.code.n : Int)) = True := by simp; omega
  clear h5
  go_enter Tryd.func11, Tryd.ntmps11
  go_wp2
  go_ret
  exact ⟨⟨_, rfl, fun h => by cases h⟩, hb _⟩
set_option maxHeartbeats 4000000 in
set_option maxRecDepth 100000 in
theorem great15_b (B : Nat) (p : Pg) (W : World) (_hB : B ≤ W.heap.size) (hp : Read1 W B p) (h5 : ¬ 5000 < p.code.n) (h3 : 1100 < IntKind.i64.wrap (IntKind.i64.wrap (IntKind.i64.wrap ((p.names.n : Int) + (p.curs.n : Int)) + (p.sorts.n : Int)) + (p.tots.n : Int))) :
    Calls Tryd.prog 11 #[p.v] W fun e w' => GrtP p.code.n p.cons.n e ∧ Below W.heap.size W w' := by
  have hb : ∀ o, Below W.heap.size W (W.alloc o) := fun o => (Below.refl _ W).alloc (Nat.le_refl _) o
  have H := Lib.hid hp
  clear hp
  have hd : ((5000 : Int) < (p.code.n : Int)) = False := by simp; omega
  obtain ⟨S1, hS1⟩ : ∃ S, IntKind.i64.wrap ((p.names.n : Int) + (p.curs.n : Int)) = S := ⟨_, rfl⟩
  obtain ⟨S2, hS2⟩ : ∃ S, IntKind.i64.wrap (S1 + (p.sorts.n : Int)) = S := ⟨_, rfl⟩
  obtain ⟨S3, hS3⟩ : ∃ S, IntKind.i64.wrap (S2 + (p.tots.n : Int)) = S := ⟨_, rfl⟩
  have hw1 : wrap64 ((p.names.n : Int) + (p.curs.n : Int)) = S1 := (IntWalk.i64_left _).symm.trans hS1
  have hw2 : wrap64 (S1 + (p.sorts.n : Int)) = S2 := (IntWalk.i64_left _).symm.trans hS2
  have hw3 : wrap64 (S2 + (p.tots.n : Int)) = S3 := (IntWalk.i64_left _).symm.trans hS3
  rw [hS1, hS2, hS3] at h3
  have hd3 : (1100 < S3) = True := by simp; omega
  clear h5 h3
  go_enter Tryd.func11, Tryd.ntmps11
  go_wp2
  go_ret
  exact ⟨⟨_, rfl, fun h => by cases h⟩, hb _⟩
set_option maxHeartbeats 4000000 in
set_option maxRecDepth 100000 in
theorem great15_c (B : Nat) (p : Pg) (W : World) (_hB : B ≤ W.heap.size) (hp : Read1 W B p) (h5 : ¬ 5000 < p.code.n) (h3 : ¬ 1100 < IntKind.i64.wrap (IntKind.i64.wrap (IntKind.i64.wrap ((p.names.n : Int) + (p.curs.n : Int)) + (p.sorts.n : Int)) + (p.tots.n : Int))) (h11 : 1100 < p.cons.n) :
    Calls Tryd.prog 11 #[p.v] W fun e w' => GrtP p.code.n p.cons.n e ∧ Below W.heap.size W w' := by
  have hb : ∀ o, Below W.heap.size W (W.alloc o) := fun o => (Below.refl _ W).alloc (Nat.le_refl _) o
  have H := Lib.hid hp
  clear hp
  have hd : ((5000 : Int) < (p.code.n : Int)) = False := by simp; omega
  obtain ⟨S1, hS1⟩ : ∃ S, IntKind.i64.wrap ((p.names.n : Int) + (p.curs.n : Int)) = S := ⟨_, rfl⟩
  obtain ⟨S2, hS2⟩ : ∃ S, IntKind.i64.wrap (S1 + (p.sorts.n : Int)) = S := ⟨_, rfl⟩
  obtain ⟨S3, hS3⟩ : ∃ S, IntKind.i64.wrap (S2 + (p.tots.n : Int)) = S := ⟨_, rfl⟩
  have hw1 : wrap64 ((p.names.n : Int) + (p.curs.n : Int)) = S1 := (IntWalk.i64_left _).symm.trans hS1
  have hw2 : wrap64 (S1 + (p.sorts.n : Int)) = S2 := (IntWalk.i64_left _).symm.trans hS2
  have hw3 : wrap64 (S2 + (p.tots.n : Int)) = S3 := (IntWalk.i64_left _).symm.trans hS3
  rw [hS1, hS2, hS3] at h3
  have hd3 : (1100 < S3) = False := by simp; omega
  have hd2 : ((1100 : Int) < (p.cons.n : Int)) = True := by simp; omega
  clear h5 h3 h11
  go_enter Tryd.func11, Tryd.ntmps11
  go_wp2
  go_ret
  exact ⟨⟨_, rfl, fun h => by cases h⟩, hb _⟩
set_option maxHeartbeats 4000000 in
set_option maxRecDepth 100000 in
theorem great15_d (B : Nat) (p : Pg) (W : World) (hB : B ≤ W.heap.size) (hp : Read1 W B p) (h5 : ¬ 5000 < p.code.n) (h3 : ¬ 1100 < IntKind.i64.wrap (IntKind.i64.wrap (IntKind.i64.wrap ((p.names.n : Int) + (p.curs.n : Int)) + (p.sorts.n : Int)) + (p.tots.n : Int))) (h11 : ¬ 1100 < p.cons.n) :
    Calls Tryd.prog 11 #[p.v] W fun e w' => GrtP p.code.n p.cons.n e ∧ Below W.heap.size W w' := by
  have hb : ∀ o, Below W.heap.size W (W.alloc o) := fun o => (Below.refl _ W).alloc (Nat.le_refl _) o
  have H := Lib.hid hp
  clear hp
  have hd : ((5000 : Int) < (p.code.n : Int)) = False := by simp; omega
  obtain ⟨S1, hS1⟩ : ∃ S, IntKind.i64.wrap ((p.names.n : Int) + (p.curs.n : Int)) = S := ⟨_, rfl⟩
  obtain ⟨S2, hS2⟩ : ∃ S, IntKind.i64.wrap (S1 + (p.sorts.n : Int)) = S := ⟨_, rfl⟩
  obtain ⟨S3, hS3⟩ : ∃ S, IntKind.i64.wrap (S2 + (p.tots.n : Int)) = S := ⟨_, rfl⟩
  have hw1 : wrap64 ((p.names.n : Int) + (p.curs.n : Int)) = S1 := (IntWalk.i64_left _).symm.trans hS1
  have hw2 : wrap64 (S1 + (p.sorts.n : Int)) = S2 := (IntWalk.i64_left _).symm.trans hS2
  have hw3 : wrap64 (S2 + (p.tots.n : Int)) = S3 := (IntWalk.i64_left _).symm.trans hS3
  rw [hS1, hS2, hS3] at h3
  have hd3 : (1100 < S3) = False := by simp; omega
  have hd2 : ((1100 : Int) < (p.cons.n : Int)) = False := by simp; omega
  clear h3
  go_enter Tryd.func11, Tryd.ntmps11
  go_upto_block 0 with (fail)
  go_cut [3] from 4 (fun s3 wx => ∃ x : Int, s3 = .int .i64 x ∧ wx = W.alloc (.cells p.cells 29))
  case first =>
    go_wp2_with (fail)
    go_loopg [3, 40] (p.names.n) (fun lft s3 i wr => ∃ (kk : Nat) (x : Int), kk + lft = p.names.n ∧ i = .int .i64 kk ∧ s3 = .int .i64 x ∧ wr = W.alloc (.cells p.cells 29))
    case atStart => exact ⟨0, _, by omega, rfl, rfl, rfl⟩
    case round =>
      obtain ⟨kk, x, hl, rfl, rfl, rfl⟩ := hrel
      by_cases hlk : kk < p.names.n
      · have hlt : ((kk : Int) < (p.names.n : Int)) = True := by simp; omega
        have hlt2 := H.out.n1
        obtain ⟨g, o, e1, hg, y, hy⟩ := H.out.names kk hlk
        have hgw : g < W.heap.size := by omega
        have d : ∀ o', (W.alloc o').cell? ⟨g, o + kk, none⟩ = some (.string y) := fun o' => ((hb o').cell (p := ⟨g, o + kk, none⟩) hgw).trans (by first | exact hy | (rw [Nat.mul_one] at hy; exact hy))
        go_wp2
        go_roundg (p.names.n - kk - 1)
        case measure => omega
        case rel => exact ⟨kk + 1, _, by omega, by first | rfl | go_num, rfl, rfl⟩
      · have hlt : ((kk : Int) < (p.names.n : Int)) = False := by simp; omega
        go_wp2_with fail
        go_meet
        exact ⟨x, rfl, rfl⟩
  case rest =>
    obtain ⟨x, rfl, rfl⟩ := hcut
    rename (∀ (a : Act) (w : World), Code.wp _ _ _ a w → _) => hK
    refine hK _ _ ?_
    exact gsuf1 B p W hB H x _ _ _ _ _ _ _ _ _ _ _ _ _ _ _ _ _ _ _ _ _ _ _ _ _ _ _ _ _ _ _ _ _ _ _ _ _ _ _ _ _ _ _ _ _ _ _ _ _ _ _ _ _ _ _ _ _ _ _ _ _ _ _ _ _ _ _ _ _ _ _ _ _ _ _ _ _ _ _ _ _ _ _ _ _ _ _ _ _ _ _ _ _ _ _ _ _ _ _ _ _ _ _ _ _ _ _ _ _ _ _ _ _ _ _ h5 h11
theorem great15 (B : Nat) (p : Pg) (W : World) (hB : B ≤ W.heap.size) (hp : Read1 W B p) :
    Calls Tryd.prog 11 #[p.v] W fun e w' => GrtP p.code.n p.cons.n e ∧ Below W.heap.size W w' := by
  by_cases h5 : 5000 < p.code.n
  · exact great15_a B p W hB hp h5
  by_cases h3 : 1100 < IntKind.i64.wrap (IntKind.i64.wrap (IntKind.i64.wrap ((p.names.n : Int) + (p.curs.n : Int)) + (p.sorts.n : Int)) + (p.tots.n : Int))
  · exact great15_b B p W hB hp h5 h3
  by_cases h11 : 1100 < p.cons.n
  · exact great15_c B p W hB hp h5 h3 h11
  · exact great15_d B p W hB hp h5 h3 h11
end Go.Proofs.YtkpaphoeldcakaaDoor.Gr
