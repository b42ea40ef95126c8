/- GenReads, by hand: part H15. -/
import Derived.Test.YtkpaphoeldcakaaDoorH14
namespace Go.Proofs.YtkpaphoeldcakaaDoor.Gr
open Go Go.Proofs Go.RowKit Go.Lib
attribute [local go_sem ↓] Go.wp_at_zero Go.wp_at_succ
/-- A program's cells; places' cells. -/
structure Pg where
  (ver regs binds : Int) (names cons curs sorts tots code : Sl)
abbrev Pg.cells (p : Pg) : Array Value := #[.int .i64 p.ver, .int .i64 p.regs, .int .i64 p.binds, .slice p.names.a p.names.n p.names.c, .slice p.cons.a p.cons.n p.cons.c, .slice p.curs.a p.curs.n p.curs.c,
  .slice p.sorts.a p.sorts.n p.sorts.c, .slice p.tots.a p.tots.n p.tots.c, .slice p.code.a p.code.n p.code.c]
abbrev Pg.v (p : Pg) : Value := .agg #[.int .i64 p.ver, .int .i64 p.regs, .int .i64 p.binds, .slice p.names.a p.names.n p.names.c, .slice p.cons.a p.cons.n p.cons.c, .slice p.curs.a p.curs.n p.curs.c,
  .slice p.sorts.a p.sorts.n p.sorts.c, .slice p.tots.a p.tots.n p.tots.c, .slice p.code.a p.code.n p.code.c]
structure Pl where
  (src : Sl) (keys tot : Int)
abbrev Pl.cells (q : Pl) : Array Value := #[.slice q.src.a q.src.n q.src.c, .int .i64 q.keys, .int .i64 q.tot]
abbrev Pl.v (q : Pl) : Value := .agg #[.slice q.src.a q.src.n q.src.c, .int .i64 q.keys, .int .i64 q.tot]
set_option maxHeartbeats 1000000 in
set_option maxRecDepth 100000 in
theorem within_any (base n free : Int) (fb : Nat) (W : World) (h : W.heap[fb]? = some (.cells #[.int .i64 free] 3)) : Calls Tryd.prog 38 #[.int .i64 base, .int .i64 n, .pointer (some ⟨fb, 0, none⟩)] W fun e w' => IsB e ∧ W = w' := by
  have c1 := blk_cell h
  clear h
  go_enter Tryd.func38, Tryd.ntmps38
  go_wp2
  all_goals go_ret
  all_goals exact ⟨⟨_, rfl⟩, rfl⟩
/-- It returns a truth; true tells R. -/
def IsT (R : Prop) (e : Ending) : Prop := ∃ b, e = .returned (.bool b) ∧ (b = true → R)
set_option maxHeartbeats 2000000 in
set_option maxRecDepth 100000 in
theorem there2_not (p : Pg) (q : Pl) (free : Int) (k : Int) (s t : ByteArray) (n a : Int) (kids : Sl) (pb wb ab fb : Nat) (W : World) (hk : k ≠ 13) (hp : W.heap[pb]? = some (.cells p.cells 29)) (hw : W.heap[wb]? = some (.cells #[.func (.func 38) #[] #[.pointer (some ⟨fb, 0, none⟩)]] 92))
    (ha : W.heap[ab]? = some (.cells q.cells 36)) (hf : W.heap[fb]? = some (.cells #[.int .i64 free] 3)) :
    Calls Tryd.prog 39 #[(⟨k, s, t, n, a, kids⟩ : Ev).v, .pointer (some ⟨pb, 0, none⟩), .pointer (some ⟨wb, 0, none⟩), .pointer (some ⟨ab, 0, none⟩)] W fun e w' => IsB e ∧ Below W.heap.size W w' := by
  have hb1 : ∀ o, Below W.heap.size W (W.alloc o) := fun o => (Below.refl _ W).alloc (Nat.le_refl _) o
  have l1 := (Array.getElem?_eq_some_iff.1 hp).1
  have l2 := (Array.getElem?_eq_some_iff.1 hw).1
  have l3 := (Array.getElem?_eq_some_iff.1 ha).1
  have l4 := (Array.getElem?_eq_some_iff.1 hf).1
  have c1 : ∀ o j, (W.alloc o).cell? ⟨pb, j, none⟩ = p.cells[j]? := fun o j => blk_cell (((hb1 o).block pb l1).trans hp) j
  have c2 : ∀ o j, (W.alloc o).cell? ⟨wb, j, none⟩ = (#[.func (.func 38) #[] #[.pointer (some ⟨fb, 0, none⟩)]] : Array Value)[j]? := fun o j => blk_cell (((hb1 o).block wb l2).trans hw) j
  have c3 : ∀ o j, (W.alloc o).cell? ⟨ab, j, none⟩ = q.cells[j]? := fun o j => blk_cell (((hb1 o).block ab l3).trans ha) j
  have h38 : ∀ o (x y : Int), Calls Tryd.prog 38 #[.int .i64 x, .int .i64 y, .pointer (some ⟨fb, 0, none⟩)] (W.alloc o) fun e w' => IsB e ∧ W.alloc o = w' := fun o x y => within_any x y free fb _ (((hb1 o).block fb l4).trans hf)
  have H38 := Lib.hid h38
  clear h38 hp hw ha hf
  have e13 : (k == 13) = false := by simp [hk]
  clear hk
  go_enter Tryd.func39, Tryd.ntmps39
  go_wp2_with (first | (go_at_call 38; refine (H38.out _ _ _).mono ?_; rintro e w2 ⟨⟨b, rfl⟩, rfl⟩))
  all_goals go_ret
  all_goals exact ⟨⟨_, rfl⟩, hb1 _⟩
set_option maxHeartbeats 2000000 in
set_option maxRecDepth 100000 in
theorem there2_this (B : Nat) (p : Pg) (q : Pl) (free : Int) (s t : ByteArray) (n a : Int) (kids : Sl) (pb wb ab fb : Nat) (W : World) (hp : W.heap[pb]? = some (.cells p.cells 29)) (hw : W.heap[wb]? = some (.cells #[.func (.func 38) #[] #[.pointer (some ⟨fb, 0, none⟩)]] 92))
    (ha : W.heap[ab]? = some (.cells q.cells 36)) (hf : W.heap[fb]? = some (.cells #[.int .i64 free] 3)) (hsrc : Src W B q.src) :
    Calls Tryd.prog 39 #[(⟨13, s, t, n, a, kids⟩ : Ev).v, .pointer (some ⟨pb, 0, none⟩), .pointer (some ⟨wb, 0, none⟩), .pointer (some ⟨ab, 0, none⟩)] W fun e w' => IsT (0 ≤ a ∧ a < q.src.n) e ∧ Below W.heap.size W w' := by
  have hb1 : ∀ o, Below W.heap.size W (W.alloc o) := fun o => (Below.refl _ W).alloc (Nat.le_refl _) o
  have hb2 : ∀ o o2, Below W.heap.size W ((W.alloc o).alloc o2) := fun o o2 => (hb1 o).alloc (hb1 o).size o2
  have l1 := (Array.getElem?_eq_some_iff.1 hp).1
  have l2 := (Array.getElem?_eq_some_iff.1 hw).1
  have l3 := (Array.getElem?_eq_some_iff.1 ha).1
  have l4 := (Array.getElem?_eq_some_iff.1 hf).1
  have c1 : ∀ o o2 j, ((W.alloc o).alloc o2).cell? ⟨pb, j, none⟩ = p.cells[j]? := fun o o2 j => blk_cell (((hb2 o o2).block pb l1).trans hp) j
  have c2 : ∀ o o2 j, ((W.alloc o).alloc o2).cell? ⟨wb, j, none⟩ = (#[.func (.func 38) #[] #[.pointer (some ⟨fb, 0, none⟩)]] : Array Value)[j]? := fun o o2 j => blk_cell (((hb2 o o2).block wb l2).trans hw) j
  have c3 : ∀ o j, (W.alloc o).cell? ⟨ab, j, none⟩ = q.cells[j]? := fun o j => blk_cell (((hb1 o).block ab l3).trans ha) j
  have h38 : ∀ o o2 (x y : Int), Calls Tryd.prog 38 #[.int .i64 x, .int .i64 y, .pointer (some ⟨fb, 0, none⟩)] ((W.alloc o).alloc o2) fun e w' => IsB e ∧ (W.alloc o).alloc o2 = w' := fun o o2 x y => within_any x y free fb _ (((hb2 o o2).block fb l4).trans hf)
  have H38 := Lib.hid h38
  by_cases h0 : a < 0
  · have hd : (a < 0) = True := by simp [h0]
    clear h38 hp hw ha hf hsrc
    go_enter Tryd.func39, Tryd.ntmps39
    go_wp2_with (first | (go_at_call 38; refine (H38.out _ _ _ _).mono ?_; rintro e w2 ⟨⟨b, rfl⟩, rfl⟩))
    all_goals go_ret
    all_goals exact ⟨⟨_, rfl, fun h => by cases h⟩, hb1 _⟩
  by_cases h2 : (q.src.n : Int) ≤ a
  · have hd : (a < 0) = False := by simp; omega
    clear h38 hp hw ha hf hsrc h0
    go_enter Tryd.func39, Tryd.ntmps39
    go_wp2_with (first | (go_at_call 38; refine (H38.out _ _ _ _).mono ?_; rintro e w2 ⟨⟨b, rfl⟩, rfl⟩))
    all_goals go_ret
    all_goals exact ⟨⟨_, rfl, fun h => by cases h⟩, hb1 _⟩
  obtain ⟨i, rfl⟩ := Int.eq_ofNat_of_zero_le (a := a) (by omega)
  obtain ⟨g, o, c, x, e1, _, d0, d1⟩ := hsrc i (by omega)
  have hg : g < W.heap.size := World.block_lt_of_cell? _ _ d0
  have hi : i < q.src.n := by omega
  have d2 : ∀ o', (W.alloc o').cell? ⟨g, o + i * 2, none⟩ = some (.bool c) := fun o' => ((hb1 o').cell (p := ⟨g, o + i * 2, none⟩) hg).trans d0
  have d3 : ∀ o', (W.alloc o').cell? ⟨g, o + i * 2 + 1, none⟩ = some (.int .i64 x) := fun o' => ((hb1 o').cell (p := ⟨g, o + i * 2 + 1, none⟩) hg).trans d1
  obtain ⟨⟨sa, sn, sc⟩, keys, tot⟩ := q
  simp only at e1 hi h2
  subst e1
  have hw1 : ((i : Int) < (sn : Int)) = True := by simp <;> omega
  have hw2 : ((i : Int) < 0) = False := by simp <;> omega
  have hw3 : ((sn : Int) ≤ (i : Int)) = False := by simp <;> omega
  clear h38 hp hw ha hf hsrc h0 h2
  go_enter Tryd.func39, Tryd.ntmps39
  go_wp2_with (first | (go_at_call 38; refine (H38.out _ _ _ _).mono ?_; rintro e w2 ⟨⟨b, rfl⟩, rfl⟩))
  all_goals go_ret
  all_goals exact ⟨⟨_, rfl, fun _ => by first | trivial | (refine ⟨?_, ?_⟩ <;> simp <;> omega)⟩, hb2 _ _⟩
end Go.Proofs.YtkpaphoeldcakaaDoor.Gr
