/- GenReads, by hand: part H1. -/
import Derived.Test.YtkpaphoeldcakaaDoorProg
import Derived.WalkKit
import Derived.Lib.Walk
import Derived.Deep.QuietTactic
import Derived.BigQuiet
import Derived.Lib.Hide
import Derived.Deep.LoopGhost
import Derived.Lib.SliceRun
import Derived.Laws.AppendOwn
import Derived.Laws.Rows
import Derived.Laws.StructEq
import Derived.Shelf.SlicesE.Kit
import Derived.Shelf.SlicesE.Clone
import Derived.Deep.RegionWith
import Derived.Deep.DrawnRows
import Derived.Deep.RegionLaw
import Derived.Deep.AppendLies
namespace Go.Proofs.YtkpaphoeldcakaaDoor.Gr
open Go Go.Proofs Go.RowKit Go.Lib

/-- What was there below block B has not turned (of the draws nothing is said). -/
structure Below (B : Nat) (w w' : World) : Prop where
  os : w'.os = w.os
  output : w'.output = w.output
  size : w.heap.size ≤ w'.heap.size
  block : ∀ k, k < B → w'.heap[k]? = w.heap[k]?
theorem Below.refl (B : Nat) (w : World) : Below B w w := ⟨rfl, rfl, Nat.le_refl _, fun _ _ => rfl⟩
theorem Below.trans {B : Nat} {a b c : World} (h : Below B a b) (k : Below B b c) : Below B a c :=
  ⟨k.os.trans h.os, k.output.trans h.output, Nat.le_trans h.size k.size, fun i hi => (k.block i hi).trans (h.block i hi)⟩
theorem Below.mono {B B' : Nat} {w w' : World} (h : Below B w w') (hB : B' ≤ B) : Below B' w w' := ⟨h.os, h.output, h.size, fun k hk => h.block k (Nat.lt_of_lt_of_le hk hB)⟩
theorem Below.drew {B : Nat} {a w : World} (h : Below B a w) : Below B a w.drew := ⟨h.os, h.output, h.size, h.block⟩
theorem Below.heap_alloc (w : World) (o : Obj) (k : Nat) (h : k < w.heap.size) : (w.alloc o).heap[k]? = w.heap[k]? := Go.RowKit.Below.heap_alloc w o k h
theorem Below.alloc {B : Nat} {a w : World} (h : Below B a w) (hB : B ≤ w.heap.size) (o : Obj) : Below B a (w.alloc o) :=
  h.trans ⟨rfl, rfl, by simp, fun k hk => Go.RowKit.Below.heap_alloc _ _ _ (by omega)⟩
theorem Below.setCell {B : Nat} {a w : World} (h : Below B a w) {p : Addr} (hp : B ≤ p.block) (u : Value) : Below B a (w.setCell p u) :=
  h.trans ⟨rfl, rfl, by simp [World.setCell], fun k hk => Go.RowKit.Below.heap_setCell _ _ _ _ (by omega)⟩
theorem Below.grown {B : Nat} {a w w' : World} {row : Option Nat} (h : Below B a w) (hg : w.grownBy w' row) (hB : B ≤ w.heap.size) (hr : ∀ k, row = some k → B ≤ k) : Below B a w' :=
  h.trans ⟨hg.os, hg.output, hg.size, fun k hk => hg.block k (by omega) (fun e => by have := hr k e.symm; omega)⟩
theorem Below.cell {B : Nat} {w w' : World} (h : Below B w w') {p : Addr} (hp : p.block < B) : w'.cell? p = w.cell? p := World.cell?_of_block (w := w) (h.block p.block hp)

/-! ### Lists in memory -/
/-- A constant; an instruction. -/
structure Con where (k n : Int) (s : ByteArray)
structure Ins where (o a b c d : Int)
abbrev Con.cells (x : Con) : List Value := [.int .u8 x.k, .int .i64 x.n, .string x.s]
abbrev Ins.cells (x : Ins) : List Value := [.int .u8 x.o, .int .i64 x.a, .int .i64 x.b, .int .i64 x.c, .int .i64 x.d]
abbrev Con.v (x : Con) : Value := .agg #[.int .u8 x.k, .int .i64 x.n, .string x.s]
abbrev Ins.v (x : Ins) : Value := .agg #[.int .u8 x.o, .int .i64 x.a, .int .i64 x.b, .int .i64 x.c, .int .i64 x.d]
def conCells (l : List Con) : List Value := l.flatMap Con.cells
def insCells (l : List Ins) : List Value := l.flatMap Ins.cells
theorem flat_len {α : Type} (f : α → List Value) (s : Nat) (h : ∀ x, (f x).length = s) : ∀ l : List α, (l.flatMap f).length = l.length * s
  | [] => by simp
  | x :: l => by rw [List.flatMap_cons, List.length_append, flat_len f s h l, h, List.length_cons, Nat.succ_mul, Nat.add_comm]
theorem flat_get {α : Type} (f : α → List Value) (s : Nat) (h : ∀ x, (f x).length = s) : ∀ (l : List α) (j i : Nat) (x : α), l[j]? = some x → i < s → (l.flatMap f)[j * s + i]? = (f x)[i]?
  | y :: l, 0, i, x, hx, hi => by
    rw [List.flatMap_cons, List.getElem?_append_left (by rw [h]; omega)]
    simp at hx; subst hx; simp
  | y :: l, j + 1, i, x, hx, hi => by
    rw [List.flatMap_cons, List.getElem?_append_right (by rw [h, Nat.succ_mul]; omega), h, Nat.succ_mul, show j * s + s + i - s = j * s + i by omega]
    exact flat_get f s h l j i x (by simpa using hx) hi
theorem conCells_len (l : List Con) : (conCells l).length = l.length * 3 := flat_len _ 3 (fun _ => rfl) l
theorem insCells_len (l : List Ins) : (insCells l).length = l.length * 5 := flat_len _ 5 (fun _ => rfl) l
theorem conCells_snoc (l : List Con) (x : Con) : conCells (l ++ [x]) = conCells l ++ x.cells := by unfold conCells; rw [List.flatMap_append]; simp
theorem insCells_snoc (l : List Ins) (x : Ins) : insCells (l ++ [x]) = insCells l ++ x.cells := by unfold insCells; rw [List.flatMap_append]; simp
theorem conCells_one (l : List Con) : ∀ u ∈ conCells l, u.oneCell' = true := by
  intro u hu
  obtain ⟨x, _, hx⟩ := List.mem_flatMap.1 hu
  simp at hx
  rcases hx with rfl | rfl | rfl <;> rfl
theorem insCells_one (l : List Ins) : ∀ u ∈ insCells l, u.oneCell' = true := by
  intro u hu
  obtain ⟨x, _, hx⟩ := List.mem_flatMap.1 hu
  simp at hx
  rcases hx with rfl | rfl | rfl | rfl | rfl <;> rfl

theorem blk_cell {w : World} {b : Nat} {vals : Array Value} {t : TypeId} (h : w.heap[b]? = some (.cells vals t (0, 0))) : ∀ j, w.cell? ⟨b, j, none⟩ = vals[j]? := by
  intro j; simp [World.cell?, h]
theorem blk_frozen {w : World} {b : Nat} {vals : Array Value} {t : TypeId} (h : w.heap[b]? = some (.cells vals t (0, 0))) : ∀ j, w.frozen? ⟨b, j, none⟩ = false := by
  intro j; simp [World.frozen?, h]

/-! ### The maker -/
structure Sl where (a : Option Addr) (n c : Nat)
abbrev Sl.v (s : Sl) : Value := .slice s.a s.n s.c
structure Mk where
  (ver regs binds : Int) (names cons curs sorts tots code src : Sl) (keys tot bad : Int)
abbrev Mk.cells (m : Mk) : Array Value := #[.int .i64 m.ver, .int .i64 m.regs, .int .i64 m.binds, .slice m.names.a m.names.n m.names.c, .slice m.cons.a m.cons.n m.cons.c, .slice m.curs.a m.curs.n m.curs.c,
  .slice m.sorts.a m.sorts.n m.sorts.c, .slice m.tots.a m.tots.n m.tots.c, .slice m.code.a m.code.n m.code.c, .slice m.src.a m.src.n m.src.c, .int .i64 m.keys, .int .i64 m.tot, .int .i64 m.bad]
/-- A maker in memory at block mb, whose lists are its own, from block B on. -/
structure MkAt (w : World) (mb B : Nat) (m : Mk) (xs : List Con) (ys : List Ins) : Prop where
  at_ : w.heap[mb]? = some (.cells m.cells 66)
  con : w.ownsRow B 53 3 m.cons.v m.cons.n (conCells xs)
  ins : w.ownsRow B 46 5 m.code.v m.code.n (insCells ys)
  hB : B ≤ mb
  hx : m.cons.n = xs.length
  hy : m.code.n = ys.length
  hx2 : xs.length ≤ 1100
  hy2 : ys.length ≤ 5000
/-- The maker's blocks. -/
def Mk.has (m : Mk) (mb i : Nat) : Prop := i = mb ∨ m.cons.v.ownBlock = some i ∨ m.code.v.ownBlock = some i
/-- What may have turned: the maker's own blocks alone; what it has now was its own, or is new. -/
structure Fr (w w' : World) (S S' : Nat → Prop) : Prop where
  os : w'.os = w.os
  output : w'.output = w.output
  size : w.heap.size ≤ w'.heap.size
  block : ∀ i, i < w.heap.size → ¬ S i → w'.heap[i]? = w.heap[i]?
  has : ∀ i, S' i → S i ∨ w.heap.size ≤ i
theorem Fr.refl (w : World) (S : Nat → Prop) : Fr w w S S := ⟨rfl, rfl, Nat.le_refl _, fun _ _ _ => rfl, fun _ h => .inl h⟩
theorem Fr.trans {a b c : World} {S T U : Nat → Prop} (h : Fr a b S T) (k : Fr b c T U) : Fr a c S U :=
  ⟨k.os.trans h.os, k.output.trans h.output, Nat.le_trans h.size k.size,
    fun i hi hn => (k.block i (Nat.lt_of_lt_of_le hi h.size) fun ht => (h.has i ht).elim hn (fun h' => by omega)).trans (h.block i hi hn),
    fun i hu => (k.has i hu).elim (fun ht => h.has i ht) fun h' => .inr (Nat.le_trans h.size h')⟩
theorem Fr.of_below {a b : World} {B : Nat} {S : Nat → Prop} (h : Below B a b) (hB : a.heap.size ≤ B) : Fr a b S S :=
  ⟨h.os, h.output, h.size, fun i hi _ => h.block i (by omega), fun _ h => .inl h⟩
theorem owns_block {w : World} {B e size n : Nat} {v : Value} {xs : List Value} (h : w.ownsRow B e size v n xs) {i : Nat} (hi : v.ownBlock = some i) : B ≤ i ∧ ∃ cur, w.heap[i]? = some (.cells cur e (0, 0)) := by
  rcases h.2 with ⟨rfl, _⟩ | ⟨g, cap, cur, rfl, hB, hg, rest⟩
  · simp [Value.ownBlock] at hi
  · have : g = i := by simpa [Value.ownBlock] using hi
    subst this
    exact ⟨hB, cur, hg⟩
theorem owns_same {w w' : World} {B e size n : Nat} {v : Value} {xs : List Value} (h : w.ownsRow B e size v n xs) (hb : ∀ i, v.ownBlock = some i → w'.heap[i]? = w.heap[i]?) : w'.ownsRow B e size v n xs := by
  refine ⟨h.1, ?_⟩
  rcases h.2 with hn | ⟨g, cap, cur, rfl, hB, hg, rest⟩
  · exact .inl hn
  · exact .inr ⟨g, cap, cur, rfl, hB, (hb g rfl).trans hg, rest⟩
/-- A block of another type is none of the maker's. -/
theorem MkAt.not {w : World} {mb B : Nat} {m : Mk} {xs : List Con} {ys : List Ins} (h : MkAt w mb B m xs ys) {i : Nat} {vals : Array Value} {t : TypeId} (hi : w.heap[i]? = some (.cells vals t (0, 0))) (h1 : t ≠ 66) (h2 : t ≠ 53) (h3 : t ≠ 46) : ¬ m.has mb i := by
  rintro (rfl | hc | hc)
  · rw [h.at_] at hi; injection hi with hi; injection hi with _ hi; exact h1 hi.symm
  · obtain ⟨_, cur, hg⟩ := owns_block h.con hc
    rw [hg] at hi; injection hi with hi; injection hi with _ hi; exact h2 hi.symm
  · obtain ⟨_, cur, hg⟩ := owns_block h.ins hc
    rw [hg] at hi; injection hi with hi; injection hi with _ hi; exact h3 hi.symm
theorem MkAt.has_lt {w : World} {mb B : Nat} {m : Mk} {xs : List Con} {ys : List Ins} (h : MkAt w mb B m xs ys) {i : Nat} (hi : m.has mb i) : i < w.heap.size := by
  rcases hi with rfl | hc | hc
  · exact (Array.getElem?_eq_some_iff.1 h.at_).1
  · obtain ⟨_, cur, hg⟩ := owns_block h.con hc; exact (Array.getElem?_eq_some_iff.1 hg).1
  · obtain ⟨_, cur, hg⟩ := owns_block h.ins hc; exact (Array.getElem?_eq_some_iff.1 hg).1
/-- Where none of the maker's blocks turns, the maker stands. -/
theorem MkAt.on {w w' : World} {mb B : Nat} {m : Mk} {xs : List Con} {ys : List Ins} (h : MkAt w mb B m xs ys) (hb : ∀ i, m.has mb i → w'.heap[i]? = w.heap[i]?) : MkAt w' mb B m xs ys :=
  ⟨(hb mb (.inl rfl)).trans h.at_, owns_same h.con fun i hi => hb i (.inr (.inl hi)), owns_same h.ins fun i hi => hb i (.inr (.inr hi)), h.hB, h.hx, h.hy, h.hx2, h.hy2⟩
theorem MkAt.below {w w' : World} {mb B : Nat} {m : Mk} {xs : List Con} {ys : List Ins} (h : MkAt w mb B m xs ys) (hb : Below w.heap.size w w') : MkAt w' mb B m xs ys :=
  h.on fun i hi => hb.block i (h.has_lt hi)
/-- A store into the maker. -/
theorem MkAt.set {w : World} {mb B : Nat} {m : Mk} {xs : List Con} {ys : List Ins} (h : MkAt w mb B m xs ys) (j : Nat) (u : Value) (m' : Mk) (hc : m.cells.setIfInBounds j u = m'.cells) (h1 : m'.cons = m.cons) (h2 : m'.code = m.code) :
    MkAt (w.setCell ⟨mb, j, none⟩ u) mb B m' xs ys ∧ Fr w (w.setCell ⟨mb, j, none⟩ u) (m.has mb) (m'.has mb) := by
  have hne : ∀ i, m.cons.v.ownBlock = some i ∨ m.code.v.ownBlock = some i → i ≠ mb := by
    rintro i hi rfl
    rcases hi with hi | hi
    · obtain ⟨_, cur, hg⟩ := owns_block h.con hi
      rw [h.at_] at hg; injection hg with hg; injection hg with _ hg; cases hg
    · obtain ⟨_, cur, hg⟩ := owns_block h.ins hi
      rw [h.at_] at hg; injection hg with hg; injection hg with _ hg; cases hg
  refine ⟨⟨?_, ?_, ?_, h.hB, by rw [h1]; exact h.hx, by rw [h2]; exact h.hy, h.hx2, h.hy2⟩, ⟨rfl, rfl, ?_, ?_, ?_⟩⟩
  · rw [← hc]; exact heap_setCell_same _ _ _ _ _ _ h.at_
  · rw [h1]; exact owns_same h.con fun i hi => heap_setCell_other _ _ _ _ (hne i (.inl hi))
  · rw [h2]; exact owns_same h.ins fun i hi => heap_setCell_other _ _ _ _ (hne i (.inr hi))
  · simp [World.setCell]
  · intro i hi hn
    exact heap_setCell_other _ _ _ _ (fun e => hn (.inl e))
  · intro i hi
    left
    unfold Mk.has at hi ⊢
    rw [h1, h2] at hi
    exact hi
end Go.Proofs.YtkpaphoeldcakaaDoor.Gr
