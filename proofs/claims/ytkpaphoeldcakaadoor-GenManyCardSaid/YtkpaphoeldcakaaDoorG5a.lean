/- GenMany, by hand: part G5a. -/
import Derived.Test.YtkpaphoeldcakaaDoorG4
import Derived.Deep.RegionHeld3
import Derived.Deep.DeepCutAuto
namespace Go.Proofs.YtkpaphoeldcakaaDoor.Gm
open Go Go.Proofs Go.RowKit Go.Lib
set_option maxHeartbeats 1000000 in
set_option maxRecDepth 100000 in
theorem pick_any (x n : Int) (w : World) (hx : 0 ≤ x) (hn : 1 ≤ n) (hn2 : n < 1000000) (hx2 : x < 1000000) : Calls Tryd.prog 9 #[.int .i64 x, .int .i64 n] w fun e w' => e = .returned (.int .i64 (x % n)) ∧ w = w' := by
  have h0 : 0 ≤ x % n := Int.emod_nonneg _ (by omega)
  go_enter Tryd.func9, Tryd.ntmps9
  go_wp2
  go_ret
  exact ⟨rfl, rfl⟩

/-- What stands behind a round's call. -/
structure Made (B : Nat) (w wx : World) (k : Nat) (g : Nat) (a : Option Addr) (c : Nat) : Prop where
  at_ : wx.heap[g]? = some (.cells (pc (.slice a k c)) 29)
  ne : B ≠ g
  old : wx.heap[B]? = w.heap[B]?
  own : Owns wx (B + 1) (.slice a k c) k
  below : Below w.heap.size w wx

/-- A program's nine cells are stored. -/
abbrev set9 (w : World) (X : Nat) (v : Value) : World :=
  ((((((((w.setCell ⟨X, 0, none⟩ (.int .i64 1)).setCell ⟨X, 1, none⟩ (.int .i64 1)).setCell ⟨X, 2, none⟩ (.int .i64 0)).setCell ⟨X, 3, none⟩ (.slice none 0 0)).setCell ⟨X, 4, none⟩ v).setCell ⟨X, 5, none⟩ (.slice none 0 0)).setCell ⟨X, 6, none⟩ (.slice none 0 0)).setCell ⟨X, 7, none⟩ (.slice none 0 0)).setCell ⟨X, 8, none⟩ (.slice none 0 0)
theorem set_at {w : World} {X j : Nat} {u : Value} {vals vals' : Array Value} {t : TypeId} (h : w.heap[X]? = some (.cells vals t)) (e : vals.setIfInBounds j u = vals') : (w.setCell ⟨X, j, none⟩ u).heap[X]? = some (.cells vals' t) :=
  e ▸ heap_setCell_same _ _ _ _ _ _ h
theorem set9_at {w : World} {X : Nat} {v x0 x1 x2 x3 x4 x5 x6 x7 x8 : Value} (h : w.heap[X]? = some (.cells #[x0, x1, x2, x3, x4, x5, x6, x7, x8] 29)) : (set9 w X v).heap[X]? = some (.cells (pc v) 29) := by
  have h0 := set_at (j := 0) (u := .int .i64 1) (vals' := #[.int .i64 1, x1, x2, x3, x4, x5, x6, x7, x8]) h rfl
  have h1 := set_at (j := 1) (u := .int .i64 1) (vals' := #[.int .i64 1, .int .i64 1, x2, x3, x4, x5, x6, x7, x8]) h0 rfl
  have h2 := set_at (j := 2) (u := .int .i64 0) (vals' := #[.int .i64 1, .int .i64 1, .int .i64 0, x3, x4, x5, x6, x7, x8]) h1 rfl
  have h3 := set_at (j := 3) (u := .slice none 0 0) (vals' := #[.int .i64 1, .int .i64 1, .int .i64 0, .slice none 0 0, x4, x5, x6, x7, x8]) h2 rfl
  have h4 := set_at (j := 4) (u := v) (vals' := #[.int .i64 1, .int .i64 1, .int .i64 0, .slice none 0 0, v, x5, x6, x7, x8]) h3 rfl
  have h5 := set_at (j := 5) (u := .slice none 0 0) (vals' := #[.int .i64 1, .int .i64 1, .int .i64 0, .slice none 0 0, v, .slice none 0 0, x6, x7, x8]) h4 rfl
  have h6 := set_at (j := 6) (u := .slice none 0 0) (vals' := #[.int .i64 1, .int .i64 1, .int .i64 0, .slice none 0 0, v, .slice none 0 0, .slice none 0 0, x7, x8]) h5 rfl
  have h7 := set_at (j := 7) (u := .slice none 0 0) (vals' := #[.int .i64 1, .int .i64 1, .int .i64 0, .slice none 0 0, v, .slice none 0 0, .slice none 0 0, .slice none 0 0, x8]) h6 rfl
  have h8 := set_at (j := 8) (u := .slice none 0 0) (vals' := #[.int .i64 1, .int .i64 1, .int .i64 0, .slice none 0 0, v, .slice none 0 0, .slice none 0 0, .slice none 0 0, .slice none 0 0]) h7 rfl
  exact h8
theorem set9_other {w : World} {X : Nat} {v : Value} {i : Nat} (h : i ≠ X) : (set9 w X v).heap[i]? = w.heap[i]? := by
  have k : ∀ (w : World) j u, (w.setCell ⟨X, j, none⟩ u).heap[i]? = w.heap[i]? := fun w j u => heap_setCell_other _ _ _ _ h
  rw [set9, k, k, k, k, k, k, k, k, k]
theorem set9_size {w : World} {X : Nat} {v : Value} : (set9 w X v).heap.size = w.heap.size := by
  have k : ∀ (w : World) j u, (w.setCell ⟨X, j, none⟩ u).heap.size = w.heap.size := fun w j u => by simp [World.setCell]
  rw [set9, k, k, k, k, k, k, k, k, k]
theorem set9_below {B : Nat} {a w : World} {X : Nat} {v : Value} (h : Below B a w) (hX : B ≤ X) : Below B a (set9 w X v) := by
  unfold set9
  repeat (refine Below.setCell ?_ hX _)
  exact h
theorem owns_at {w w' : World} {B k : Nat} {cv : Value} {X : Nat} {vals : Array Value} (h : Owns w B cv k) (hX : w.heap[X]? = some (.cells vals 29)) (ho : ∀ i, i ≠ X → w'.heap[i]? = w.heap[i]?) : Owns w' B cv k := by
  refine ⟨h.1, ?_⟩
  rcases h.2 with hn | ⟨g, cap, cur, rfl, hB, hg, rest⟩
  · exact .inl hn
  · refine .inr ⟨g, cap, cur, rfl, hB, ?_, rest⟩
    rw [ho g (by rintro rfl; rw [hX] at hg; injection hg with hg; injection hg with _ hg; cases hg)]
    exact hg
theorem heap_size_alloc (w : World) (o : Obj) : (w.alloc o).heap.size = w.heap.size + 1 := by
  show (w.heap.push _).size = _
  simp
/-- The result was put into a new block. -/
theorem made_new {B k : Nat} {w w2 : World} {a : Option Addr} {c : Nat} (hB : B < w.heap.size) (ho : Owns w2 (w.heap.size) (.slice a k c) k) (hb : Below w.heap.size w w2) : Made B w (w2.alloc (.cells (pc (.slice a k c)) 29)) k w2.heap.size a c := by
  have hs := hb.size
  refine ⟨heap_alloc_new _ _, by omega, ?_, owns_mono (ho.alloc _) (by omega), hb.alloc hs _⟩
  rw [Below.heap_alloc _ _ _ (by omega), hb.block _ hB]
/-- The result was put into a block that was made ahead of the call. -/
theorem made_old {B k : Nat} {w w2 : World} {a : Option Addr} {c : Nat} (hB : B < w.heap.size) (ho : Owns w2 (w.heap.size + 1) (.slice a k c) k) (hb : Below (w.heap.size + 1) (w.alloc (.cells pz 29)) w2) : Made B w (set9 w2 w.heap.size (.slice a k c)) k w.heap.size a c := by
  have hz := (hb.block w.heap.size (by omega)).trans (heap_alloc_new w (.cells pz 29))
  have hb2 : Below w.heap.size w w2 := ((Below.refl _ w).alloc (Nat.le_refl _) _).trans (hb.mono (by omega))
  refine ⟨set9_at hz, by omega, ?_, owns_mono (owns_at ho hz fun i hi => set9_other hi) (by omega), set9_below hb2 (Nat.le_refl _)⟩
  rw [set9_other (by omega), hb2.block _ hB]
end Go.Proofs.YtkpaphoeldcakaaDoor.Gm
