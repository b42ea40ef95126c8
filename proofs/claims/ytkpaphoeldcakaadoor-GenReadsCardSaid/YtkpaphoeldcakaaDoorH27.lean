/- GenReads, by hand: part H27. -/
import Derived.Test.YtkpaphoeldcakaaDoorH26
namespace Go.Proofs.YtkpaphoeldcakaaDoor.Gr
open Go Go.Proofs Go.RowKit Go.Lib
attribute [local go_sem ↓] Go.wp_at_zero Go.wp_at_succ
/-- The instructions' cells, from address g on. -/
def InsAt (w : World) (g : Nat) (ys : List Ins) : Prop := ∀ (j : Nat) (x : Ins), ys[j]? = some x → w.cell? ⟨g, j * 5, none⟩ = some (.int .u8 x.o) ∧ w.cell? ⟨g, j * 5 + 1, none⟩ = some (.int .i64 x.a) ∧ w.cell? ⟨g, j * 5 + 2, none⟩ = some (.int .i64 x.b) ∧ w.cell? ⟨g, j * 5 + 3, none⟩ = some (.int .i64 x.c) ∧ w.cell? ⟨g, j * 5 + 4, none⟩ = some (.int .i64 x.d)
theorem ins_at {w : World} {B n : Nat} {v : Value} {ys : List Ins} (h : w.ownsRow B 46 5 v n (insCells ys)) (hn : n = ys.length) : (v = .slice none 0 0 ∧ ys = []) ∨ ∃ g cap, v = .slice (some ⟨g, 0, none⟩) ys.length cap ∧ ys.length ≤ cap ∧ g < w.heap.size ∧ InsAt w g ys := by
  obtain ⟨_, ⟨h1, h2⟩ | ⟨g, cap, cur, h1, h2, h3, h4, h5, h6, h7⟩⟩ := h
  · exact .inl ⟨h1, List.length_eq_zero_iff.1 (hn ▸ h2)⟩
  · refine .inr ⟨g, cap, hn ▸ h1, hn ▸ h4, (Array.getElem?_eq_some_iff.1 h3).1, fun j x hx => ?_⟩
    have hc : ∀ q u, (insCells ys)[q]? = some u → w.cell? ⟨g, q, none⟩ = some u := fun q u hq => by
      simp only [World.cell?, h3]
      rw [← h7, List.getElem?_take] at hq
      split at hq
      · simpa using hq
      · cases hq
    refine ⟨hc _ _ ?_, hc _ _ ?_, hc _ _ ?_, hc _ _ ?_, hc _ _ ?_⟩
    · exact (flat_get Ins.cells 5 (fun _ => rfl) ys j 0 x hx (by omega)).trans rfl
    · exact (flat_get Ins.cells 5 (fun _ => rfl) ys j 1 x hx (by omega)).trans rfl
    · exact (flat_get Ins.cells 5 (fun _ => rfl) ys j 2 x hx (by omega)).trans rfl
    · exact (flat_get Ins.cells 5 (fun _ => rfl) ys j 3 x hx (by omega)).trans rfl
    · exact (flat_get Ins.cells 5 (fun _ => rfl) ys j 4 x hx (by omega)).trans rfl
/-- All that is known of what the law is handed. -/
structure In (W : World) (f : Nat) (p : Pg) (ev : Ev) (q : Pl) (free : Int) (xs : List Con) (ys : List Ins) : Prop where
  r1 : Read1 W W.heap.size p
  tree : Tr W W.heap.size Len f ev
  src : Src W W.heap.size q.src
  hx : RowAt W p.cons (conCells xs)
  hxn : p.cons.n = xs.length
  hy : RowAt W p.code (insCells ys)
  hyn : p.code.n = ys.length
  names : ListAt W.heap.size p.names 1 (Str0 W)
  curs : ListAt W.heap.size p.curs 3 (CurE W)
  sorts : ListAt W.heap.size p.sorts 3 (SrtE W W.heap.size)
  tots : ListAt W.heap.size p.tots 2 (TotE W)
  hfree : free < 9223372036854775808
/-- What the law comes to. -/
def Law (W : World) (e : Ending) (w' : World) : Prop := e = .returned (.bool true) ∧ w'.os = W.os ∧ w'.output = W.output ∧ ∀ i, i < W.heap.size → w'.heap[i]? = W.heap[i]?
theorem Law.of {W w w' : World} (hb : Below W.heap.size W w) (ho : w'.os = w.os) (ho2 : w'.output = w.output) (hc : ∀ i, i < w.heap.size → w'.heap[i]? = w.heap[i]?) : Law W (.returned (.bool true)) w' :=
  ⟨rfl, ho.trans hb.os, ho2.trans hb.output, fun i hi => (hc i (Nat.lt_of_lt_of_le hi hb.size)).trans (hb.block i hi)⟩
end Go.Proofs.YtkpaphoeldcakaaDoor.Gr
