/- GenReads, by hand: part H29. -/
import Derived.Test.YtkpaphoeldcakaaDoorH28a
namespace Go.Proofs.YtkpaphoeldcakaaDoor.Gr
open Go Go.Proofs Go.RowKit Go.Lib
attribute [local go_sem ↓] Go.wp_at_zero Go.wp_at_succ
theorem row_addr {w : World} {s : Sl} {L : List Value} {v : Value} (h : RowAt w s L) (h0 : L[0]? = some v) : ∃ g o, s.a = some ⟨g, o, none⟩ ∧ g < w.heap.size ∧ ∀ j u, L[j]? = some u → w.cell? ⟨g, o + j, none⟩ = some u := by
  rcases h with ⟨_, _, _, rfl⟩ | ⟨⟨g, o, sp⟩, h1, h2, h3⟩
  · simp at h0
  · cases sp with
    | none => exact ⟨g, o, h1, h2 (by rintro rfl; simp at h0), fun j u hj => by have := h3 j u hj; rw [Addr.add_lit] at this; exact this⟩
    | some k =>
      have := h3 0 v h0
      exfalso
      simp only [Addr.add, World.cell?] at this
      split at this <;> simp at this
theorem con_pair {W w3 w : World} {B nc cc l lc : Nat} {ca cb : Option Addr} {xs cs : List Con} (hb : Below W.heap.size W w) (hu : Below w3.heap.size w3 w) (h : w3.ownsRow B 53 3 (.slice ca nc cc) nc (conCells (xs ++ cs))) (hn : nc = (xs ++ cs).length) (hx : RowAt W ⟨cb, l, lc⟩ (conCells xs)) (hl : l = xs.length) : ConPair w w.heap.size ca cb l ∧ nc ≤ cc := by
  refine ⟨fun i hi => ?_, ?_⟩
  · obtain ⟨x, hxi⟩ : ∃ x, xs[i]? = some x := ⟨_, List.getElem?_eq_getElem (by omega)⟩
    rcases con_at h hn with ⟨_, h2⟩ | ⟨g, cap, h1, _, h3, h4⟩
    · rw [List.append_eq_nil_iff] at h2
      rw [h2.1] at hxi; simp at hxi
    · injection h1 with e1 e2 e3
      obtain ⟨y, hy⟩ : ∃ y, xs[0]? = some y := ⟨_, List.getElem?_eq_getElem (by omega)⟩
      obtain ⟨g', o', f1, f2, f3⟩ := row_addr hx (flat_get Con.cells 3 (fun _ => rfl) xs 0 0 y hy (by omega))
      have hj : (xs ++ cs)[i]? = some x := by rw [List.getElem?_append_left (by omega)]; exact hxi
      obtain ⟨k0, k1, k2⟩ := h4 _ _ hj
      have c := fun j (hj3 : j < 3) (u : Value) (hu3 : (Con.cells x)[j]? = some u) => f3 (i * 3 + j) u ((flat_get Con.cells 3 (fun _ => rfl) xs i j x hxi hj3).trans hu3)
      have cl : ∀ o v, w3.cell? ⟨g, o, none⟩ = some v → w.cell? ⟨g, 0 + o, none⟩ = some v := fun o v h => by rw [Nat.zero_add]; exact (hu.cell (p := ⟨g, o, none⟩) h3).trans h
      have cr : ∀ o v, W.cell? ⟨g', o, none⟩ = some v → w.cell? ⟨g', o, none⟩ = some v := fun o v h => (hb.cell (p := ⟨g', o, none⟩) f2).trans h
      exact ⟨g, 0, g', o', x.k, x.n, x.s, e1, f1, Nat.lt_of_lt_of_le h3 hu.size, Nat.lt_of_lt_of_le f2 hb.size, cl _ _ k0, cl _ _ k1, cl _ _ k2, cr _ _ (c 0 (by omega) _ rfl), cr _ _ (c 1 (by omega) _ rfl), cr _ _ (c 2 (by omega) _ rfl)⟩
  · rcases con_at h hn with ⟨h1, h2⟩ | ⟨g, cap, h1, h2, _⟩
    · injection h1 with e1 e2 e3; omega
    · injection h1 with e1 e2 e3; omega
theorem ins_pair {W w3 w : World} {B nc cc l lc : Nat} {ca cb : Option Addr} {xs cs : List Ins} (hb : Below W.heap.size W w) (hu : Below w3.heap.size w3 w) (h : w3.ownsRow B 46 5 (.slice ca nc cc) nc (insCells (xs ++ cs))) (hn : nc = (xs ++ cs).length) (hx : RowAt W ⟨cb, l, lc⟩ (insCells xs)) (hl : l = xs.length) : InsPair w w.heap.size ca cb l ∧ nc ≤ cc := by
  refine ⟨fun i hi => ?_, ?_⟩
  · obtain ⟨x, hxi⟩ : ∃ x, xs[i]? = some x := ⟨_, List.getElem?_eq_getElem (by omega)⟩
    rcases ins_at h hn with ⟨_, h2⟩ | ⟨g, cap, h1, _, h3, h4⟩
    · rw [List.append_eq_nil_iff] at h2
      rw [h2.1] at hxi; simp at hxi
    · injection h1 with e1 e2 e3
      obtain ⟨y, hy⟩ : ∃ y, xs[0]? = some y := ⟨_, List.getElem?_eq_getElem (by omega)⟩
      obtain ⟨g', o', f1, f2, f3⟩ := row_addr hx (flat_get Ins.cells 5 (fun _ => rfl) xs 0 0 y hy (by omega))
      have hj : (xs ++ cs)[i]? = some x := by rw [List.getElem?_append_left (by omega)]; exact hxi
      obtain ⟨k0, k1, k2, k3, k4⟩ := h4 _ _ hj
      have c := fun j (hj3 : j < 5) (u : Value) (hu3 : (Ins.cells x)[j]? = some u) => f3 (i * 5 + j) u ((flat_get Ins.cells 5 (fun _ => rfl) xs i j x hxi hj3).trans hu3)
      have cl : ∀ o v, w3.cell? ⟨g, o, none⟩ = some v → w.cell? ⟨g, 0 + o, none⟩ = some v := fun o v h => by rw [Nat.zero_add]; exact (hu.cell (p := ⟨g, o, none⟩) h3).trans h
      have cr : ∀ o v, W.cell? ⟨g', o, none⟩ = some v → w.cell? ⟨g', o, none⟩ = some v := fun o v h => (hb.cell (p := ⟨g', o, none⟩) f2).trans h
      exact ⟨g, 0, g', o', x.o, x.a, x.b, x.c, x.d, e1, f1, Nat.lt_of_lt_of_le h3 hu.size, Nat.lt_of_lt_of_le f2 hb.size, cl _ _ k0, cl _ _ k1, cl _ _ k2, cl _ _ k3, cl _ _ k4, cr _ _ (c 0 (by omega) _ rfl), cr _ _ (c 1 (by omega) _ rfl), cr _ _ (c 2 (by omega) _ rfl), cr _ _ (c 3 (by omega) _ rfl), cr _ _ (c 4 (by omega) _ rfl)⟩
  · rcases ins_at h hn with ⟨h1, h2⟩ | ⟨g, cap, h1, h2, _⟩
    · injection h1 with e1 e2 e3; omega
    · injection h1 with e1 e2 e3; omega
end Go.Proofs.YtkpaphoeldcakaaDoor.Gr
