/- GenReads, by hand: part H34. -/
import Derived.Test.YtkpaphoeldcakaaDoorH33
namespace Go.Proofs.YtkpaphoeldcakaaDoor.Gr
open Go Go.Proofs Go.RowKit Go.Lib
section
variable {H : Type} {enc : TypeId × Value → H} {w : World}
theorem choose_list {α : Type} {P : Nat → α → Prop} : ∀ n : Nat, (∀ i, i < n → ∃ x, P i x) → ∃ l : List α, l.length = n ∧ ∀ i x, l[i]? = some x → P i x
  | 0, _ => ⟨[], rfl, fun i x h => by simp at h⟩
  | n + 1, h => by
    obtain ⟨l, h1, h2⟩ := choose_list n fun i hi => h i (by omega)
    obtain ⟨x, hx⟩ := h n (by omega)
    refine ⟨l ++ [x], by simp [h1], fun i y hy => ?_⟩
    by_cases hi : i < n
    · rw [List.getElem?_append_left (by omega)] at hy; exact h2 i y hy
    · have hin : i = n := by
        have := (List.getElem?_eq_some_iff.1 hy).1
        simp at this; omega
      subst hin
      rw [List.getElem?_append_right (by omega), h1] at hy
      simp at hy
      exact hy ▸ hx
/-- A list's cells, from the elements. -/
theorem flat_inv {α : Type} (f : α → List Value) (s : Nat) (hs : 0 < s) (h : ∀ x, (f x).length = s) (l : List α) (j : Nat) (u : Value) (hj : (l.flatMap f)[j]? = some u) : ∃ i k x, j = i * s + k ∧ k < s ∧ l[i]? = some x ∧ (f x)[k]? = some u := by
  have hlt := (List.getElem?_eq_some_iff.1 hj).1
  rw [flat_len f s h] at hlt
  have h1 : j / s < l.length := by rw [Nat.div_lt_iff_lt_mul hs]; exact hlt
  have h2 : j % s < s := Nat.mod_lt _ hs
  have h3 : j = j / s * s + j % s := by rw [Nat.mul_comm]; exact (Nat.div_add_mod j s).symm
  refine ⟨j / s, j % s, l[j / s], h3, h2, List.getElem?_eq_getElem h1, ?_⟩
  have := flat_get f s h l (j / s) (j % s) _ (List.getElem?_eq_getElem h1) h2
  rw [← h3] at this
  exact this.symm.trans hj
theorem row_of {α : Type} (f : α → List Value) (sz : Nat) (hz : 0 < sz) (h : ∀ x, (f x).length = sz) (s : Sl) (l : List α) (hl : l.length = s.n) (hn : (s.a = none ∧ s.n = 0 ∧ s.c = 0) ∨ ∃ A, s.a = some A)
    (hx : ∀ i x, l[i]? = some x → ∃ g o, s.a = some ⟨g, o, none⟩ ∧ g < w.heap.size ∧ ∀ j, j < sz → w.cell? ⟨g, o + i * sz + j, none⟩ = (f x)[j]?) : RowAt w s (l.flatMap f) := by
  rcases hn with ⟨h1, h2, h3⟩ | ⟨A, h1⟩
  · refine .inl ⟨h1, h2, h3, ?_⟩
    have : l = [] := List.length_eq_zero_iff.1 (by omega)
    rw [this]; rfl
  · refine .inr ⟨A, h1, ?_, fun j u hj => ?_⟩
    · intro hne
      have h0 : 0 < l.length := by
        cases l with
        | nil => exact absurd rfl hne
        | cons _ _ => simp
      obtain ⟨g, o, h2, h3, _⟩ := hx 0 _ (List.getElem?_eq_getElem h0)
      rw [h1] at h2; injection h2 with h2; subst h2; exact h3
    · obtain ⟨i, k, x, rfl, hk, hi, hu⟩ := flat_inv f sz hz h l j u hj
      obtain ⟨g, o, h2, h3, h4⟩ := hx i x hi
      rw [h1] at h2; injection h2 with h2; subst h2
      rw [Addr.add_lit, ← Nat.add_assoc, h4 k hk]; exact hu
end
end Go.Proofs.YtkpaphoeldcakaaDoor.Gr
