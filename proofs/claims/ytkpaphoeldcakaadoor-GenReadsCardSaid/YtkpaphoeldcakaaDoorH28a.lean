/- GenReads, by hand: part H28a. -/
import Derived.Test.YtkpaphoeldcakaaDoorH27
namespace Go.Proofs.YtkpaphoeldcakaaDoor.Gr
open Go Go.Proofs Go.RowKit Go.Lib
attribute [local go_sem ↓] Go.wp_at_zero Go.wp_at_succ
/-- A world behind Expr: the law's own blocks. -/
structure Lw (W w3 : World) (p : Pg) (ev : Ev) (q : Pl) (tt free : Int) (X : Nat) (p2 : Pg) (w : World) : Prop where
  base : Below W.heap.size W w
  up : Below w3.heap.size w3 w
  b0 : w.heap[W.heap.size]? = some (.cells p.cells 29)
  b1 : w.heap[W.heap.size + 1]? = some (.cells (jcells ev q tt free) 38)
  b2 : w.heap[X]? = some (.cells p2.cells 29)
  low : W.heap.size + 2 ≤ X
  lt : X < w3.heap.size
theorem Lw.on {W w3 : World} {p : Pg} {ev : Ev} {q : Pl} {tt free : Int} {X : Nat} {p2 : Pg} {w w' : World} (h : Lw W w3 p ev q tt free X p2 w) (hb : Below w.heap.size w w') : Lw W w3 p ev q tt free X p2 w' := by
  have l1 := (Array.getElem?_eq_some_iff.1 h.b0).1
  have l2 := (Array.getElem?_eq_some_iff.1 h.b1).1
  have l3 := (Array.getElem?_eq_some_iff.1 h.b2).1
  exact ⟨h.base.trans (hb.mono h.base.size), h.up.trans (hb.mono h.up.size), (hb.block _ l1).trans h.b0, (hb.block _ l2).trans h.b1, (hb.block _ l3).trans h.b2, h.low, h.lt⟩
/-- The body of the law from its n-th statement on. -/
noncomputable def lsuf (k : Nat) : Code := dropS k (Tryd.f3.body.getD .skip)
/-- What is known of the program that was made. -/
structure Mad (w3 : World) (p : Pg) (p2 : Pg) (tt free : Int) (B : Nat) (xs cs : List Con) (ys zs : List Ins) : Prop where
  done : Done (fun r => r = tt ∨ free ≤ r) p xs ys B w3 p2 cs zs
  hxn : p.cons.n = xs.length
  hyn : p.code.n = ys.length
theorem zs_at {w3 : World} {B nd dc l : Nat} {da : Option Addr} {ys zs : List Ins} (h : w3.ownsRow B 46 5 (.slice da nd dc) nd (insCells (ys ++ zs))) (hn : nd = (ys ++ zs).length) (hl : l = ys.length) :
    nd ≤ dc ∧ ∀ i z, zs[i]? = some z → ∃ g o, (if dc = l then da else Option.map (fun x => x.add (l * 5)) da) = some ⟨g, o, none⟩ ∧ g < w3.heap.size ∧ w3.cell? ⟨g, o + i * 5, none⟩ = some (.int .u8 z.o) ∧ w3.cell? ⟨g, o + i * 5 + 1, none⟩ = some (.int .i64 z.a) ∧ w3.cell? ⟨g, o + i * 5 + 2, none⟩ = some (.int .i64 z.b) ∧ w3.cell? ⟨g, o + i * 5 + 3, none⟩ = some (.int .i64 z.c) ∧ w3.cell? ⟨g, o + i * 5 + 4, none⟩ = some (.int .i64 z.d) := by
  rcases ins_at h hn with ⟨h1, h2⟩ | ⟨g, cap, h1, h2, h3, h4⟩
  · rw [List.append_eq_nil_iff] at h2
    obtain ⟨rfl, rfl⟩ := h2
    refine ⟨by simp at hn; omega, fun i z hz => by simp at hz⟩
  · injection h1 with e1 e2 e3
    subst e3
    rw [List.length_append] at h2 hn
    refine ⟨by omega, fun i z hz => ?_⟩
    have hi : i < zs.length := (List.getElem?_eq_some_iff.1 hz).1
    have hj : (ys ++ zs)[l + i]? = some z := by
      rw [List.getElem?_append_right (by omega), hl, show ys.length + i - ys.length = i by omega]; exact hz
    obtain ⟨k0, k1, k2, k3, k4⟩ := h4 _ _ hj
    have e : (l + i) * 5 = l * 5 + i * 5 := Nat.add_mul _ _ _
    rw [e] at k0 k1 k2 k3 k4
    refine ⟨g, l * 5, ?_, h3, k0, k1, k2, k3, k4⟩
    rw [if_neg (by omega), e1]
    simp [Addr.add_lit]
end Go.Proofs.YtkpaphoeldcakaaDoor.Gr
