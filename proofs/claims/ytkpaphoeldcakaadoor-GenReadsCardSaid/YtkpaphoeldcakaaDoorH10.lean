/- GenReads, by hand: part H10. -/
import Derived.Test.YtkpaphoeldcakaaDoorH9
namespace Go.Proofs.YtkpaphoeldcakaaDoor.Gr
open Go Go.Proofs Go.RowKit Go.Lib
/-- An expression's six cells. -/
structure At6 (w : World) (g o : Nat) (e : Ev) : Prop where
  c0 : w.cell? ⟨g, o, none⟩ = some (.int .u8 e.k)
  c1 : w.cell? ⟨g, o + 1, none⟩ = some (.string e.s)
  c2 : w.cell? ⟨g, o + 2, none⟩ = some (.string e.t)
  c3 : w.cell? ⟨g, o + 3, none⟩ = some (.int .i64 e.n)
  c4 : w.cell? ⟨g, o + 4, none⟩ = some (.int .i64 e.a)
  c5 : w.cell? ⟨g, o + 5, none⟩ = some (.slice e.kids.a e.kids.n e.kids.c)
/-- A tree in memory below block B, of at most so many levels; Q holds of each of its parts. -/
def Tr (w : World) (B : Nat) (Q : Ev → Prop) : Nat → Ev → Prop
  | 0, _ => False
  | f + 1, e => Q e ∧ ∀ i, i < e.kids.n → ∃ g o e', e.kids.a = some ⟨g, o, none⟩ ∧ g < B ∧ At6 w g (o + i * 6) e' ∧ Tr w B Q f e'
theorem At6.on {w w' : World} {g o B : Nat} {e : Ev} (h : At6 w g o e) (hb : Below B w w') (hg : g < B) : At6 w' g o e :=
  ⟨(hb.cell (p := ⟨g, o, none⟩) hg).trans h.c0, (hb.cell (p := ⟨g, o + 1, none⟩) hg).trans h.c1, (hb.cell (p := ⟨g, o + 2, none⟩) hg).trans h.c2, (hb.cell (p := ⟨g, o + 3, none⟩) hg).trans h.c3, (hb.cell (p := ⟨g, o + 4, none⟩) hg).trans h.c4, (hb.cell (p := ⟨g, o + 5, none⟩) hg).trans h.c5⟩
theorem Tr.on {w w' : World} {B : Nat} {Q : Ev → Prop} (hb : Below B w w') : ∀ {f : Nat} {e : Ev}, Tr w B Q f e → Tr w' B Q f e
  | 0, _, h => h
  | f + 1, e, h => ⟨h.1, fun i hi => by
    obtain ⟨g, o, e', h1, h2, h3, h4⟩ := h.2 i hi
    exact ⟨g, o, e', h1, h2, h3.on hb h2, Tr.on hb h4⟩⟩
theorem At6.same {w : World} {g o : Nat} {e e' : Ev} (h : At6 w g o e) (h' : At6 w g o e') : e = e' := by
  have a0 := h.c0.symm.trans h'.c0
  have a1 := h.c1.symm.trans h'.c1
  have a2 := h.c2.symm.trans h'.c2
  have a3 := h.c3.symm.trans h'.c3
  have a4 := h.c4.symm.trans h'.c4
  have a5 := h.c5.symm.trans h'.c5
  obtain ⟨k, s, t, n, a, ⟨ka, kn, kc⟩⟩ := e
  obtain ⟨k', s', t', n', a', ⟨ka', kn', kc'⟩⟩ := e'
  simp only [Option.some.injEq, Value.int.injEq, Value.string.injEq, Value.slice.injEq, true_and] at a0 a1 a2 a3 a4 a5
  obtain ⟨b1, b2, b3⟩ := a5
  subst a0 a1 a2 a3 a4 b1 b2 b3
  rfl
theorem Tr.and {w : World} {B : Nat} {Q R : Ev → Prop} : ∀ {f : Nat} {e : Ev}, Tr w B Q f e → Tr w B R f e → Tr w B (fun e => Q e ∧ R e) f e
  | 0, _, h, _ => h
  | f + 1, e, h, k => ⟨⟨h.1, k.1⟩, fun i hi => by
    obtain ⟨g, o, e', h1, h2, h3, h4⟩ := h.2 i hi
    obtain ⟨g', o', e'', k1, k2, k3, k4⟩ := k.2 i hi
    rw [h1] at k1
    injection k1 with k1
    injection k1 with k5 k6
    subst k5 k6
    obtain rfl := h3.same k3
    exact ⟨g, o, e', h1, h2, h3, Tr.and h4 k4⟩⟩
theorem Tr.mono {w : World} {B : Nat} {Q R : Ev → Prop} (hqr : ∀ e, Q e → R e) : ∀ {f : Nat} {e : Ev}, Tr w B Q f e → Tr w B R f e
  | 0, _, h => h
  | f + 1, e, h => ⟨hqr _ h.1, fun i hi => by
    obtain ⟨g, o, e', h1, h2, h3, h4⟩ := h.2 i hi
    exact ⟨g, o, e', h1, h2, h3, Tr.mono hqr h4⟩⟩
/-- The places of the sources, in memory below block B. -/
def Src (w : World) (B : Nat) (s : Sl) : Prop := ∀ a, a < s.n → ∃ g o c q, s.a = some ⟨g, o, none⟩ ∧ g < B ∧ w.cell? ⟨g, o + a * 2, none⟩ = some (.bool c) ∧ w.cell? ⟨g, o + a * 2 + 1, none⟩ = some (.int .i64 q)
theorem Src.on {w w' : World} {B : Nat} {s : Sl} (hb : Below B w w') (h : Src w B s) : Src w' B s := fun a ha => by
  obtain ⟨g, o, c, q, h1, h2, h3, h4⟩ := h a ha
  exact ⟨g, o, c, q, h1, h2, (hb.cell (p := ⟨g, o + a * 2, none⟩) h2).trans h3, (hb.cell (p := ⟨g, o + a * 2 + 1, none⟩) h2).trans h4⟩
theorem MkAt.ge {w : World} {mb B : Nat} {m : Mk} {xs : List Con} {ys : List Ins} (h : MkAt w mb B m xs ys) {i : Nat} (hi : m.has mb i) : B ≤ i := by
  rcases hi with rfl | hc | hc
  · exact h.hB
  · exact (owns_block h.con hc).1
  · exact (owns_block h.ins hc).1
theorem MkAt.lowB {w : World} {mb B : Nat} {m : Mk} {xs : List Con} {ys : List Ins} (h : MkAt w mb B m xs ys) : B ≤ w.heap.size :=
  Nat.le_of_lt (Nat.lt_of_le_of_lt h.hB (h.has_lt (.inl rfl)))
/-- What a maker does leaves all below it. -/
theorem MkAt.fr_below {w w' : World} {mb B : Nat} {m m' : Mk} {xs : List Con} {ys : List Ins} (h : MkAt w mb B m xs ys) (hf : Fr w w' (m.has mb) (m'.has mb)) : Below B w w' :=
  ⟨hf.os, hf.output, hf.size, fun i hi => hf.block i (Nat.lt_of_lt_of_le hi h.lowB) fun hh => by have := h.ge hh; omega⟩
/-- A leaf, of whatever kind. -/
theorem leaf_all (P : Int → Prop) (mb B : Nat) (m : Mk) (xs : List Con) (ys : List Ins) (ev : Ev) (tt : Int) (w : World) (h : MkAt w mb B m xs ys) (hP : P tt) (hr : m.bad = 0 → tt < m.regs)
    (hsrc : Src w B m.src) (hq : ev.k = 13 → 0 ≤ ev.a ∧ ev.a < m.src.n) :
    Calls Tryd.prog 27 #[mp mb, ev.v, .int .i64 tt] w fun e w' => e = .returned (.tuple #[]) ∧ Fin P mb B m xs ys w w' := by
  by_cases hk : ev.k = 13
  · obtain ⟨h0, h1⟩ := hq hk
    obtain ⟨a, ha⟩ := Int.eq_ofNat_of_zero_le h0
    have hlt : a < m.src.n := by omega
    obtain ⟨g, o, c, q, e1, e2, e3, e4⟩ := hsrc a hlt
    obtain ⟨k, s, t, n, a', kids⟩ := ev
    simp only at hk ha
    subst hk ha
    exact leaf_this P mb B m xs ys s t n kids a tt w h hP hr c q g o e1 hlt e3 e4
  · exact leaf_any P mb B m xs ys ev tt w h hP hr hk
end Go.Proofs.YtkpaphoeldcakaaDoor.Gr
