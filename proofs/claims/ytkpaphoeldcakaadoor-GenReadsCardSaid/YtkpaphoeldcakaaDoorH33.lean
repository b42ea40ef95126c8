/- GenReads, by hand: part H33. -/
import Derived.Test.YtkpaphoeldcakaaDoorH32
import Derived.ChangeArms
import Derived.DataReads
namespace Go.Proofs.YtkpaphoeldcakaaDoor.Gr
open Go Go.Proofs Go.RowKit Go.Lib
section
variable {H : Type} {enc : TypeId × Value → H} {w : World}
/-- What the reading of an argument goes through. -/
abbrev Rd (enc : TypeId × Value → H) (w : World) (n : Nat) (t : TypeId) (cs : List Value) (x : DataW H × List MemPlace) : Prop := DataW.trod enc Tryd.prog w 0 (fun _ => true) true n t cs = some x
theorem rd_str {n : Nat} {cs : List Value} {x : DataW H × List MemPlace} (h : Rd enc w n 9 cs x) : ∃ s : ByteArray, cs = [.string s] := by
  obtain ⟨s, h, _⟩ := DataW.trod_string Tryd.underlying9 h; exact ⟨s, h⟩
theorem rd_bool {n : Nat} {cs : List Value} {x : DataW H × List MemPlace} (h : Rd enc w n 4 cs x) : ∃ b, cs = [.bool b] := by
  obtain ⟨s, h, _⟩ := DataW.trod_bool Tryd.underlying4 h; exact ⟨s, h⟩
theorem rd_int {n t : Nat} {k : IntKind} {cs : List Value} {x : DataW H × List MemPlace} (ht : Tryd.prog.underlying t = some (.int k)) (h : Rd enc w n t cs x) : ∃ i, cs = [.int k i] ∧ (Lit.int k i).wf = true := by
  obtain ⟨s, h, _, h2⟩ := DataW.trod_int ht h; exact ⟨s, h, h2⟩
/-- A slice: its elements. -/
theorem rd_slice {n t e sz : Nat} {cs : List Value} {x : DataW H × List MemPlace} (ht : Tryd.prog.underlying t = some (.slice e)) (hs : Tryd.prog.cellsOf e = sz) (hz : 0 < sz) (h : Rd enc w n t cs x) :
    ∃ s : Sl, cs = [.slice s.a s.n s.c] ∧ s.n ≤ 9223372036854775807 ∧ ((s.a = none ∧ s.n = 0 ∧ s.c = 0) ∨ ∃ A, s.a = some A) ∧
      ∀ i, i < s.n → ∃ g o m cs' y, s.a = some ⟨g, o, none⟩ ∧ g < w.heap.size ∧ n = m + 1 ∧ cs'.length = sz ∧ (∀ j, j < sz → w.cell? ⟨g, o + i * sz + j, none⟩ = cs'[j]?) ∧ Rd enc w m e cs' y := by
  subst hs
  rcases DataW.trod_slice ht h with ⟨rfl, _⟩ | ⟨⟨g, o, sp⟩, len, cap, elems, rest, m, rfl, rfl, _, _, hl, hc, he, hel, _, _⟩
  · exact ⟨⟨none, 0, 0⟩, rfl, by show 0 ≤ _; omega, .inl ⟨rfl, rfl, rfl⟩, fun i hi => absurd hi (by simp)⟩
  · refine ⟨⟨some ⟨g, o, sp⟩, len, cap⟩, rfl, by show len ≤ _; unfold maxLen at hc; omega, .inr ⟨_, rfl⟩, fun i hi => ?_⟩
    have hi1 : i < len := hi
    have hat : ∀ i, i < len → ∃ cs' y, w.cells? 0 ((⟨g, o, sp⟩ : Addr).add (i * Tryd.prog.cellsOf e)) (Tryd.prog.cellsOf e) = some cs' ∧ Rd enc w m e cs' y := fun i hi => by
      have h1 := hel i hi
      have h2 : i < elems.length := by omega
      rw [List.getElem?_eq_getElem h2, Option.bind_eq_some_iff] at h1
      obtain ⟨cs', k1, k2⟩ := h1
      exact ⟨cs', _, k1, k2⟩
    have hsp : sp = none := by
      obtain ⟨cs', y, k1, _⟩ := hat 0 (by omega)
      obtain ⟨_, k3, k4⟩ := World.cells?_some k1
      have k5 := k4 0 hz
      rw [List.getElem?_eq_getElem (by omega)] at k5
      cases sp with
      | none => rfl
      | some q =>
        simp [Addr.add, World.cell?] at k5
        split at k5 <;> simp at k5
    subst hsp
    obtain ⟨cs', y, k1, k2⟩ := hat i hi1
    obtain ⟨_, k3, k4⟩ := World.cells?_some k1
    have k6 : ∀ j, j < Tryd.prog.cellsOf e → w.cell? ⟨g, o + i * Tryd.prog.cellsOf e + j, none⟩ = cs'[j]? := fun j hj => by
      have := k4 j hj
      rw [Addr.add_lit, Addr.add_lit] at this
      exact this
    refine ⟨g, o, m, cs', y, rfl, ?_, rfl, k3, k6, k2⟩
    have k7 := k6 0 hz
    rw [List.getElem?_eq_getElem (by omega)] at k7
    exact World.block_lt_of_cell? _ _ k7
/-- A struct's field. -/
theorem rd_fields {n t : Nat} {fs : Array Field} {cs : List Value} {x : DataW H × List MemPlace} (ht : Tryd.prog.underlying t = some (.struct fs)) (h : Rd enc w n t cs x) :
    ∃ m, n = m + 1 ∧ cs.length = Tryd.prog.cellsOf t ∧ ∀ (i off ty sz : Nat), (fs[i]?).map (fun f => (f.offset, f.type)) = some (off, ty) → Tryd.prog.cellsOf ty = sz → ∃ y, Rd enc w m ty ((cs.drop off).take sz) y := by
  obtain ⟨xs, m, rfl, _, hl, hx, hf⟩ := DataW.trod_struct ht h
  refine ⟨m, rfl, hl, fun i off ty sz hi hs => ?_⟩
  obtain ⟨f, hi2, he⟩ := Option.map_eq_some_iff.1 hi
  injection he with e1 e2
  subst e1 e2 hs
  have h1 : i < xs.length := by rw [hx]; exact (Array.getElem?_eq_some_iff.1 hi2).1
  exact ⟨_, (hf i f hi2).trans (List.getElem?_eq_getElem h1)⟩
theorem c2 : Tryd.prog.cellsOf 2 = 1 := by kernel_rfl
theorem c3 : Tryd.prog.cellsOf 3 = 1 := by kernel_rfl
theorem c4 : Tryd.prog.cellsOf 4 = 1 := by kernel_rfl
theorem c9 : Tryd.prog.cellsOf 9 = 1 := by kernel_rfl
theorem c22 : Tryd.prog.cellsOf 22 = 1 := by kernel_rfl
theorem c23 : Tryd.prog.cellsOf 23 = 1 := by kernel_rfl
theorem c24 : Tryd.prog.cellsOf 24 = 1 := by kernel_rfl
theorem c25 : Tryd.prog.cellsOf 25 = 1 := by kernel_rfl
theorem c26 : Tryd.prog.cellsOf 26 = 1 := by kernel_rfl
theorem c27 : Tryd.prog.cellsOf 27 = 1 := by kernel_rfl
theorem c29 : Tryd.prog.cellsOf 29 = 9 := by kernel_rfl
theorem c30 : Tryd.prog.cellsOf 30 = 1 := by kernel_rfl
theorem c31 : Tryd.prog.cellsOf 31 = 1 := by kernel_rfl
theorem c33 : Tryd.prog.cellsOf 33 = 6 := by kernel_rfl
theorem c34 : Tryd.prog.cellsOf 34 = 1 := by kernel_rfl
theorem c36 : Tryd.prog.cellsOf 36 = 3 := by kernel_rfl
theorem c38 : Tryd.prog.cellsOf 38 = 11 := by kernel_rfl
theorem c44 : Tryd.prog.cellsOf 44 = 1 := by kernel_rfl
theorem c46 : Tryd.prog.cellsOf 46 = 5 := by kernel_rfl
theorem c51 : Tryd.prog.cellsOf 51 = 1 := by kernel_rfl
theorem c53 : Tryd.prog.cellsOf 53 = 3 := by kernel_rfl
theorem c58 : Tryd.prog.cellsOf 58 = 3 := by kernel_rfl
theorem c61 : Tryd.prog.cellsOf 61 = 2 := by kernel_rfl
theorem c69 : Tryd.prog.cellsOf 69 = 1 := by kernel_rfl
theorem c71 : Tryd.prog.cellsOf 71 = 3 := by kernel_rfl
theorem c73 : Tryd.prog.cellsOf 73 = 2 := by kernel_rfl
theorem u51 : Tryd.prog.underlying 51 = some (.int .u8) := by kernel_rfl
/-- An expression's cells, and its tree. -/
theorem Tr.succ {w : World} {B : Nat} {Q : Ev → Prop} : ∀ {f : Nat} {e : Ev}, Tr w B Q f e → Tr w B Q (f + 1) e
  | 0, _, h => h.elim
  | f + 1, e, h => ⟨h.1, fun i hi => by
    obtain ⟨g, o, e', h1, h2, h3, h4⟩ := h.2 i hi
    exact ⟨g, o, e', h1, h2, h3, Tr.succ h4⟩⟩
theorem list6 {l : List Value} (h : l.length = 6) : ∃ a b c d e f, l = [a, b, c, d, e, f] := by
  match l, h with
  | [a, b, c, d, e, f], _ => exact ⟨a, b, c, d, e, f, rfl⟩
theorem list3 {l : List Value} (h : l.length = 3) : ∃ a b c, l = [a, b, c] := by
  match l, h with
  | [a, b, c], _ => exact ⟨a, b, c, rfl⟩
theorem list2 {l : List Value} (h : l.length = 2) : ∃ a b, l = [a, b] := by
  match l, h with
  | [a, b], _ => exact ⟨a, b, rfl⟩
theorem list5 {l : List Value} (h : l.length = 5) : ∃ a b c d e, l = [a, b, c, d, e] := by
  match l, h with
  | [a, b, c, d, e], _ => exact ⟨a, b, c, d, e, rfl⟩
theorem rd_expr : ∀ (n : Nat) (cs : List Value) (x : DataW H × List MemPlace), Rd enc w n 33 cs x → ∃ e : Ev, cs = e.cells.toList ∧ Tr w w.heap.size Len n e := by
  intro n
  induction n using Nat.strongRecOn with
  | _ n ih =>
    intro cs x h
    obtain ⟨m, rfl, hl, hf⟩ := rd_fields Tryd.underlying33 h
    rw [c33] at hl
    obtain ⟨v0, v1, v2, v3, v4, v5, rfl⟩ := list6 hl
    obtain ⟨y0, f0⟩ := hf 0 0 30 1 rfl c30
    obtain ⟨y1, f1⟩ := hf 1 1 9 1 rfl c9
    obtain ⟨y2, f2⟩ := hf 2 2 9 1 rfl c9
    obtain ⟨y3, f3⟩ := hf 3 3 2 1 rfl c2
    obtain ⟨y4, f4⟩ := hf 4 4 3 1 rfl c3
    obtain ⟨y5, f5⟩ := hf 5 5 31 1 rfl c31
    obtain ⟨k, e0, _⟩ := rd_int Tryd.underlying30 f0
    obtain ⟨s, e1⟩ := rd_str f1
    obtain ⟨t, e2⟩ := rd_str f2
    obtain ⟨i, e3, _⟩ := rd_int Tryd.underlying2 f3
    obtain ⟨a, e4, _⟩ := rd_int Tryd.underlying3 f4
    obtain ⟨kids, e5, hk1, hk2, hk3⟩ := rd_slice Tryd.underlying31 c33 (by omega) f5
    obtain rfl : v0 = .int .u8 k := (List.cons.inj e0).1
    obtain rfl : v1 = .string s := (List.cons.inj e1).1
    obtain rfl : v2 = .string t := (List.cons.inj e2).1
    obtain rfl : v3 = .int .i64 i := (List.cons.inj e3).1
    obtain rfl : v4 = .int .i64 a := (List.cons.inj e4).1
    obtain rfl : v5 = .slice kids.a kids.n kids.c := (List.cons.inj e5).1
    refine ⟨⟨k, s, t, i, a, kids⟩, rfl, hk1, fun i hi => ?_⟩
    obtain ⟨g, o, m', cs', y, q1, q2, q3, q4, q5, q6⟩ := hk3 i hi
    obtain ⟨e', r1, r2⟩ := ih m' (by omega) cs' y q6
    subst r1
    refine ⟨g, o, e', q1, q2, ⟨q5 0 (by omega), q5 1 (by omega), q5 2 (by omega), q5 3 (by omega), q5 4 (by omega), q5 5 (by omega)⟩, ?_⟩
    have : m = m' + 1 := q3
    subst this
    exact r2.succ
end
end Go.Proofs.YtkpaphoeldcakaaDoor.Gr
