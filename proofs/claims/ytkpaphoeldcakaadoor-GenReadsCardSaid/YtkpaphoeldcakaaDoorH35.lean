/- GenReads, by hand: part H35. -/
import Derived.Test.YtkpaphoeldcakaaDoorH34
namespace Go.Proofs.YtkpaphoeldcakaaDoor.Gr
open Go Go.Proofs Go.RowKit Go.Lib
section
variable {H : Type} {enc : TypeId × Value → H} {w : World}
theorem rd_con {n : Nat} {cs : List Value} {x : DataW H × List MemPlace} (h : Rd enc w n 53 cs x) : ∃ e : Con, cs = e.cells := by
  obtain ⟨m, rfl, hl, hf⟩ := rd_fields Tryd.underlying53 h
  rw [c53] at hl
  obtain ⟨v0, v1, v2, rfl⟩ := list3 hl
  obtain ⟨y0, f0⟩ := hf 0 0 51 1 rfl c51
  obtain ⟨y1, f1⟩ := hf 1 1 2 1 rfl c2
  obtain ⟨y2, f2⟩ := hf 2 2 9 1 rfl c9
  obtain ⟨k, e0, _⟩ := rd_int u51 f0
  obtain ⟨i, e1, _⟩ := rd_int Tryd.underlying2 f1
  obtain ⟨s, e2⟩ := rd_str f2
  obtain rfl : v0 = .int .u8 k := (List.cons.inj e0).1
  obtain rfl : v1 = .int .i64 i := (List.cons.inj e1).1
  obtain rfl : v2 = .string s := (List.cons.inj e2).1
  exact ⟨⟨k, i, s⟩, rfl⟩
theorem rd_ins {n : Nat} {cs : List Value} {x : DataW H × List MemPlace} (h : Rd enc w n 46 cs x) : ∃ e : Ins, cs = e.cells := by
  obtain ⟨m, rfl, hl, hf⟩ := rd_fields Tryd.underlying46 h
  rw [c46] at hl
  obtain ⟨v0, v1, v2, v3, v4, rfl⟩ := list5 hl
  obtain ⟨y0, f0⟩ := hf 0 0 44 1 rfl c44
  obtain ⟨y1, f1⟩ := hf 1 1 3 1 rfl c3
  obtain ⟨y2, f2⟩ := hf 2 2 3 1 rfl c3
  obtain ⟨y3, f3⟩ := hf 3 3 3 1 rfl c3
  obtain ⟨y4, f4⟩ := hf 4 4 3 1 rfl c3
  obtain ⟨a, e0, _⟩ := rd_int Tryd.underlying44 f0
  obtain ⟨b, e1, _⟩ := rd_int Tryd.underlying3 f1
  obtain ⟨c, e2, _⟩ := rd_int Tryd.underlying3 f2
  obtain ⟨d, e3, _⟩ := rd_int Tryd.underlying3 f3
  obtain ⟨e, e4, _⟩ := rd_int Tryd.underlying3 f4
  obtain rfl : v0 = .int .u8 a := (List.cons.inj e0).1
  obtain rfl : v1 = .int .i64 b := (List.cons.inj e1).1
  obtain rfl : v2 = .int .i64 c := (List.cons.inj e2).1
  obtain rfl : v3 = .int .i64 d := (List.cons.inj e3).1
  obtain rfl : v4 = .int .i64 e := (List.cons.inj e4).1
  exact ⟨⟨a, b, c, d, e⟩, rfl⟩
theorem rd_cons {n : Nat} {cs : List Value} {x : DataW H × List MemPlace} (h : Rd enc w n 23 cs x) : ∃ (s : Sl) (xs : List Con), cs = [.slice s.a s.n s.c] ∧ s.n ≤ 9223372036854775807 ∧ RowAt w s (conCells xs) ∧ s.n = xs.length ∧ ListAt w.heap.size s 3 (StrE w 2) := by
  obtain ⟨s, rfl, h1, h2, h3⟩ := rd_slice Tryd.underlying23 c53 (by omega) h
  obtain ⟨xs, k1, k2⟩ := choose_list (P := fun i (x : Con) => ∃ g o, s.a = some ⟨g, o, none⟩ ∧ g < w.heap.size ∧ ∀ j, j < 3 → w.cell? ⟨g, o + i * 3 + j, none⟩ = x.cells[j]?) s.n fun i hi => by
    obtain ⟨g, o, m, cs', y, q1, q2, _, _, q5, q6⟩ := h3 i hi
    obtain ⟨e, rfl⟩ := rd_con q6
    exact ⟨e, g, o, q1, q2, q5⟩
  refine ⟨s, xs, rfl, h1, row_of Con.cells 3 (by omega) (fun _ => rfl) s xs k1 h2 k2, k1.symm, fun i hi => ?_⟩
  obtain ⟨g, o, q1, q2, q3⟩ := k2 i _ (List.getElem?_eq_getElem (by omega))
  exact ⟨g, o, q1, q2, _, q3 2 (by omega)⟩
theorem rd_code {n : Nat} {cs : List Value} {x : DataW H × List MemPlace} (h : Rd enc w n 27 cs x) : ∃ (s : Sl) (ys : List Ins), cs = [.slice s.a s.n s.c] ∧ RowAt w s (insCells ys) ∧ s.n = ys.length := by
  obtain ⟨s, rfl, h1, h2, h3⟩ := rd_slice Tryd.underlying27 c46 (by omega) h
  obtain ⟨xs, k1, k2⟩ := choose_list (P := fun i (x : Ins) => ∃ g o, s.a = some ⟨g, o, none⟩ ∧ g < w.heap.size ∧ ∀ j, j < 5 → w.cell? ⟨g, o + i * 5 + j, none⟩ = x.cells[j]?) s.n fun i hi => by
    obtain ⟨g, o, m, cs', y, q1, q2, _, _, q5, q6⟩ := h3 i hi
    obtain ⟨e, rfl⟩ := rd_ins q6
    exact ⟨e, g, o, q1, q2, q5⟩
  exact ⟨s, xs, rfl, row_of Ins.cells 5 (by omega) (fun _ => rfl) s xs k1 h2 k2, k1.symm⟩
theorem rd_names {n : Nat} {cs : List Value} {x : DataW H × List MemPlace} (h : Rd enc w n 22 cs x) : ∃ s : Sl, cs = [.slice s.a s.n s.c] ∧ s.n ≤ 9223372036854775807 ∧ ListAt w.heap.size s 1 (Str0 w) := by
  obtain ⟨s, rfl, h1, h2, h3⟩ := rd_slice Tryd.underlying22 c9 (by omega) h
  refine ⟨s, rfl, h1, fun i hi => ?_⟩
  obtain ⟨g, o, m, cs', y, q1, q2, _, _, q5, q6⟩ := h3 i hi
  obtain ⟨t, rfl⟩ := rd_str q6
  exact ⟨g, o, q1, q2, t, q5 0 (by omega)⟩
theorem rd_curs {n : Nat} {cs : List Value} {x : DataW H × List MemPlace} (h : Rd enc w n 24 cs x) : ∃ s : Sl, cs = [.slice s.a s.n s.c] ∧ s.n ≤ 9223372036854775807 ∧ ListAt w.heap.size s 3 (CurE w) := by
  obtain ⟨s, rfl, h1, h2, h3⟩ := rd_slice Tryd.underlying24 c58 (by omega) h
  refine ⟨s, rfl, h1, fun i hi => ?_⟩
  obtain ⟨g, o, m, cs', y, q1, q2, _, _, q5, q6⟩ := h3 i hi
  obtain ⟨m', rfl, hl, hf⟩ := rd_fields Tryd.underlying58 q6
  rw [c58] at hl
  obtain ⟨v0, v1, v2, rfl⟩ := list3 hl
  obtain ⟨y0, f0⟩ := hf 0 0 9 1 rfl c9
  obtain ⟨y1, f1⟩ := hf 1 1 4 1 rfl c4
  obtain ⟨y2, f2⟩ := hf 2 2 4 1 rfl c4
  obtain ⟨t, e0⟩ := rd_str f0
  obtain ⟨b, e1⟩ := rd_bool f1
  obtain ⟨c, e2⟩ := rd_bool f2
  obtain rfl : v0 = .string t := (List.cons.inj e0).1
  obtain rfl : v1 = .bool b := (List.cons.inj e1).1
  obtain rfl : v2 = .bool c := (List.cons.inj e2).1
  exact ⟨g, o, q1, q2, t, b, c, q5 0 (by omega), q5 1 (by omega), q5 2 (by omega)⟩
theorem rd_tots {n : Nat} {cs : List Value} {x : DataW H × List MemPlace} (h : Rd enc w n 26 cs x) : ∃ s : Sl, cs = [.slice s.a s.n s.c] ∧ s.n ≤ 9223372036854775807 ∧ ListAt w.heap.size s 2 (TotE w) := by
  obtain ⟨s, rfl, h1, h2, h3⟩ := rd_slice Tryd.underlying26 c73 (by omega) h
  refine ⟨s, rfl, h1, fun i hi => ?_⟩
  obtain ⟨g, o, m, cs', y, q1, q2, _, _, q5, q6⟩ := h3 i hi
  obtain ⟨m', rfl, hl, hf⟩ := rd_fields Tryd.underlying73 q6
  rw [c73] at hl
  obtain ⟨v0, v1, rfl⟩ := list2 hl
  obtain ⟨y0, f0⟩ := hf 0 0 9 1 rfl c9
  obtain ⟨y1, f1⟩ := hf 1 1 4 1 rfl c4
  obtain ⟨t, e0⟩ := rd_str f0
  obtain ⟨b, e1⟩ := rd_bool f1
  obtain rfl : v0 = .string t := (List.cons.inj e0).1
  obtain rfl : v1 = .bool b := (List.cons.inj e1).1
  exact ⟨g, o, q1, q2, t, b, q5 0 (by omega), q5 1 (by omega)⟩
theorem rd_sorts {n : Nat} {cs : List Value} {x : DataW H × List MemPlace} (h : Rd enc w n 25 cs x) : ∃ s : Sl, cs = [.slice s.a s.n s.c] ∧ s.n ≤ 9223372036854775807 ∧ ListAt w.heap.size s 3 (SrtE w w.heap.size) := by
  obtain ⟨s, rfl, h1, h2, h3⟩ := rd_slice Tryd.underlying25 c71 (by omega) h
  refine ⟨s, rfl, h1, fun i hi => ?_⟩
  obtain ⟨g, o, m, cs', y, q1, q2, _, _, q5, q6⟩ := h3 i hi
  obtain ⟨m', rfl, hl, hf⟩ := rd_fields Tryd.underlying71 q6
  rw [c71] at hl
  obtain ⟨v0, v1, v2, rfl⟩ := list3 hl
  obtain ⟨y0, f0⟩ := hf 0 0 69 1 rfl c69
  obtain ⟨y1, f1⟩ := hf 1 1 3 1 rfl c3
  obtain ⟨y2, f2⟩ := hf 2 2 4 1 rfl c4
  obtain ⟨d, e0, k1, _, k3⟩ := rd_slice Tryd.underlying69 c4 (by omega) f0
  obtain ⟨b, e1, _⟩ := rd_int Tryd.underlying3 f1
  obtain ⟨c, e2⟩ := rd_bool f2
  obtain rfl : v0 = .slice d.a d.n d.c := (List.cons.inj e0).1
  obtain rfl : v1 = .int .i64 b := (List.cons.inj e1).1
  obtain rfl : v2 = .bool c := (List.cons.inj e2).1
  refine ⟨g, o, q1, q2, d.a, d.n, d.c, b, c, q5 0 (by omega), q5 1 (by omega), q5 2 (by omega), k1, fun j hj => ?_⟩
  obtain ⟨g', o', m2, cs2, y2, r1, r2, _, _, r5, r6⟩ := k3 j hj
  obtain ⟨t, rfl⟩ := rd_bool r6
  exact ⟨g', o', r1, r2, t, r5 0 (by omega)⟩
theorem rd_src {n : Nat} {cs : List Value} {x : DataW H × List MemPlace} (h : Rd enc w n 34 cs x) : ∃ s : Sl, cs = [.slice s.a s.n s.c] ∧ Src w w.heap.size s := by
  obtain ⟨s, rfl, h1, h2, h3⟩ := rd_slice Tryd.underlying34 c61 (by omega) h
  refine ⟨s, rfl, fun i hi => ?_⟩
  obtain ⟨g, o, m, cs', y, q1, q2, _, _, q5, q6⟩ := h3 i hi
  obtain ⟨m', rfl, hl, hf⟩ := rd_fields Tryd.underlying61 q6
  rw [c61] at hl
  obtain ⟨v0, v1, rfl⟩ := list2 hl
  obtain ⟨y0, f0⟩ := hf 0 0 4 1 rfl c4
  obtain ⟨y1, f1⟩ := hf 1 1 3 1 rfl c3
  obtain ⟨b, e0⟩ := rd_bool f0
  obtain ⟨t, e1, _⟩ := rd_int Tryd.underlying3 f1
  obtain rfl : v0 = .bool b := (List.cons.inj e0).1
  obtain rfl : v1 = .int .i64 t := (List.cons.inj e1).1
  exact ⟨g, o, b, t, q1, q2, q5 0 (by omega), q5 1 (by omega)⟩
end
end Go.Proofs.YtkpaphoeldcakaaDoor.Gr
