/- GenReads, by hand: part H36. -/
import Derived.Test.YtkpaphoeldcakaaDoorH35
namespace Go.Proofs.YtkpaphoeldcakaaDoor.Gr
open Go Go.Proofs Go.RowKit Go.Lib
section
variable {H : Type} {enc : TypeId × Value → H} {w : World}
theorem list9 {l : List Value} (h : l.length = 9) : ∃ a b c d e f g i j, l = [a, b, c, d, e, f, g, i, j] := by
  match l, h with
  | [a, b, c, d, e, f, g, i, j], _ => exact ⟨a, b, c, d, e, f, g, i, j, rfl⟩
theorem list11 {l : List Value} (h : l.length = 11) : ∃ a b c d e f g i j k m, l = [a, b, c, d, e, f, g, i, j, k, m] := by
  match l, h with
  | [a, b, c, d, e, f, g, i, j, k, m], _ => exact ⟨a, b, c, d, e, f, g, i, j, k, m, rfl⟩
/-- The program that is handed in. -/
theorem open_prog {cs : Array Value} {n : Nat} {x : DataW H × List MemPlace} (h : Rd enc w n 29 cs.toList x) : ∃ (p : Pg) (xs : List Con) (ys : List Ins), Value.agg cs = p.v ∧ Read1 w w.heap.size p ∧ RowAt w p.cons (conCells xs) ∧ p.cons.n = xs.length ∧ RowAt w p.code (insCells ys) ∧ p.code.n = ys.length ∧
    ListAt w.heap.size p.names 1 (Str0 w) ∧ ListAt w.heap.size p.curs 3 (CurE w) ∧ ListAt w.heap.size p.sorts 3 (SrtE w w.heap.size) ∧ ListAt w.heap.size p.tots 2 (TotE w) := by
  obtain ⟨m, rfl, hl, hf⟩ := rd_fields Tryd.underlying29 h
  rw [c29] at hl
  obtain ⟨v0, v1, v2, v3, v4, v5, v6, v7, v8, hcs⟩ := list9 hl
  rw [hcs] at hf
  obtain ⟨y0, f0⟩ := hf 0 0 3 1 rfl c3
  obtain ⟨y1, f1⟩ := hf 1 1 3 1 rfl c3
  obtain ⟨y2, f2⟩ := hf 2 2 3 1 rfl c3
  obtain ⟨y3, f3⟩ := hf 3 3 22 1 rfl c22
  obtain ⟨y4, f4⟩ := hf 4 4 23 1 rfl c23
  obtain ⟨y5, f5⟩ := hf 5 5 24 1 rfl c24
  obtain ⟨y6, f6⟩ := hf 6 6 25 1 rfl c25
  obtain ⟨y7, f7⟩ := hf 7 7 26 1 rfl c26
  obtain ⟨y8, f8⟩ := hf 8 8 27 1 rfl c27
  obtain ⟨a, e0, _⟩ := rd_int Tryd.underlying3 f0
  obtain ⟨b, e1, _⟩ := rd_int Tryd.underlying3 f1
  obtain ⟨c, e2, _⟩ := rd_int Tryd.underlying3 f2
  obtain ⟨names, e3, k3, l3⟩ := rd_names f3
  obtain ⟨cons, xs, e4, k4, r4, n4, l4⟩ := rd_cons f4
  obtain ⟨curs, e5, k5, l5⟩ := rd_curs f5
  obtain ⟨sorts, e6, k6, l6⟩ := rd_sorts f6
  obtain ⟨tots, e7, k7, l7⟩ := rd_tots f7
  obtain ⟨code, ys, e8, r8, n8⟩ := rd_code f8
  obtain rfl : v0 = .int .i64 a := (List.cons.inj e0).1
  obtain rfl : v1 = .int .i64 b := (List.cons.inj e1).1
  obtain rfl : v2 = .int .i64 c := (List.cons.inj e2).1
  obtain rfl : v3 = .slice names.a names.n names.c := (List.cons.inj e3).1
  obtain rfl : v4 = .slice cons.a cons.n cons.c := (List.cons.inj e4).1
  obtain rfl : v5 = .slice curs.a curs.n curs.c := (List.cons.inj e5).1
  obtain rfl : v6 = .slice sorts.a sorts.n sorts.c := (List.cons.inj e6).1
  obtain rfl : v7 = .slice tots.a tots.n tots.c := (List.cons.inj e7).1
  obtain rfl : v8 = .slice code.a code.n code.c := (List.cons.inj e8).1
  refine ⟨⟨a, b, c, names, cons, curs, sorts, tots, code⟩, xs, ys, congrArg Value.agg (Array.toList_inj.1 hcs), ⟨l3, l4, fun i hi => ?_, fun i hi => ?_, fun i hi => ?_, k3, k4, k5, k6, k7⟩, r4, n4, r8, n8, l3, l5, l6, l7⟩
  · obtain ⟨g, o, h1, h2, x, _, _, h3, _⟩ := l5 i hi; exact ⟨g, o, h1, h2, x, h3⟩
  · obtain ⟨g, o, h1, h2, x, y, z, _, _, h3, _⟩ := l6 i hi; exact ⟨g, o, h1, h2, x, y, z, h3⟩
  · obtain ⟨g, o, h1, h2, x, _, h3, _⟩ := l7 i hi; exact ⟨g, o, h1, h2, x, h3⟩
/-- The job that is handed in. -/
theorem open_job {cs : Array Value} {n : Nat} {x : DataW H × List MemPlace} (h : Rd enc w n 38 cs.toList x) : ∃ (ev : Ev) (q : Pl) (tt free : Int) (f : Nat), Value.agg cs = jv ev q tt free ∧ Tr w w.heap.size Len f ev ∧ Src w w.heap.size q.src ∧ free < 9223372036854775808 := by
  obtain ⟨m, rfl, hl, hf⟩ := rd_fields Tryd.underlying38 h
  rw [c38] at hl
  obtain ⟨v0, v1, v2, v3, v4, v5, v6, v7, v8, v9, v10, hcs⟩ := list11 hl
  rw [hcs] at hf
  obtain ⟨y0, f0⟩ := hf 0 0 33 6 rfl c33
  obtain ⟨y1, f1⟩ := hf 1 6 36 3 rfl c36
  obtain ⟨y2, f2⟩ := hf 2 9 3 1 rfl c3
  obtain ⟨y3, f3⟩ := hf 3 10 3 1 rfl c3
  obtain ⟨ev, e0, htr⟩ := rd_expr _ _ _ f0
  obtain ⟨m1, rfl, hl1, hf1⟩ := rd_fields Tryd.underlying36 f1
  obtain ⟨z0, g0⟩ := hf1 0 0 34 1 rfl c34
  obtain ⟨z1, g1⟩ := hf1 1 1 3 1 rfl c3
  obtain ⟨z2, g2⟩ := hf1 2 2 3 1 rfl c3
  obtain ⟨src, d0, hsrc⟩ := rd_src g0
  obtain ⟨keys, d1, _⟩ := rd_int Tryd.underlying3 g1
  obtain ⟨tot, d2, _⟩ := rd_int Tryd.underlying3 g2
  obtain ⟨tt, e2, _⟩ := rd_int Tryd.underlying3 f2
  obtain ⟨free, e3, hwf⟩ := rd_int Tryd.underlying3 f3
  have e0' : [v0, v1, v2, v3, v4, v5] = [.int .u8 ev.k, .string ev.s, .string ev.t, .int .i64 ev.n, .int .i64 ev.a, .slice ev.kids.a ev.kids.n ev.kids.c] := e0
  simp only [List.cons.injEq, and_true] at e0'
  obtain ⟨rfl, rfl, rfl, rfl, rfl, rfl⟩ := e0'
  obtain rfl : v6 = .slice src.a src.n src.c := (List.cons.inj d0).1
  obtain rfl : v7 = .int .i64 keys := (List.cons.inj d1).1
  obtain rfl : v8 = .int .i64 tot := (List.cons.inj d2).1
  obtain rfl : v9 = .int .i64 tt := (List.cons.inj e2).1
  obtain rfl : v10 = .int .i64 free := (List.cons.inj e3).1
  refine ⟨ev, ⟨src, keys, tot⟩, tt, free, _, congrArg Value.agg (Array.toList_inj.1 hcs), htr, hsrc, ?_⟩
  have : free ≤ 9223372036854775807 := by
    have h2 : -9223372036854775808 ≤ free ∧ free ≤ 9223372036854775807 := by simpa [Lit.wf, IntKind.min, IntKind.max, IntKind.signed, IntKind.bits] using hwf
    exact h2.2
  omega
end
end Go.Proofs.YtkpaphoeldcakaaDoor.Gr
