/- The program's verify, flow and code, followed by hand: part 26. -/
import Derived.Test.YtmdcccegkamhaaaGreatDoorP1
import Derived.ChangeArms
import Derived.DataReads
import Derived.OpenShut
import Derived.KernelRfl
set_option maxHeartbeats 4000000
set_option maxRecDepth 100000
set_option linter.unusedSectionVars false
set_option linter.unusedVariables false
set_option linter.unusedSimpArgs false
namespace Go.Proofs.Vf
open Go Go.Proofs Go.RowKit Go.Lib
section
variable {H : Type} {enc : TypeId × Value → H} {w : World}
abbrev Rd (enc : TypeId × Value → H) (w : World) (n : Nat) (t : TypeId) (cs : List Value) (x : DataW H × List MemPlace) : Prop := DataW.trod enc Tryz.prog w 0 (fun _ => true) true n t cs = some x
theorem rd_str {n : Nat} {cs : List Value} {x : DataW H × List MemPlace} (h : Rd enc w n 9 cs x) : ∃ s : ByteArray, cs = [.string s] := by
 obtain ⟨s, h, _⟩ := DataW.trod_string Tryz.underlying9 h; exact ⟨s, h⟩
theorem rd_bool {n : Nat} {cs : List Value} {x : DataW H × List MemPlace} (h : Rd enc w n 4 cs x) : ∃ b, cs = [.bool b] := by
 obtain ⟨s, h, _⟩ := DataW.trod_bool Tryz.underlying4 h; exact ⟨s, h⟩
theorem rd_int {n t : Nat} {k : IntKind} {cs : List Value} {x : DataW H × List MemPlace} (ht : Tryz.prog.underlying t = some (.int k)) (h : Rd enc w n t cs x) : ∃ i, cs = [.int k i] ∧ (Lit.int k i).wf = true := by
 obtain ⟨s, h, _, h2⟩ := DataW.trod_int ht h; exact ⟨s, h, h2⟩
theorem rd_slice {n t e sz : Nat} {cs : List Value} {x : DataW H × List MemPlace} (ht : Tryz.prog.underlying t = some (.slice e)) (hs : Tryz.prog.cellsOf e = sz) (hz : 0 < sz) (h : Rd enc w n t cs x) :
 ∃ s : Sl, cs = [.slice s.a s.n s.c] ∧ s.n ≤ 9223372036854775807 ∧ s.n ≤ s.c ∧ ((s.a = none ∧ s.n = 0 ∧ s.c = 0) ∨ ∃ A, s.a = some A) ∧
  ∀ i, i < s.n → ∃ g o m cs' y, s.a = some ⟨g, o, none⟩ ∧ g < w.heap.size ∧ n = m + 1 ∧ cs'.length = sz ∧ (∀ j, j < sz → w.cell? ⟨g, o + i * sz + j, none⟩ = cs'[j]?) ∧ Rd enc w m e cs' y := by
 subst hs
 rcases DataW.trod_slice ht h with ⟨rfl, _⟩ | ⟨⟨g, o, sp⟩, len, cap, elems, rest, m, rfl, rfl, _, _, hl, hc, he, hel, _, _⟩
 · exact ⟨⟨none, 0, 0⟩, rfl, by show 0 ≤ _; omega, Nat.le_refl _, .inl ⟨rfl, rfl, rfl⟩, fun i hi => absurd hi (by simp)⟩
 · refine ⟨⟨some ⟨g, o, sp⟩, len, cap⟩, rfl, by show len ≤ _; unfold maxLen at hc; omega, hl, .inr ⟨_, rfl⟩, fun i hi => ?_⟩
   have hi1 : i < len := hi
   have hat : ∀ i, i < len → ∃ cs' y, w.cells? 0 ((⟨g, o, sp⟩ : Addr).add (i * Tryz.prog.cellsOf e)) (Tryz.prog.cellsOf e) = some cs' ∧ Rd enc w m e cs' y := fun i hi => by
    have h1 := hel i hi
    have h2 : i < elems.length := by omega
    rw [List.getElem?_eq_getElem h2, Option.bind_eq_some_iff] at h1
    obtain ⟨cs', k1, k2⟩ := h1
    exact ⟨cs', _, k1, k2⟩
   have hsp : sp = none := by
    obtain ⟨cs', y, k1, _⟩ := hat 0 (by omega)
    obtain ⟨_, k3, k4⟩ := World.cells?_some k1
    have k5 := k4 0 hz
    rw [List.getElem?_eq_getElem (by omega)] at k5
    cases sp with
    | none => rfl
    | some q =>
      simp [Addr.add, World.cell?] at k5
      split at k5 <;> simp at k5
   subst hsp
   obtain ⟨cs', y, k1, k2⟩ := hat i hi1
   obtain ⟨_, k3, k4⟩ := World.cells?_some k1
   have k6 : ∀ j, j < Tryz.prog.cellsOf e → w.cell? ⟨g, o + i * Tryz.prog.cellsOf e + j, none⟩ = cs'[j]? := fun j hj => by
    have := k4 j hj
    rw [Addr.add_lit, Addr.add_lit] at this
    exact this
   refine ⟨g, o, m, cs', y, rfl, ?_, rfl, k3, k6, k2⟩
   have k7 := k6 0 hz
   rw [List.getElem?_eq_getElem (by omega)] at k7
   exact World.block_lt_of_cell? _ _ k7
theorem rd_fields {n t : Nat} {fs : Array Field} {cs : List Value} {x : DataW H × List MemPlace} (ht : Tryz.prog.underlying t = some (.struct fs)) (h : Rd enc w n t cs x) :
 ∃ m, n = m + 1 ∧ cs.length = Tryz.prog.cellsOf t ∧ ∀ (i off ty sz : Nat), (fs[i]?).map (fun f => (f.offset, f.type)) = some (off, ty) → Tryz.prog.cellsOf ty = sz → ∃ y, Rd enc w m ty ((cs.drop off).take sz) y := by
 obtain ⟨xs, m, rfl, _, hl, hx, hf⟩ := DataW.trod_struct ht h
 refine ⟨m, rfl, hl, fun i off ty sz hi hs => ?_⟩
 obtain ⟨f, hi2, he⟩ := Option.map_eq_some_iff.1 hi
 injection he with e1 e2
 subst e1 e2 hs
 have h1 : i < xs.length := by rw [hx]; exact (Array.getElem?_eq_some_iff.1 hi2).1
 exact ⟨_, (hf i f hi2).trans (List.getElem?_eq_getElem h1)⟩
theorem c2 : Tryz.prog.cellsOf 2 = 1 := by kernel_rfl
theorem c3 : Tryz.prog.cellsOf 3 = 1 := by kernel_rfl
theorem c4 : Tryz.prog.cellsOf 4 = 1 := by kernel_rfl
theorem c9 : Tryz.prog.cellsOf 9 = 1 := by kernel_rfl
theorem c22 : Tryz.prog.cellsOf 22 = 1 := by kernel_rfl
theorem c23 : Tryz.prog.cellsOf 23 = 1 := by kernel_rfl
theorem c24 : Tryz.prog.cellsOf 24 = 1 := by kernel_rfl
theorem c25 : Tryz.prog.cellsOf 25 = 1 := by kernel_rfl
theorem c26 : Tryz.prog.cellsOf 26 = 1 := by kernel_rfl
theorem c27 : Tryz.prog.cellsOf 27 = 1 := by kernel_rfl
theorem c29 : Tryz.prog.cellsOf 29 = 9 := by kernel_rfl
theorem c43 : Tryz.prog.cellsOf 43 = 1 := by kernel_rfl
theorem c45 : Tryz.prog.cellsOf 45 = 5 := by kernel_rfl
theorem c51 : Tryz.prog.cellsOf 51 = 1 := by kernel_rfl
theorem c101 : Tryz.prog.cellsOf 101 = 3 := by kernel_rfl
theorem c105 : Tryz.prog.cellsOf 105 = 3 := by kernel_rfl
theorem c107 : Tryz.prog.cellsOf 107 = 1 := by kernel_rfl
theorem c109 : Tryz.prog.cellsOf 109 = 3 := by kernel_rfl
theorem c111 : Tryz.prog.cellsOf 111 = 2 := by kernel_rfl
theorem u107 : Tryz.prog.underlying 107 = some (.int .u8) := by kernel_rfl
theorem list3 {l : List Value} (h : l.length = 3) : ∃ a b c, l = [a, b, c] := by
 match l, h with
 | [a, b, c], _ => exact ⟨a, b, c, rfl⟩
theorem list2 {l : List Value} (h : l.length = 2) : ∃ a b, l = [a, b] := by
 match l, h with
 | [a, b], _ => exact ⟨a, b, rfl⟩
theorem list5 {l : List Value} (h : l.length = 5) : ∃ a b c d e, l = [a, b, c, d, e] := by
 match l, h with
 | [a, b, c, d, e], _ => exact ⟨a, b, c, d, e, rfl⟩
theorem list9 {l : List Value} (h : l.length = 9) : ∃ a b c d e f g i j, l = [a, b, c, d, e, f, g, i, j] := by
 match l, h with
 | [a, b, c, d, e, f, g, i, j], _ => exact ⟨a, b, c, d, e, f, g, i, j, rfl⟩
theorem choose_list {α : Type} {P : Nat → α → Prop} : ∀ n : Nat, (∀ i, i < n → ∃ x, P i x) → ∃ l : List α, l.length = n ∧ ∀ i x, l[i]? = some x → P i x
 | 0, _ => ⟨[], rfl, fun i x h => by simp at h⟩
 | n + 1, h => by
   obtain ⟨l, h1, h2⟩ := choose_list n fun i hi => h i (by omega)
   obtain ⟨x, hx⟩ := h n (by omega)
   refine ⟨l ++ [x], by simp [h1], fun i y hy => ?_⟩
   by_cases hi : i < n
   · rw [List.getElem?_append_left (by omega)] at hy; exact h2 i y hy
   · have hin : i = n := by
      have := (List.getElem?_eq_some_iff.1 hy).1
      simp at this; omega
     subst hin
     rw [List.getElem?_append_right (by omega), h1] at hy
     simp at hy
     exact hy ▸ hx
theorem lst_of {α : Type} (f : α → List Value) {t e sz n : Nat} {cs : List Value} {x : DataW H × List MemPlace} (Q : α → Prop) (ht : Tryz.prog.underlying t = some (.slice e)) (hs : Tryz.prog.cellsOf e = sz) (hz : 0 < sz) (h : Rd enc w n t cs x)
 (hE : ∀ m cs' y, Rd enc w m e cs' y → ∃ v : α, cs' = f v ∧ Q v) : ∃ (s : Sl) (l : List α), cs = [.slice s.a s.n s.c] ∧ Lst w s sz f l ∧ s.n ≤ s.c ∧ ∀ v ∈ l, Q v := by
 obtain ⟨s, rfl, h1, h2, _, h3⟩ := rd_slice ht hs hz h
 obtain ⟨l, k1, k2⟩ := choose_list (P := fun i (v : α) => (∃ g o, s.a = some ⟨g, o, none⟩ ∧ g < w.heap.size ∧ ∀ j, j < sz → w.cell? ⟨g, o + i * sz + j, none⟩ = (f v)[j]?) ∧ Q v) s.n fun i hi => by
  obtain ⟨g, o, m, cs', y, q1, q2, _, _, q5, q6⟩ := h3 i hi
  obtain ⟨v, rfl, hq⟩ := hE m cs' y q6
  exact ⟨v, ⟨g, o, q1, q2, q5⟩, hq⟩
 refine ⟨s, l, rfl, ⟨k1.symm, h1, fun i v hv => (k2 i v hv).1⟩, h2, fun v hv => ?_⟩
 obtain ⟨i, hi⟩ := List.getElem?_of_mem hv
 exact (k2 i v hi).2
theorem rd_con {n : Nat} {cs : List Value} {x : DataW H × List MemPlace} (h : Rd enc w n 109 cs x) : ∃ e : Con, cs = e.cells ∧ True := by
 obtain ⟨m, rfl, hl, hf⟩ := rd_fields Tryz.underlying109 h
 rw [c109] at hl
 obtain ⟨v0, v1, v2, rfl⟩ := list3 hl
 obtain ⟨y0, f0⟩ := hf 0 0 107 1 rfl c107
 obtain ⟨y1, f1⟩ := hf 1 1 2 1 rfl c2
 obtain ⟨y2, f2⟩ := hf 2 2 9 1 rfl c9
 obtain ⟨k, e0, _⟩ := rd_int u107 f0
 obtain ⟨i, e1, _⟩ := rd_int Tryz.underlying2 f1
 obtain ⟨s, e2⟩ := rd_str f2
 obtain rfl : v0 = .int .u8 k := (List.cons.inj e0).1
 obtain rfl : v1 = .int .i64 i := (List.cons.inj e1).1
 obtain rfl : v2 = .string s := (List.cons.inj e2).1
 exact ⟨⟨k, i, s⟩, rfl, trivial⟩
theorem rd_ins {n : Nat} {cs : List Value} {x : DataW H × List MemPlace} (h : Rd enc w n 45 cs x) : ∃ e : Ins, cs = e.cells ∧ (∃ o : Nat, e.o = o ∧ o < 256) ∧ (Lit.int .i64 e.a).wf = true := by
 obtain ⟨m, rfl, hl, hf⟩ := rd_fields Tryz.underlying45 h
 rw [c45] at hl
 obtain ⟨v0, v1, v2, v3, v4, rfl⟩ := list5 hl
 obtain ⟨y0, f0⟩ := hf 0 0 43 1 rfl c43
 obtain ⟨y1, f1⟩ := hf 1 1 3 1 rfl c3
 obtain ⟨y2, f2⟩ := hf 2 2 3 1 rfl c3
 obtain ⟨y3, f3⟩ := hf 3 3 3 1 rfl c3
 obtain ⟨y4, f4⟩ := hf 4 4 3 1 rfl c3
 obtain ⟨a, e0, hw⟩ := rd_int Tryz.underlying43 f0
 obtain ⟨b, e1, hwb⟩ := rd_int Tryz.underlying3 f1
 obtain ⟨c, e2, _⟩ := rd_int Tryz.underlying3 f2
 obtain ⟨d, e3, _⟩ := rd_int Tryz.underlying3 f3
 obtain ⟨e, e4, _⟩ := rd_int Tryz.underlying3 f4
 obtain rfl : v0 = .int .u8 a := (List.cons.inj e0).1
 obtain rfl : v1 = .int .i64 b := (List.cons.inj e1).1
 obtain rfl : v2 = .int .i64 c := (List.cons.inj e2).1
 obtain rfl : v3 = .int .i64 d := (List.cons.inj e3).1
 obtain rfl : v4 = .int .i64 e := (List.cons.inj e4).1
 have hb : 0 ≤ a ∧ a ≤ 255 := by simpa [Lit.wf, IntKind.min, IntKind.max, IntKind.signed, IntKind.bits] using hw
 exact ⟨⟨a, b, c, d, e⟩, rfl, ⟨a.toNat, by show a = _; omega, by omega⟩, hwb⟩
theorem rd_cur {n : Nat} {cs : List Value} {x : DataW H × List MemPlace} (h : Rd enc w n 105 cs x) : ∃ e : Cur, cs = e.cells ∧ True := by
 obtain ⟨m, rfl, hl, hf⟩ := rd_fields Tryz.underlying105 h
 rw [c105] at hl
 obtain ⟨v0, v1, v2, rfl⟩ := list3 hl
 obtain ⟨y0, f0⟩ := hf 0 0 9 1 rfl c9
 obtain ⟨y1, f1⟩ := hf 1 1 4 1 rfl c4
 obtain ⟨y2, f2⟩ := hf 2 2 4 1 rfl c4
 obtain ⟨t, e0⟩ := rd_str f0
 obtain ⟨b, e1⟩ := rd_bool f1
 obtain ⟨c, e2⟩ := rd_bool f2
 obtain rfl : v0 = .string t := (List.cons.inj e0).1
 obtain rfl : v1 = .bool b := (List.cons.inj e1).1
 obtain rfl : v2 = .bool c := (List.cons.inj e2).1
 exact ⟨⟨t, b, c⟩, rfl, trivial⟩
theorem rd_tot {n : Nat} {cs : List Value} {x : DataW H × List MemPlace} (h : Rd enc w n 111 cs x) : ∃ e : Tot, cs = e.cells ∧ True := by
 obtain ⟨m, rfl, hl, hf⟩ := rd_fields Tryz.underlying111 h
 rw [c111] at hl
 obtain ⟨v0, v1, rfl⟩ := list2 hl
 obtain ⟨y0, f0⟩ := hf 0 0 9 1 rfl c9
 obtain ⟨y1, f1⟩ := hf 1 1 4 1 rfl c4
 obtain ⟨t, e0⟩ := rd_str f0
 obtain ⟨b, e1⟩ := rd_bool f1
 obtain rfl : v0 = .string t := (List.cons.inj e0).1
 obtain rfl : v1 = .bool b := (List.cons.inj e1).1
 exact ⟨⟨t, b⟩, rfl, trivial⟩
theorem rd_srt {n : Nat} {cs : List Value} {x : DataW H × List MemPlace} (h : Rd enc w n 101 cs x) : ∃ e : Srt, cs = e.cells ∧ e.d.n ≤ 9223372036854775807 := by
 obtain ⟨m, rfl, hl, hf⟩ := rd_fields Tryz.underlying101 h
 rw [c101] at hl
 obtain ⟨v0, v1, v2, rfl⟩ := list3 hl
 obtain ⟨y0, f0⟩ := hf 0 0 51 1 rfl c51
 obtain ⟨y1, f1⟩ := hf 1 1 3 1 rfl c3
 obtain ⟨y2, f2⟩ := hf 2 2 4 1 rfl c4
 obtain ⟨d, e0, k1, _⟩ := rd_slice Tryz.underlying51 c4 (by omega) f0
 obtain ⟨b, e1, _⟩ := rd_int Tryz.underlying3 f1
 obtain ⟨c, e2⟩ := rd_bool f2
 obtain rfl : v0 = .slice d.a d.n d.c := (List.cons.inj e0).1
 obtain rfl : v1 = .int .i64 b := (List.cons.inj e1).1
 obtain rfl : v2 = .bool c := (List.cons.inj e2).1
 exact ⟨⟨d, b, c⟩, rfl, k1⟩
theorem rd_txt {n : Nat} {cs : List Value} {x : DataW H × List MemPlace} (h : Rd enc w n 9 cs x) : ∃ s : ByteArray, cs = strC s ∧ True := by
 obtain ⟨s, rfl⟩ := rd_str h; exact ⟨s, rfl, trivial⟩
theorem open_prog {cs : Array Value} {n : Nat} {x : DataW H × List MemPlace} (h : Rd enc w n 29 cs.toList x) : ∃ (p : Pg) (D : Dat), Value.agg cs = p.v ∧ Has w p D ∧ (∀ i ∈ D.code, ∃ o : Nat, i.o = o ∧ o < 256) ∧ (∀ i ∈ D.code, (Lit.int .i64 i.a).wf = true) ∧ p.code.n ≤ p.code.c := by
 obtain ⟨m, rfl, hl, hf⟩ := rd_fields Tryz.underlying29 h
 rw [c29] at hl
 obtain ⟨v0, v1, v2, v3, v4, v5, v6, v7, v8, hcs⟩ := list9 hl
 rw [hcs] at hf
 obtain ⟨y0, f0⟩ := hf 0 0 3 1 rfl c3
 obtain ⟨y1, f1⟩ := hf 1 1 3 1 rfl c3
 obtain ⟨y2, f2⟩ := hf 2 2 3 1 rfl c3
 obtain ⟨y3, f3⟩ := hf 3 3 22 1 rfl c22
 obtain ⟨y4, f4⟩ := hf 4 4 23 1 rfl c23
 obtain ⟨y5, f5⟩ := hf 5 5 24 1 rfl c24
 obtain ⟨y6, f6⟩ := hf 6 6 25 1 rfl c25
 obtain ⟨y7, f7⟩ := hf 7 7 26 1 rfl c26
 obtain ⟨y8, f8⟩ := hf 8 8 27 1 rfl c27
 obtain ⟨a, e0, _⟩ := rd_int Tryz.underlying3 f0
 obtain ⟨b, e1, _⟩ := rd_int Tryz.underlying3 f1
 obtain ⟨c, e2, _⟩ := rd_int Tryz.underlying3 f2
 obtain ⟨names, ln, e3, h3, _, _⟩ := lst_of strC (fun _ => True) Tryz.underlying22 c9 (by omega) f3 fun _ _ _ h => rd_txt h
 obtain ⟨cons, lc, e4, h4, _, _⟩ := lst_of Con.cells (fun _ => True) Tryz.underlying23 c109 (by omega) f4 fun _ _ _ h => rd_con h
 obtain ⟨curs, lu, e5, h5, _, _⟩ := lst_of Cur.cells (fun _ => True) Tryz.underlying24 c105 (by omega) f5 fun _ _ _ h => rd_cur h
 obtain ⟨sorts, ls, e6, h6, _, q6⟩ := lst_of Srt.cells (fun e => e.d.n ≤ 9223372036854775807) Tryz.underlying25 c101 (by omega) f6 fun _ _ _ h => rd_srt h
 obtain ⟨tots, lt, e7, h7, _, _⟩ := lst_of Tot.cells (fun _ => True) Tryz.underlying26 c111 (by omega) f7 fun _ _ _ h => rd_tot h
 obtain ⟨code, lk, e8, h8, hcap, q8⟩ := lst_of Ins.cells (fun e => (∃ o : Nat, e.o = o ∧ o < 256) ∧ (Lit.int .i64 e.a).wf = true) Tryz.underlying27 c45 (by omega) f8 fun _ _ _ h => rd_ins h
 obtain rfl : v0 = .int .i64 a := (List.cons.inj e0).1
 obtain rfl : v1 = .int .i64 b := (List.cons.inj e1).1
 obtain rfl : v2 = .int .i64 c := (List.cons.inj e2).1
 obtain rfl : v3 = .slice names.a names.n names.c := (List.cons.inj e3).1
 obtain rfl : v4 = .slice cons.a cons.n cons.c := (List.cons.inj e4).1
 obtain rfl : v5 = .slice curs.a curs.n curs.c := (List.cons.inj e5).1
 obtain rfl : v6 = .slice sorts.a sorts.n sorts.c := (List.cons.inj e6).1
 obtain rfl : v7 = .slice tots.a tots.n tots.c := (List.cons.inj e7).1
 obtain rfl : v8 = .slice code.a code.n code.c := (List.cons.inj e8).1
 exact ⟨⟨a, b, c, names, cons, curs, sorts, tots, code⟩, ⟨ln, lc, lu, ls, lt, lk⟩, congrArg Value.agg (Array.toList_inj.1 hcs), ⟨h3, h4, h5, h6, h7, h8, q6⟩, fun i hi => (q8 i hi).1, fun i hi => (q8 i hi).2, hcap⟩
theorem c30 : Tryz.prog.cellsOf 30 = 2 := by kernel_rfl
theorem open_two {cs : Array Value} {n : Nat} {x : DataW H × List MemPlace} (h : Rd enc w n 30 cs.toList x) : ∃ x0 x1, Value.agg cs = .agg #[.int .i64 x0, .int .i64 x1] := by
 obtain ⟨xs, m, rfl, _, hl, hx, hf⟩ := DataW.trod_array Tryz.underlying30 h
 rw [c30] at hl
 have hg : ∀ i, i < 2 → ∃ y, Rd enc w m 3 ((cs.toList.drop (i * 1)).take 1) y := fun i hi => by
  have h1 := hf i hi
  rw [c3, List.getElem?_eq_getElem (by omega)] at h1
  exact ⟨_, h1⟩
 obtain ⟨v0, v1, hcs⟩ := list2 hl
 rw [hcs] at hg
 obtain ⟨y0, f0⟩ := hg 0 (by omega)
 obtain ⟨y1, f1⟩ := hg 1 (by omega)
 obtain ⟨a, e0, _⟩ := rd_int Tryz.underlying3 f0
 obtain ⟨b, e1, _⟩ := rd_int Tryz.underlying3 f1
 obtain rfl : v0 = .int .i64 a := (List.cons.inj e0).1
 obtain rfl : v1 = .int .i64 b := (List.cons.inj e1).1
 exact ⟨a, b, congrArg Value.agg (Array.toList_inj.1 hcs)⟩
end
end Go.Proofs.Vf
