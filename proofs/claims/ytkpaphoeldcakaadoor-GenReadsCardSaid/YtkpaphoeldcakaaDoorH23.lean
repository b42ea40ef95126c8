/- GenReads, by hand: part H23. -/
import Derived.Test.YtkpaphoeldcakaaDoorH22
namespace Go.Proofs.YtkpaphoeldcakaaDoor.Gr
open Go Go.Proofs Go.RowKit Go.Lib
attribute [local go_sem ↓] Go.wp_at_zero Go.wp_at_succ
theorem Tr.back {w w' : World} {B B' : Nat} {Q R : Ev → Prop} (hb : Below B w w') : ∀ {f : Nat} {e : Ev}, Tr w B Q f e → Tr w' B' R f e → Tr w B R f e
  | 0, _, h, _ => h
  | f + 1, e, h, k => ⟨k.1, fun i hi => by
    obtain ⟨g, o, e', h1, h2, h3, h4⟩ := h.2 i hi
    obtain ⟨g', o', e'', k1, k2, k3, k4⟩ := k.2 i hi
    rw [h1] at k1
    injection k1 with k1
    injection k1 with k5 k6
    subst k5 k6
    obtain rfl := (h3.on hb h2).same k3
    exact ⟨g, o, e', h1, h2, h3, Tr.back hb h4 k4⟩⟩
/-- A job. -/
abbrev jcells (ev : Ev) (q : Pl) (tt free : Int) : Array Value := #[.int .u8 ev.k, .string ev.s, .string ev.t, .int .i64 ev.n, .int .i64 ev.a, .slice ev.kids.a ev.kids.n ev.kids.c, .slice q.src.a q.src.n q.src.c, .int .i64 q.keys, .int .i64 q.tot, .int .i64 tt, .int .i64 free]
abbrev jv (ev : Ev) (q : Pl) (tt free : Int) : Value := .agg #[.int .u8 ev.k, .string ev.s, .string ev.t, .int .i64 ev.n, .int .i64 ev.a, .slice ev.kids.a ev.kids.n ev.kids.c, .slice q.src.a q.src.n q.src.c, .int .i64 q.keys, .int .i64 q.tot, .int .i64 tt, .int .i64 free]
/-- What great tells. -/
def GreatP (W : World) (p : Pg) (f : Nat) (ev : Ev) (e : Ending) : Prop := ∃ b, e = .returned (.bool b) ∧ (b = false → p.code.n ≤ 5000 ∧ p.cons.n ≤ 1100 ∧ Tr W W.heap.size Sm f ev)
set_option maxHeartbeats 2000000 in
set_option maxRecDepth 100000 in
theorem great_any (B f : Nat) (p : Pg) (ev : Ev) (q : Pl) (tt free : Int) (W : World) (hB : B ≤ W.heap.size) (hp : Read1 W B p) (ht : Tr W W.heap.size Len f ev) :
    Calls Tryd.prog 5 #[p.v, jv ev q tt free] W fun e w' => GreatP W p f ev e ∧ Below W.heap.size W w' := by
  obtain ⟨W2, hW2⟩ : ∃ W2, W2 = (W.alloc (.cells p.cells 29)).alloc (.cells (jcells ev q tt free) 38) := ⟨_, rfl⟩
  have s1 : ∀ o, (W.alloc o).heap.size = W.heap.size + 1 := fun o => heap_size_alloc W o
  have hb : Below W.heap.size W W2 := by
    subst hW2
    exact ((Below.refl _ W).alloc (Nat.le_refl _) _).alloc (by rw [s1]; omega) _
  have hz : W2.heap.size = W.heap.size + 2 := by subst hW2; rw [heap_size_alloc, s1]
  have f2 : W2.heap[W.heap.size + 1]? = some (.cells (jcells ev q tt free) 38) := by
    subst hW2
    have := heap_alloc_new (W.alloc (.cells p.cells 29)) (.cells (jcells ev q tt free) 38)
    rw [s1] at this; exact this
  have hr : Read1 W2 B p := by
    have cl : ∀ g o v, g < B → W.cell? ⟨g, o, none⟩ = some v → W2.cell? ⟨g, o, none⟩ = some v := fun g o v hg h => (hb.cell (p := ⟨g, o, none⟩) (by show g < _; omega)).trans h
    refine ⟨fun i hi => ?_, fun i hi => ?_, fun i hi => ?_, fun i hi => ?_, fun i hi => ?_, hp.n1, hp.n2, hp.n3, hp.n4, hp.n5⟩
    · obtain ⟨g, o, h1, h2, x, h3⟩ := hp.names i hi; exact ⟨g, o, h1, h2, x, cl _ _ _ h2 h3⟩
    · obtain ⟨g, o, h1, h2, x, h3⟩ := hp.cons i hi; exact ⟨g, o, h1, h2, x, cl _ _ _ h2 h3⟩
    · obtain ⟨g, o, h1, h2, x, h3⟩ := hp.curs i hi; exact ⟨g, o, h1, h2, x, cl _ _ _ h2 h3⟩
    · obtain ⟨g, o, h1, h2, x, y, z, h3⟩ := hp.sorts i hi; exact ⟨g, o, h1, h2, x, y, z, cl _ _ _ h2 h3⟩
    · obtain ⟨g, o, h1, h2, x, h3⟩ := hp.tots i hi; exact ⟨g, o, h1, h2, x, cl _ _ _ h2 h3⟩
  have hG : ∀ w, w = W2 → Calls Tryd.prog 11 #[p.v] w fun e w' => GrtP p.code.n p.cons.n e ∧ Below W2.heap.size W2 w' := fun w hw => by
    rw [hw]; exact great15 B p W2 (Nat.le_trans hB hb.size) hr
  have hS : ∀ w1, Below W2.heap.size W2 w1 → Calls Tryd.prog 12 #[.slice (some ⟨w1.heap.size, 0, none⟩) 1 1] (w1.alloc (.cells ev.cells 33)) fun e w' => IsT (Tr W W.heap.size Sm f ev) e ∧ Below w1.heap.size w1 w' := by
    intro w1 hb1
    have ha : Below w1.heap.size w1 (w1.alloc (.cells ev.cells 33)) := (Below.refl _ w1).alloc (Nat.le_refl _) _
    have hbw : Below W.heap.size W (w1.alloc (.cells ev.cells 33)) := (hb.trans (hb1.mono hb.size)).trans (ha.mono (hb.trans (hb1.mono hb.size)).size)
    have hc := blk_cell (heap_alloc_new w1 (.cells ev.cells 33))
    have h6 : At6 (w1.alloc (.cells ev.cells 33)) w1.heap.size (0 + 0 * 6) ev := ⟨hc 0, hc 1, hc 2, hc 3, hc 4, hc 5⟩
    have htr : Tr (w1.alloc (.cells ev.cells 33)) (w1.alloc (.cells ev.cells 33)).heap.size Len f ev := (ht.on hbw).raise hbw.size
    have hk : KidsOK (w1.alloc (.cells ev.cells 33)) (w1.alloc (.cells ev.cells 33)).heap.size Len f (some ⟨w1.heap.size, 0, none⟩) 1 := fun i hi => by
      obtain rfl : i = 0 := by omega
      exact ⟨w1.heap.size, 0, ev, rfl, by rw [heap_size_alloc]; omega, h6, htr⟩
    refine (Small_any (w1.alloc (.cells ev.cells 33)) (w1.alloc (.cells ev.cells 33)).heap.size f (some ⟨w1.heap.size, 0, none⟩) 1 1 _ hk (by omega) (Below.refl _ _) (Nat.le_refl _)).mono ?_
    rintro e w' ⟨⟨b, rfl, h⟩, hb2⟩
    refine ⟨⟨b, rfl, fun hbt => ?_⟩, ha.trans (hb2.mono ha.size)⟩
    obtain ⟨g, o, e', k1, _, k3, k4⟩ := h hbt 0 (by omega)
    injection k1 with k1
    injection k1 with k5 k6
    subst k5 k6
    obtain rfl := h6.same k3
    exact ht.back hbw k4
  have HS := Lib.hid hS
  have HE := Lib.hid hW2
  have HG := Lib.hid hG
  have HZ := Lib.hid hz
  have HF := Lib.hid f2
  clear hW2 hG hz f2 hr s1 hS
  go_enter Tryd.func5, Tryd.ntmps5
  go_wp2_with (first
    | (go_at_call 11
       refine (HG.out _ HE.out.symm).mono ?_
       rintro e w1 ⟨⟨b, rfl, hgr⟩, hb1⟩
       have hgw : W.heap.size + 1 ≠ w1.heap.size := by have := hb1.size; rw [HZ.out] at this; omega
       have c1 := blk_cell ((hb1.block (W.heap.size + 1) (by rw [HZ.out]; omega)).trans HF.out))
    | (go_at_call 12
       refine (HS.out _ hb1).mono ?_
       rintro e w2 ⟨⟨b2, rfl, hsm⟩, hb2⟩))
  all_goals go_ret
  all_goals first
    | exact ⟨⟨true, rfl, fun h => by cases h⟩, hb.trans (hb1.mono hb.size)⟩
    | exact ⟨⟨_, rfl, fun h => ⟨(hgr (by simpa using ‹¬ b = true›)).1, (hgr (by simpa using ‹¬ b = true›)).2, hsm (by revert h; cases b2 <;> simp)⟩⟩, (hb.trans (hb1.mono hb.size)).trans (hb2.mono (hb.trans (hb1.mono hb.size)).size)⟩
    | trace_state
end Go.Proofs.YtkpaphoeldcakaaDoor.Gr
