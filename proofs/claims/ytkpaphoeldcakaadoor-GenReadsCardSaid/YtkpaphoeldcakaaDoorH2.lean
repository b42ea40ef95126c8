/- GenReads, by hand: part H2. -/
import Derived.Test.YtkpaphoeldcakaaDoorH1
namespace Go.Proofs.YtkpaphoeldcakaaDoor.Gr
open Go Go.Proofs Go.RowKit Go.Lib
abbrev mp (mb : Nat) : Value := .pointer (some ⟨mb, 0, none⟩)

/-- fail: the first error stays. -/
def Mk.failed (m : Mk) : Mk := { m with bad := if m.bad = 0 then 114 else m.bad }
theorem Mk.failed_bad (m : Mk) : m.failed.bad ≠ 0 := by unfold Mk.failed; dsimp; split <;> omega
set_option maxHeartbeats 1000000 in
set_option maxRecDepth 100000 in
theorem fail_any (mb B : Nat) (m : Mk) (xs : List Con) (ys : List Ins) (w : World) (h : MkAt w mb B m xs ys) :
    Calls Tryd.prog 35 #[mp mb, .int .i64 114] w fun e w' => e = .returned (.tuple #[]) ∧ MkAt w' mb B m.failed xs ys ∧ Fr w w' (m.has mb) (m.failed.has mb) := by
  have c1 := blk_cell h.at_
  have f1 := blk_frozen h.at_
  by_cases hb : m.bad = 0
  · have hs := h.set 12 (.int .i64 114) m.failed (by simp [Mk.failed, hb]) rfl rfl
    have hb2 : (m.bad == 0) = true := by simp [hb]
    go_enter Tryd.func35, Tryd.ntmps35
    go_wp2
    refine bodyPost_end (results_none rfl _ _ _) rfl ?_
    exact ⟨rfl, hs⟩
  · have hs : MkAt w mb B m.failed xs ys := by
      have : m.failed = m := by unfold Mk.failed; rw [if_neg hb]
      rw [this]; exact h
    have hb2 : (m.bad == 0) = false := by simp [hb]
    go_enter Tryd.func35, Tryd.ntmps35
    go_wp2
    refine bodyPost_end (results_none rfl _ _ _) rfl ?_
    exact ⟨rfl, hs, Fr.refl _ _⟩

/-- need: a register. -/
def Mk.needed (m : Mk) (r : Int) : Mk := if 250 ≤ r then m.failed else { m with regs := max m.regs (wrap64 (r + 1)) }
set_option maxHeartbeats 1000000 in
set_option maxRecDepth 100000 in
theorem need_any (mb B : Nat) (m : Mk) (xs : List Con) (ys : List Ins) (r : Int) (w : World) (h : MkAt w mb B m xs ys) :
    Calls Tryd.prog 26 #[mp mb, .int .i64 r] w fun e w' => e = .returned (.int .i64 (if 250 ≤ r then 0 else r)) ∧ MkAt w' mb B (m.needed r) xs ys ∧ Fr w w' (m.has mb) ((m.needed r).has mb) := by
  have c1 := blk_cell h.at_
  have f1 := blk_frozen h.at_
  by_cases hb : 250 ≤ r
  · have e1 : m.needed r = m.failed := if_pos hb
    rw [e1, if_pos hb]
    go_enter Tryd.func26, Tryd.ntmps26
    go_wp2_with (first | (go_at_call 35; refine (fail_any mb B m xs ys _ h).mono ?_; rintro e w2 ⟨rfl, h2⟩))
    go_ret
    exact ⟨rfl, h2⟩
  · have hs := h.set 1 (.int .i64 (max m.regs (wrap64 (r + 1)))) (m.needed r) (by unfold Mk.needed; rw [if_neg hb]; simp) (by unfold Mk.needed; rw [if_neg hb]) (by unfold Mk.needed; rw [if_neg hb])
    rw [if_neg hb]
    go_enter Tryd.func26, Tryd.ntmps26
    go_wp2
    go_ret
    exact ⟨rfl, hs⟩

theorem info142 : (Tryd.prog.info? 46).map (fun i => (i.zero, i.size, i.bytes)) = some (some (.agg #[.int .u8 0, .int .i64 0, .int .i64 0, .int .i64 0, .int .i64 0]), 5, 40) := by kernel_rfl
theorem info74 : (Tryd.prog.info? 53).map (fun i => (i.zero, i.size, i.bytes)) = some (some (.agg #[.int .u8 0, .int .i64 0, .string ⟨#[]⟩]), 3, 32) := by kernel_rfl
theorem heap_size_alloc (w : World) (o : Obj) : (w.alloc o).heap.size = w.heap.size + 1 := by
  show (w.heap.push _).size = _
  simp
theorem MkAt.code_ne {w : World} {mb B : Nat} {m : Mk} {xs : List Con} {ys : List Ins} (h : MkAt w mb B m xs ys) : m.code.v.ownBlock ≠ some mb := fun e => by
  obtain ⟨_, cur, hg⟩ := owns_block h.ins e
  rw [h.at_] at hg; injection hg with hg; injection hg with _ hg; cases hg
theorem MkAt.cons_ne {w : World} {mb B : Nat} {m : Mk} {xs : List Con} {ys : List Ins} (h : MkAt w mb B m xs ys) : m.cons.v.ownBlock ≠ some mb := fun e => by
  obtain ⟨_, cur, hg⟩ := owns_block h.con e
  rw [h.at_] at hg; injection hg with hg; injection hg with _ hg; cases hg
theorem MkAt.two_ne {w : World} {mb B : Nat} {m : Mk} {xs : List Con} {ys : List Ins} (h : MkAt w mb B m xs ys) {i : Nat} (h1 : m.cons.v.ownBlock = some i) : m.code.v.ownBlock ≠ some i := fun e => by
  obtain ⟨_, cur, hg⟩ := owns_block h.con h1
  obtain ⟨_, cur2, hg2⟩ := owns_block h.ins e
  rw [hg] at hg2; injection hg2 with hg2; injection hg2 with _ hg2; cases hg2
/-- The list of instructions has grown by one: the maker, and the store of the new list. -/
theorem MkAt.code {w w1 w2 : World} {mb B gg cap : Nat} {m : Mk} {xs : List Con} {ys : List Ins} {i : Ins} (h : MkAt w mb B m xs ys) (hb : Below w.heap.size w w1) (hy : ys.length < 5000)
    (hown : w2.ownsRow B 46 5 (.slice (some ⟨gg, 0, none⟩) (m.code.n + 1) cap) (m.code.n + 1) (insCells ys ++ i.cells)) (hg : w1.grownBy w2 m.code.v.ownBlock) (hat : m.code.v.ownBlock = some gg ∨ w.heap.size ≤ gg) :
    MkAt (w2.setCell ⟨mb, 8, none⟩ (.slice (some ⟨gg, 0, none⟩) (m.code.n + 1) cap)) mb B { m with code := ⟨some ⟨gg, 0, none⟩, m.code.n + 1, cap⟩ } xs (ys ++ [i]) ∧
      Fr w (w2.setCell ⟨mb, 8, none⟩ (.slice (some ⟨gg, 0, none⟩) (m.code.n + 1) cap)) (m.has mb) (({ m with code := ⟨some ⟨gg, 0, none⟩, m.code.n + 1, cap⟩ } : Mk).has mb) := by
  have h1 := h.below hb
  have hlt : mb < w.heap.size := h.has_lt (.inl rfl)
  have hm2 := (hg.block mb (Nat.lt_of_lt_of_le hlt hb.size) (Ne.symm h.code_ne)).trans h1.at_
  rw [← insCells_snoc] at hown
  have hcon2 : w2.ownsRow B 53 3 m.cons.v m.cons.n (conCells xs) := owns_same h1.con fun i hi => hg.block i (h1.has_lt (.inr (.inl hi))) (fun e => h1.two_ne hi e.symm)
  have hbl : ∀ k, k ≠ mb → ((w2.setCell ⟨mb, 8, none⟩ (.slice (some ⟨gg, 0, none⟩) (m.code.n + 1) cap))).heap[k]? = w2.heap[k]? := fun k hk => heap_setCell_other _ _ _ _ hk
  refine ⟨⟨(heap_setCell_same _ _ _ _ _ _ hm2).trans rfl, owns_same hcon2 fun i hi => hbl i (fun e => h.cons_ne (e ▸ hi)), owns_same hown fun i hi => hbl i ?_, h.hB, h.hx, by simp [h.hy], h.hx2, by simp; omega⟩, ?_, ?_, ?_, ?_, ?_⟩
  · rintro rfl
    have e : gg = i := by simpa [Value.ownBlock] using hi
    subst e
    obtain ⟨_, cur, hgg⟩ := owns_block hown rfl
    rw [hm2] at hgg; injection hgg with hgg; injection hgg with _ hgg; cases hgg
  · exact hg.os.trans hb.os
  · exact hg.output.trans hb.output
  · exact Nat.le_trans hb.size (Nat.le_trans hg.size (by simp [World.setCell]))
  · intro k hk hn
    rw [hbl k (fun e => hn (.inl e)), hg.block k (Nat.lt_of_lt_of_le hk hb.size) (fun e => hn (.inr (.inr e.symm))), hb.block k hk]
  · rintro k (rfl | hk | hk)
    · exact .inl (.inl rfl)
    · exact .inl (.inr (.inl hk))
    · have e : gg = k := by simpa [Value.ownBlock] using hk
      subst e
      exact hat.imp (fun e => .inr (.inr e)) id

attribute [local go_sem ↓] Go.wp_at_zero Go.wp_at_succ
set_option maxHeartbeats 1000000 in
set_option maxRecDepth 100000 in
theorem put_room (mb B : Nat) (m : Mk) (xs : List Con) (ys : List Ins) (i : Ins) (w : World) (h : MkAt w mb B m xs ys) (hr : m.code.n < 3999) :
    Calls Tryd.prog 28 #[mp mb, i.v] w fun e w' => ∃ s, e = .returned (.tuple #[]) ∧ MkAt w' mb B { m with code := s } xs (ys ++ [i]) ∧ Fr w w' (m.has mb) (({ m with code := s } : Mk).has mb) := by
  have c1 := blk_cell h.at_
  have f1 := blk_frozen h.at_
  have hlt : mb < w.heap.size := h.has_lt (.inl rfl)
  have hne : mb ≠ w.heap.size := by omega
  have hne2 : mb ≠ w.heap.size + 1 := by omega
  have hy := h.hy
  have hy' : ys.length < 5000 := by omega
  have hd : ((3999 : Int) ≤ (m.code.n : Int)) = False := by simp; omega
  obtain ⟨i0, hi, hz0, hz1, hz2⟩ := info_parts info142
  have hx1 : ∀ o, (w.alloc o).heap.size = w.heap.size + 1 := fun o => heap_size_alloc w o
  have e8 : ∀ o o2, ((w.alloc o).alloc o2).cell? ⟨mb, 8, none⟩ = some m.code.v := fun o o2 => by
    refine (blk_cell (w := (w.alloc o).alloc o2) (b := mb) (t := 66) (vals := m.cells) ?_ 8).trans rfl
    rw [Below.heap_alloc _ _ _ (by rw [heap_size_alloc]; omega), Below.heap_alloc _ _ _ hlt]; exact h.at_
  have hk1 : m.code.n + 1 ≤ maxLen := by unfold maxLen; omega
  have hb1 : (m.code.n + 1) * 40 ≤ 140737488355328 := by omega
  have hBw : B ≤ w.heap.size := by have := h.hB; omega
  have hA : ∀ o o2, Below w.heap.size w (((w.alloc o).alloc o2).drew) := fun o o2 => (((Below.refl _ w).alloc (Nat.le_refl _) o).alloc (by rw [heap_size_alloc]; omega) o2).drew
  have HY := Lib.hid hy
  clear hy
  go_enter Tryd.func28, Tryd.ntmps28
  go_wp2
  go_region_law (first
    | (refine step_append_lies _ (by rfl) _ _ _ (by rfl) B 46 i0 _ 5 40 Tryd.underlying27 hi hz0 hz1 hz2 rfl (by omega) m.code.v m.code.n (insCells ys) (by rfl) (((h.ins.alloc _).alloc _).drew)
        ⟨w.heap.size + 1, 0, none⟩ 1 1 i.cells (by rfl) (by rfl) (World.news_of_block (cs := #[.int .u8 i.o, .int .i64 i.a, .int .i64 i.b, .int .i64 i.c, .int .i64 i.d]) (t := 46) (fr := (0, 0)) ((congrArg _ (hx1 _).symm).trans (heap_alloc_new (w.alloc _) _))) (by simp [Value.oneCell'])
        (by omega) hk1 hb1 (by simp; omega) (w.heap.size + 1 + 1) (by simp) ?_
       intro gg cap w2 hown1 hgrow hat hlt2
       have hm2 := (hgrow.block mb (Nat.lt_of_lt_of_le hlt (hA _ _).size) (Ne.symm h.code_ne)).trans ((h.below (hA _ _)).at_)
       have d3 := blk_cell hm2
       have g3 := blk_frozen hm2)
    | (trace_state; fail))
  all_goals go_wp2
  all_goals refine bodyPost_end (results_none rfl _ _ _) rfl ?_
  all_goals
    exact ⟨_, rfl, h.code (hA _ _) hy' hown1 hgrow (hat.imp id fun e => by omega)⟩
end Go.Proofs.YtkpaphoeldcakaaDoor.Gr
