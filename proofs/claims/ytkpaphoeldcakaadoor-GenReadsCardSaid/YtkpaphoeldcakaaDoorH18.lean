/- GenReads, by hand: part H18. -/
import Derived.Test.YtkpaphoeldcakaaDoorH17
namespace Go.Proofs.YtkpaphoeldcakaaDoor.Gr
open Go Go.Proofs Go.RowKit Go.Lib
/-- A list as it was handed in: its cells. -/
def RowAt (w : World) (s : Sl) (L : List Value) : Prop := (s.a = none ∧ s.n = 0 ∧ s.c = 0 ∧ L = []) ∨ ∃ A, s.a = some A ∧ (L ≠ [] → A.block < w.heap.size) ∧ ∀ j u, L[j]? = some u → w.cell? (A.add j) = some u
theorem RowAt.on {w w' : World} {B : Nat} {s : Sl} {L : List Value} (h : RowAt w s L) (hb : Below B w w') (hB : w.heap.size ≤ B) : RowAt w' s L := by
  rcases h with h | ⟨A, h1, h2, h3⟩
  · exact .inl h
  · refine .inr ⟨A, h1, fun hl => Nat.lt_of_lt_of_le (h2 hl) hb.size, fun j u hj => ?_⟩
    have h2 := h2 (by rintro rfl; simp at hj)
    have hbl : (A.add j).block = A.block := by unfold Addr.add; split <;> rfl
    exact (hb.cell (by rw [hbl]; omega)).trans (h3 j u hj)
set_option maxHeartbeats 1000000 in
set_option maxRecDepth 100000 in
theorem clone_con (xs : List Con) (s : Sl) (w : World) (h : RowAt w s (conCells xs)) (hn : s.n = xs.length) (hk : xs.length ≤ 1100) :
    Calls Tryd.prog 24 #[s.v] w fun e w' => ∃ v', e = .returned v' ∧ w'.ownsRow w.heap.size 53 3 v' s.n (conCells xs) ∧ Below w.heap.size w w' := by
  obtain ⟨a, n, c⟩ := s
  simp only at hn
  rcases h with ⟨rfl, rfl, rfl, hl⟩ | ⟨A, rfl, hA, hc⟩
  · have q22 : ∀ (w : World) (a : Option Addr) (n c n' c' : Nat), (binOp .eql 23 (.slice a n c) (.slice none n' c')).run Tryd.prog w = .ok (.bool a.isNone) w := fun w a n c n' c' => Lib.run_eql_slice_nil w _ _ a n c n' c' Tryd.underlying23
    have HL := Lib.hid hl
    clear hl
    go_enter Tryd.func24, Tryd.ntmps24
    go_wp2
    go_ret
    exact ⟨_, rfl, ⟨by rw [HL.out]; rfl, .inl ⟨rfl, rfl⟩⟩, Below.refl _ _⟩
  · have q22 : ∀ (w : World) (a : Option Addr) (n c n' c' : Nat), (binOp .eql 23 (.slice a n c) (.slice none n' c')).run Tryd.prog w = .ok (.bool a.isNone) w := fun w a n c n' c' => Lib.run_eql_slice_nil w _ _ a n c n' c' Tryd.underlying23
    have hl := conCells_len xs
    rw [← hn] at hl hk
    obtain ⟨i0, hi, hz0, hz1, hz2⟩ := info_parts info74
    have A1 : Aside (∀ j u, (conCells xs)[j]? = some u → w.cell? (A.add j) = some u) := hc
    have HL := Lib.hid hl
    clear hc hl hn
    go_enter Tryd.func24, Tryd.ntmps24
    go_wp2_with (at_builtin; refine wpList_append_own _ rfl _ _ 23 rfl w.heap.size 53 i0 (.agg #[.int .u8 0, .int .i64 0, .string ⟨#[]⟩]) 3 32 Tryd.underlying23 hi hz0 hz1 hz2 rfl (by decide) _ _ _ rfl (World.ownsRow_made w #[] 0 (Nat.le_refl _) (Nat.zero_le _) (by simp)) A n c (conCells xs) rfl ?qc1 ?qc2 ?qc3 ?qc4 ?qc5 ?qc6 ?_)
    case qc1 => exact HL.out
    case qc2 =>
      intro j u hj
      exact Lib.cell?_alloc_some _ (A1.out j u hj)
    case qc3 => exact conCells_one xs
    case qc4 => rw [Nat.zero_add]; unfold maxLen; omega
    case qc5 => rw [Nat.zero_add]; omega
    case qc6 => simp
    intro v' w1 hown hgrow hnil
    go_wp2
    go_ret
    refine ⟨v', rfl, by simpa using hown, ?_⟩
    exact ((Below.refl _ w).alloc (Nat.le_refl _) _).grown hgrow (by simp) (by intro k hk; simp [Value.ownBlock] at hk; omega)
set_option maxHeartbeats 1000000 in
set_option maxRecDepth 100000 in
theorem clone_ins (ys : List Ins) (s : Sl) (w : World) (h : RowAt w s (insCells ys)) (hn : s.n = ys.length) (hk : ys.length ≤ 5000) :
    Calls Tryd.prog 25 #[s.v] w fun e w' => ∃ v', e = .returned v' ∧ w'.ownsRow w.heap.size 46 5 v' s.n (insCells ys) ∧ Below w.heap.size w w' := by
  obtain ⟨a, n, c⟩ := s
  simp only at hn
  rcases h with ⟨rfl, rfl, rfl, hl⟩ | ⟨A, rfl, hA, hc⟩
  · have q22 : ∀ (w : World) (a : Option Addr) (n c n' c' : Nat), (binOp .eql 27 (.slice a n c) (.slice none n' c')).run Tryd.prog w = .ok (.bool a.isNone) w := fun w a n c n' c' => Lib.run_eql_slice_nil w _ _ a n c n' c' Tryd.underlying27
    have HL := Lib.hid hl
    clear hl
    go_enter Tryd.func25, Tryd.ntmps25
    go_wp2
    go_ret
    exact ⟨_, rfl, ⟨by rw [HL.out]; rfl, .inl ⟨rfl, rfl⟩⟩, Below.refl _ _⟩
  · have q22 : ∀ (w : World) (a : Option Addr) (n c n' c' : Nat), (binOp .eql 27 (.slice a n c) (.slice none n' c')).run Tryd.prog w = .ok (.bool a.isNone) w := fun w a n c n' c' => Lib.run_eql_slice_nil w _ _ a n c n' c' Tryd.underlying27
    have hl := insCells_len ys
    rw [← hn] at hl hk
    obtain ⟨i0, hi, hz0, hz1, hz2⟩ := info_parts info142
    have A1 : Aside (∀ j u, (insCells ys)[j]? = some u → w.cell? (A.add j) = some u) := hc
    have HL := Lib.hid hl
    clear hc hl hn
    go_enter Tryd.func25, Tryd.ntmps25
    go_wp2_with (at_builtin; refine wpList_append_own _ rfl _ _ 27 rfl w.heap.size 46 i0 (.agg #[.int .u8 0, .int .i64 0, .int .i64 0, .int .i64 0, .int .i64 0]) 5 40 Tryd.underlying27 hi hz0 hz1 hz2 rfl (by decide) _ _ _ rfl (World.ownsRow_made w #[] 0 (Nat.le_refl _) (Nat.zero_le _) (by simp)) A n c (insCells ys) rfl ?qc1 ?qc2 ?qc3 ?qc4 ?qc5 ?qc6 ?_)
    case qc1 => exact HL.out
    case qc2 =>
      intro j u hj
      exact Lib.cell?_alloc_some _ (A1.out j u hj)
    case qc3 => exact insCells_one ys
    case qc4 => rw [Nat.zero_add]; unfold maxLen; omega
    case qc5 => rw [Nat.zero_add]; omega
    case qc6 => simp
    intro v' w1 hown hgrow hnil
    go_wp2
    go_ret
    refine ⟨v', rfl, by simpa using hown, ?_⟩
    exact ((Below.refl _ w).alloc (Nat.le_refl _) _).grown hgrow (by simp) (by intro k hk; simp [Value.ownBlock] at hk; omega)
end Go.Proofs.YtkpaphoeldcakaaDoor.Gr
