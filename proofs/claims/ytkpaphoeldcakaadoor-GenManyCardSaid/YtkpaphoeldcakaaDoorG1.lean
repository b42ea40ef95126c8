/- GenMany, by hand: part G1. -/
import Derived.Test.YtkpaphoeldcakaaDoorProg
import Derived.WalkKit
import Derived.Lib.Walk
import Derived.Deep.QuietTactic
import Derived.BigQuiet
import Derived.Lib.Hide
import Derived.Deep.LoopGhost
import Derived.Lib.SliceRun
import Derived.Laws.AppendOwn
import Derived.Shelf.SlicesE.Clone
import Derived.Laws.StructEq
import Derived.Shelf.SlicesE.Kit
namespace Go.Proofs.YtkpaphoeldcakaaDoor.Gm
open Go Go.Proofs Go.RowKit Go.Lib

def vInt (n : Int) : Value := .agg #[.int .u8 1, .int .i64 n, .string ⟨#[]⟩]
/-- The cells of the constants 0 .. k-1. -/
def At (w : World) (b : Nat) (k : Nat) : Prop := ∀ j, j < k → w.cell? ⟨b, j * 3, none⟩ = some (.int .u8 1) ∧ w.cell? ⟨b, j * 3 + 1, none⟩ = some (.int .i64 j) ∧ w.cell? ⟨b, j * 3 + 2, none⟩ = some (.string ⟨#[]⟩)

def idxR (N : Int) (k : Nat) : Int := if N < k then N else -1
theorem eqV (x y : Int) (w : World) : (binOp .eql 53 (.agg #[.int .u8 1, .int .i64 x, .string ⟨#[]⟩]) (.agg #[.int .u8 1, .int .i64 y, .string ⟨#[]⟩])).run Tryd.prog w = .ok (.bool (x == y)) w := by
  have hS : Tryd.prog.underlying 53 = some (.struct (Tryd.prog.fieldsOf 53)) := by kernel_rfl
  have hp : Tryd.prog.stoodInHeld 53 = false := by kernel_rfl
  rw [run_eql_struct, show (10000 : Nat) = 9999 + 1 from rfl, run_equalIn_agg w 9999 53 _ _ hS hp]
  simp only [Program.fieldsOf, Tryd.underlying53]
  go_simp
  by_cases h1 : x = y <;> simp [h1]
set_option maxHeartbeats 1000000 in
set_option maxRecDepth 100000 in
theorem index_any (b k cap : Nat) (N : Int) (w : World) (h : At w b k) (hk : k ≤ 1000) (_hc : k ≤ cap) (h0 : 0 ≤ N) :
    Calls Tryd.prog 34 #[.slice (some ⟨b, 0, none⟩) k cap, .agg #[.int .u8 1, .int .i64 N, .string ⟨#[]⟩]] w fun e w' => e = .returned (.int .i64 (idxR N k)) ∧ ∃ n, w' = (w.alloc (.cells #[.int .u8 1, .int .i64 N, .string ⟨#[]⟩] 53)).drewN n := by
  go_enter Tryd.func34, Tryd.ntmps34
  go_wp2
  go_loopw [5, 8] (fun _ i wr => ∃ kk n : Nat, kk ≤ k ∧ i = .int .i64 kk ∧ (kk : Int) ≤ N ∧ wr = (w.alloc (.cells #[.int .u8 1, .int .i64 N, .string ⟨#[]⟩] 53)).drewN n) (fun _ i _ => k - (RowKit.intOf i).toNat)
  case atStart => exact ⟨0, 0, by omega, rfl, by omega, rfl⟩
  case round =>
    obtain ⟨kk, n, hkk, rfl, hN, hwr⟩ := hrel
    by_cases hlt : kk < k
    · obtain ⟨c1, c2, c3⟩ := h kk hlt
      subst hwr
      have hblt : b < w.heap.size := World.block_lt_of_cell? _ _ c1
      have hne : b ≠ w.heap.size := by omega
      have hg : ∀ (op : BinOp) (a b : Operand) (w : World), (eqGuard op 53 a b (.agg #[.int .u8 1, .int .i64 N, .string ⟨#[]⟩]) (.agg #[.int .u8 1, .int .i64 (kk : Int), .string ⟨#[]⟩])).run Tryd.prog w = .ok () w := fun op a b w => run_eqGuard_agg w op 53 a b _ _ (by kernel_rfl)
      by_cases hNk : N = kk
      · have he : ∀ w : World, (binOp .eql 53 (.agg #[.int .u8 1, .int .i64 N, .string ⟨#[]⟩]) (.agg #[.int .u8 1, .int .i64 (kk : Int), .string ⟨#[]⟩])).run Tryd.prog w = .ok (.bool true) w := fun w => by rw [eqV, hNk]; simp
        have HN := Lib.hid hNk
        clear hNk
        go_wp2
        go_quiet (fail)
        go_wp2
        go_ret
        have hi : idxR N k = kk := by unfold idxR; rw [HN.out, if_pos (by omega)]
        exact ⟨by rw [hi]; rfl, _, by first | rfl | exact World.drewN_drewN _ _ _ | (simp [World.drewN_add]; rfl)⟩
      · have he : ∀ w : World, (binOp .eql 53 (.agg #[.int .u8 1, .int .i64 N, .string ⟨#[]⟩]) (.agg #[.int .u8 1, .int .i64 (kk : Int), .string ⟨#[]⟩])).run Tryd.prog w = .ok (.bool false) w := fun w => by rw [eqV]; simp [hNk]
        have hN2 : (kk : Int) + 1 ≤ N := by omega
        clear hNk
        go_wp2
        go_quiet (fail)
        go_wp2
        go_roundw
        case rel => exact ⟨kk + 1, _, by omega, by go_num, by omega, by first | rfl | exact World.drewN_drewN _ _ _⟩
        case measure => simp [RowKit.intOf]; omega
    · go_wp2
      subst hwr
      go_ret
      have hi : idxR N k = -1 := by unfold idxR; rw [if_neg (by omega)]
      exact ⟨by rw [hi]; rfl, _, by first | rfl | exact World.drewN_drewN _ _ _ | (simp [World.drewN_add]; rfl)⟩

def cellsK (k : Nat) : List Value := (List.range k).flatMap fun j : Nat => [.int .u8 1, .int .i64 (j : Int), .string ⟨#[]⟩]
theorem cellsK_len : ∀ k, (cellsK k).length = k * 3
  | 0 => rfl
  | k + 1 => by
    unfold cellsK
    rw [List.range_succ, List.flatMap_append, List.length_append]
    have := cellsK_len k
    unfold cellsK at this
    rw [this]
    simp; omega
theorem cellsK_succ (k : Nat) : cellsK (k + 1) = cellsK k ++ [.int .u8 1, .int .i64 k, .string ⟨#[]⟩] := by
  unfold cellsK
  rw [List.range_succ, List.flatMap_append]; simp
theorem cellsK_get : ∀ (k j : Nat), j < k → (cellsK k)[j * 3]? = some (.int .u8 1) ∧ (cellsK k)[j * 3 + 1]? = some (.int .i64 j) ∧ (cellsK k)[j * 3 + 2]? = some (.string ⟨#[]⟩)
  | k + 1, j, h => by
    rw [cellsK_succ]
    by_cases hj : j < k
    · have := cellsK_get k j hj
      have hl := cellsK_len k
      rw [List.getElem?_append_left (by omega), List.getElem?_append_left (by omega), List.getElem?_append_left (by omega)]
      exact this
    · obtain rfl : j = k := by omega
      have hl := cellsK_len j
      rw [List.getElem?_append_right (by omega), List.getElem?_append_right (by omega), List.getElem?_append_right (by omega), hl]
      simp [show j * 3 + 1 - j * 3 = 1 by omega, show j * 3 + 2 - j * 3 = 2 by omega]
theorem cellsK_one (k : Nat) : ∀ u ∈ cellsK k, u.oneCell' = true := by
  intro u hu
  unfold cellsK at hu
  obtain ⟨j, _, hj⟩ := List.mem_flatMap.1 hu
  simp at hj
  rcases hj with rfl | rfl | rfl <;> rfl

theorem info74 : (Tryd.prog.info? 53).map (fun i => (i.zero, i.size, i.bytes)) = some (some (.agg #[.int .u8 0, .int .i64 0, .string ⟨#[]⟩]), 3, 32) := by kernel_rfl
/-- A list of the constants 0 .. k-1, in memory from block B on. -/
abbrev Owns (w : World) (B : Nat) (cv : Value) (k : Nat) : Prop := w.ownsRow B 53 3 cv k (cellsK k)
theorem owns_cases {w : World} {B : Nat} {cv : Value} {k : Nat} (h : Owns w B cv k) : (cv = .slice none 0 0 ∧ k = 0) ∨ ∃ g cap, cv = .slice (some ⟨g, 0, none⟩) k cap ∧ B ≤ g ∧ g < w.heap.size ∧ k ≤ cap ∧ (∀ j u, (cellsK k)[j]? = some u → w.cell? ⟨g, j, none⟩ = some u) := by
  obtain ⟨_, h | ⟨g, cap, cur, h1, h2, h3, h4, h5, h6, h7⟩⟩ := h
  · exact .inl h
  · refine .inr ⟨g, cap, h1, h2, (Array.getElem?_eq_some_iff.1 h3).1, h4, fun j u hj => ?_⟩
    simp only [World.cell?, h3]
    rw [← h7, List.getElem?_take] at hj
    split at hj
    · simpa using hj
    · cases hj
theorem at_of {w : World} {g k : Nat} (h : ∀ j u, (cellsK k)[j]? = some u → w.cell? ⟨g, j, none⟩ = some u) : At w g k := fun j hj =>
  let ⟨a, b, c⟩ := cellsK_get k j hj
  ⟨h _ _ a, h _ _ b, h _ _ c⟩

set_option maxHeartbeats 1000000 in
set_option maxRecDepth 100000 in
theorem clone_any (B k : Nat) (cv : Value) (w : World) (h : Owns w B cv k) (hk : k ≤ 1000) :
    Calls Tryd.prog 24 #[cv] w fun e w' => ∃ v', e = .returned v' ∧ Owns w' w.heap.size v' k ∧ Below w.heap.size w w' := by
  rcases owns_cases h with ⟨rfl, rfl⟩ | ⟨g, cap, rfl, hB, hg, hkc, hc⟩
  · have q22 : ∀ (w : World) (a : Option Addr) (n c n' c' : Nat), (binOp .eql 23 (.slice a n c) (.slice none n' c')).run Tryd.prog w = .ok (.bool a.isNone) w := fun w a n c n' c' => Lib.run_eql_slice_nil w _ _ a n c n' c' Tryd.underlying23
    go_enter Tryd.func24, Tryd.ntmps24
    go_wp2
    go_ret
    exact ⟨_, rfl, ⟨rfl, .inl ⟨rfl, rfl⟩⟩, Below.refl _ _⟩
  · have q22 : ∀ (w : World) (a : Option Addr) (n c n' c' : Nat), (binOp .eql 23 (.slice a n c) (.slice none n' c')).run Tryd.prog w = .ok (.bool a.isNone) w := fun w a n c n' c' => Lib.run_eql_slice_nil w _ _ a n c n' c' Tryd.underlying23
    have hl := cellsK_len k
    obtain ⟨i0, hi, hz0, hz1, hz2⟩ := info_parts info74
    have A : Aside (∀ j u, (cellsK k)[j]? = some u → w.cell? ⟨g, j, none⟩ = some u) := hc
    have HL := Lib.hid hl
    clear hc h hl
    go_enter Tryd.func24, Tryd.ntmps24
    go_wp2_with (at_builtin; refine wpList_append_own _ rfl _ _ 23 rfl w.heap.size 53 i0 (.agg #[.int .u8 0, .int .i64 0, .string ⟨#[]⟩]) 3 32 Tryd.underlying23 hi hz0 hz1 hz2 rfl (by decide) _ _ _ rfl (World.ownsRow_made w #[] 0 (Nat.le_refl _) (Nat.zero_le _) (by simp)) ⟨g, 0, none⟩ k cap (cellsK k) rfl ?qc1 ?qc2 ?qc3 ?qc4 ?qc5 ?qc6 ?_)
    case qc1 => exact HL.out
    case qc2 =>
      intro j u hj
      rw [Addr.add_lit, Nat.zero_add]
      exact Lib.cell?_alloc_some _ (A.out j u hj)
    case qc3 => exact cellsK_one k
    case qc4 => rw [Nat.zero_add]; unfold maxLen; omega
    case qc5 => rw [Nat.zero_add]; omega
    case qc6 => simp
    intro v' w1 hown hgrow hnil
    go_wp2
    go_ret
    refine ⟨v', rfl, by simpa using hown, ?_⟩
    exact ((Below.refl _ w).alloc (Nat.le_refl _) _).grown hgrow (by simp) (by intro k hk; simp [Value.ownBlock] at hk; omega)

set_option maxHeartbeats 1000000 in
set_option maxRecDepth 100000 in
theorem right_any (N : Int) (w : World) : Calls Tryd.prog 18 #[.agg #[.int .u8 1, .int .i64 N, .string ⟨#[]⟩]] w fun e w' => e = .returned (.bool true) ∧ Below w.heap.size w w' := by
  go_enter Tryd.func18, Tryd.ntmps18
  go_wp2
  go_ret
  exact ⟨rfl, (Below.refl _ _).alloc (Nat.le_refl _) _⟩

set_option maxHeartbeats 1000000 in
set_option maxRecDepth 100000 in
theorem instr_nil (w : World) : Calls Tryd.prog 25 #[.slice none 0 0] w fun e w' => e = .returned (.slice none 0 0) ∧ w = w' := by
  have q22 : ∀ (w : World) (a : Option Addr) (n c n' c' : Nat), (binOp .eql 27 (.slice a n c) (.slice none n' c')).run Tryd.prog w = .ok (.bool a.isNone) w := fun w a n c n' c' => Lib.run_eql_slice_nil w _ _ a n c n' c' Tryd.underlying27
  go_enter Tryd.func25, Tryd.ntmps25
  go_wp2
  go_ret
  exact ⟨rfl, rfl⟩

def pv (cv : Value) : Value := .agg #[.int .i64 1, .int .i64 1, .int .i64 0, .slice none 0 0, cv, .slice none 0 0, .slice none 0 0, .slice none 0 0, .slice none 0 0]

end Go.Proofs.YtkpaphoeldcakaaDoor.Gm
