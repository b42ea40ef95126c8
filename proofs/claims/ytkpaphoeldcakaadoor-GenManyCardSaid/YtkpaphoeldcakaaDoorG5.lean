/- GenMany, by hand: part G5. -/
import Derived.Test.YtkpaphoeldcakaaDoorG5a
namespace Go.Proofs.YtkpaphoeldcakaaDoor.Gm
open Go Go.Proofs Go.RowKit Go.Lib
set_option maxHeartbeats 40000000 in
set_option maxRecDepth 100000 in
theorem many_any (n : Int) (w : World) (hn : 0 ≤ n) (hn2 : n < 256) (hA : ∀ W, Below w.heap.size w W → Calls Tryd.prog 6 #[] W fun e w' => e = .returned (.bool true) ∧ w'.os = W.os ∧ w'.output = W.output ∧ ∀ i, i < W.heap.size → w'.heap[i]? = W.heap[i]?) :
    Calls Tryd.prog 4 #[.int .u8 n] w fun e w' => e = .returned (.bool true) ∧ w'.os = w.os ∧ w'.output = w.output ∧ ∀ i, i < w.heap.size → w'.heap[i]? = w.heap[i]? := by
  obtain ⟨q, hq, hq2⟩ : ∃ q : Nat, (n % 21) = (q : Int) ∧ q < 21 := ⟨(n % 21).toNat, by omega, by omega⟩
  have hP : ∀ W, Calls Tryd.prog 9 #[.int .i64 n, .int .i64 21] W fun e w' => e = .returned (.int .i64 q) ∧ W = w' := fun W => hq ▸ pick_any n 21 W hn (by omega) (by omega) (by omega)
  have HQ := Lib.hid hq
  clear hq
  go_enter Tryd.func4, Tryd.ntmps4
  go_wp2_with (first | (go_at_call 9; refine (hP _).mono ?_; rintro e w' ⟨rfl, rfl⟩))
  obtain ⟨M, hM⟩ : ∃ M : Nat, (990 + (q : Int)) = (M : Int) ∧ M = 990 + q := ⟨990 + q, by omega, rfl⟩
  rw [hM.1]
  have HM := Lib.hid hM
  have hM1 : 990 ≤ M := by omega
  have hM2 : M < 1011 := by omega
  clear hM
  go_loopg [17] (2 * M) (fun lft i wr => ∃ (j k : Nat) (a : Option Addr) (c : Nat), j + lft = 2 * M ∧ i = .int .i64 j ∧ k = min (min j M) 1000 ∧ wr.heap[w.heap.size]? = some (.cells (pc (.slice a k c)) 29) ∧ Owns wr (w.heap.size + 1) (.slice a k c) k ∧ Below w.heap.size w wr)
  case atStart =>
    refine ⟨0, 0, none, 0, by omega, rfl, by omega, heap_alloc_new w _, ⟨rfl, .inl ⟨rfl, rfl⟩⟩, (Below.refl _ _).alloc (Nat.le_refl _) _⟩
  case round =>
    obtain ⟨j, k, a, c, hj, rfl, hk, hp, ho, hb⟩ := hrel
    have c0 := blk_cell hp
    have f0 := blk_frozen hp
    have hlw : w.heap.size < wr.heap.size := (Array.getElem?_eq_some_iff.1 hp).1
    have hne : w.heap.size ≠ wr.heap.size := by omega
    by_cases hlt : j < 2 * M
    · obtain ⟨N, hN, hN2⟩ : ∃ N : Nat, ((j : Int) % (M : Int)) = (N : Int) ∧ N = j % M := ⟨j % M, by omega, rfl⟩
      have hNk : ((N : Int) ≤ k ∨ k = 1000) := by
        have h1 : j % M < M := Nat.mod_lt _ (by omega)
        by_cases hj : j < M
        · have : j % M = j := Nat.mod_eq_of_lt hj
          omega
        · omega
      have hC1 := const_any (w.heap.size + 1) k (.slice a k c) N wr.drew ho (by omega) (by omega) hNk
      have hC2 := const_any (w.heap.size + 1) k (.slice a k c) N (wr.alloc (.cells pz 29)).drew (ho.alloc _) (by omega) (by omega) hNk
      unfold pv at hC1 hC2
      obtain ⟨k2, hk2, hk3⟩ : ∃ k2 : Nat, nk (N : Int) k = k2 ∧ k2 = min (min (j + 1) M) 1000 := by
        refine ⟨_, rfl, ?_⟩
        have h1 : j % M < M := Nat.mod_lt _ (by omega)
        unfold nk
        by_cases hj : j < M
        · have : j % M = j := Nat.mod_eq_of_lt hj
          split <;> omega
        · split <;> omega
      rw [hk2] at hC1 hC2
      have HN := Lib.hid hN2
      have HK := Lib.hid hk
      have HK2 := Lib.hid hk2
      have HK3 := Lib.hid hk3
      clear hN2 hk hNk hk2 hk3
      go_upto_region 6 with (fail)
      go_cut [6, 7, 8] (fun s6 s7 s8 wx => ∃ g a2 c2, s6 = .pointer (some ⟨g, 0, none⟩) ∧ s7 = .int .i64 (nAt N) ∧ s8 = .int .i64 (nBad N) ∧ Made w.heap.size wr wx k2 g a2 c2)
      case first =>
        go_region_with (first
          | (go_at_call 10; refine hC1.mono ?_; rintro e w2 ⟨cv', rfl, ho2, hb2⟩; obtain ⟨a2, c2, rfl⟩ := owns_slice ho2; have hw2 : wr.heap.size ≤ w2.heap.size := hb2.size)
          | (go_at_call 10; refine hC2.mono ?_; rintro e w2 ⟨cv', rfl, ho2, hb2⟩; obtain ⟨a2, c2, rfl⟩ := owns_slice ho2
             have hsz : ((wr.alloc (.cells pz 29)).drew).heap.size = wr.heap.size + 1 := by
               show (wr.heap.push _).size = _
               simp
             have hz := (hb2.block wr.heap.size (by rw [hsz]; omega)).trans (heap_alloc_new wr (.cells pz 29))
             have c6 := blk_cell hz
             have f6 := blk_frozen hz))
        all_goals (go_wp2_with fail)
        all_goals go_meet
        all_goals first
          | (rw [hsz] at ho2 hb2; exact ⟨_, _, _, rfl, rfl, rfl, made_old hlw ho2 ⟨hb2.os, hb2.tape, hb2.output, hb2.size, hb2.block⟩⟩)
          | exact ⟨_, _, _, rfl, rfl, rfl, made_new hlw (owns_mono ho2 (Nat.le_refl _)) ⟨hb2.os, hb2.tape, hb2.output, hb2.size, hb2.block⟩⟩
      case rest =>
        obtain ⟨g, a2, c2, rfl, rfl, rfl, hm⟩ := hcut
        have hne2 := hm.ne
        have c7 := blk_cell hm.at_
        have f7 := blk_frozen hm.at_
        have hp2 := hm.old.trans hp
        have c8 := blk_cell hp2
        have f8 := blk_frozen hp2
        have hst9 := set9_at (v := .slice a2 k2 c2) hp2
        have hend : Owns (set9 wc w.heap.size (.slice a2 k2 c2)) (w.heap.size + 1) (.slice a2 k2 c2) k2 ∧ Below w.heap.size w (set9 wc w.heap.size (.slice a2 k2 c2)) :=
          ⟨owns_at hm.own hp2 fun i hi => set9_other hi, set9_below (hb.trans (hm.below.mono (by omega))) (Nat.le_refl _)⟩
        have HE := Lib.hid hend
        have HS := Lib.hid hst9
        have HMd := Lib.hid hm
        clear hend hst9 hm hp2 c0 f0 hp ho
        by_cases hf : N < 1000
        · have e1 : nAt (N : Int) = N := if_pos (by omega)
          have e2 : nBad (N : Int) = 0 := if_pos (by omega)
          have hd : ((1000 : Int) ≤ (N : Int)) = False := by simp; omega
          clear hf
          go_wp2
          go_roundg (gk - 1)
          case measure => omega
          case rel => exact ⟨j + 1, k2, a2, c2, by omega, by first | rfl | go_num, HK3.out, HS.out, HE.out.1, HE.out.2⟩
        · have e1 : nAt (N : Int) = 0 := if_neg (by omega)
          have e2 : nBad (N : Int) = 114 := if_neg (by omega)
          have hd : ((1000 : Int) ≤ (N : Int)) = True := by simp; omega
          have hk1000 : k2 = 1000 := by
            have h1 := HK3.out
            have h2 := HN.out
            have h3 : j % M ≤ j := Nat.mod_le _ _
            have h4 : j % M < M := Nat.mod_lt _ (by omega)
            omega
          subst hk1000
          clear hf
          go_wp2
          go_roundg (gk - 1)
          case measure => omega
          case rel => exact ⟨j + 1, 1000, a2, c2, by omega, by first | rfl | go_num, HK3.out, HS.out, HE.out.1, HE.out.2⟩
    · have hk' : (k : Int) = min (M : Int) 1000 := by omega
      have HK := Lib.hid hk
      clear hk
      go_wp2_with (first | (go_at_call 6; refine (hA _ hb).mono ?_; rintro e w2 ⟨rfl, ho2, hb2, hc2⟩))
      all_goals go_ret
      all_goals exact ⟨rfl, ho2.trans hb.os, hb2.trans hb.output, fun i hi => (hc2 i (Nat.lt_of_lt_of_le hi hb.size)).trans (hb.block i hi)⟩
end Go.Proofs.YtkpaphoeldcakaaDoor.Gm
