/- GenReads, by hand: part H3. -/
import Derived.Test.YtkpaphoeldcakaaDoorH2
namespace Go.Proofs.YtkpaphoeldcakaaDoor.Gr
open Go Go.Proofs Go.RowKit Go.Lib
set_option maxHeartbeats 1000000 in
set_option maxRecDepth 100000 in
theorem put_full (mb B : Nat) (m : Mk) (xs : List Con) (ys : List Ins) (i : Ins) (w : World) (h : MkAt w mb B m xs ys) (hr : 3999 ≤ m.code.n) :
    Calls Tryd.prog 28 #[mp mb, i.v] w fun e w' => e = .returned (.tuple #[]) ∧ MkAt w' mb B m.failed xs ys ∧ Fr w w' (m.has mb) (m.failed.has mb) := by
  have c1 := blk_cell h.at_
  have hlt : mb < w.heap.size := h.has_lt (.inl rfl)
  have hne : mb ≠ w.heap.size := by omega
  have hd : ((3999 : Int) ≤ (m.code.n : Int)) = True := by simp; omega
  have hb : ∀ o, Below w.heap.size w (w.alloc o) := fun o => (Below.refl _ w).alloc (Nat.le_refl _) o
  go_enter Tryd.func28, Tryd.ntmps28
  go_wp2_with (first | (go_at_call 35; refine (fail_any mb B m xs ys _ (h.below (hb _))).mono ?_; rintro e w2 ⟨rfl, h2⟩))
  refine bodyPost_ret (results_none rfl _ _ _) rfl ?_
  exact ⟨rfl, h2.1, (Fr.of_below (hb _) (Nat.le_refl _)).trans h2.2⟩

/-- What putting an instruction does. -/
def Put (m : Mk) (ys : List Ins) (i : Ins) (m' : Mk) (ys' : List Ins) : Prop := (m' = m.failed ∧ ys' = ys) ∨ (∃ s, m' = { m with code := s } ∧ ys' = ys ++ [i])
theorem put_any (mb B : Nat) (m : Mk) (xs : List Con) (ys : List Ins) (i : Ins) (w : World) (h : MkAt w mb B m xs ys) :
    Calls Tryd.prog 28 #[mp mb, i.v] w fun e w' => e = .returned (.tuple #[]) ∧ ∃ m' ys', Put m ys i m' ys' ∧ MkAt w' mb B m' xs ys' ∧ Fr w w' (m.has mb) (m'.has mb) := by
  by_cases hr : m.code.n < 3999
  · refine (put_room mb B m xs ys i w h hr).mono ?_
    rintro e w' ⟨s, rfl, a, b⟩
    exact ⟨rfl, _, _, .inr ⟨s, rfl, rfl⟩, a, b⟩
  · refine (put_full mb B m xs ys i w h (by omega)).mono ?_
    rintro e w' ⟨rfl, a, b⟩
    exact ⟨rfl, _, _, .inl ⟨rfl, rfl⟩, a, b⟩

/-! ### The constants -/
/-- The constants' cells, from address g on. -/
def ConAt (w : World) (g : Nat) (xs : List Con) : Prop := ∀ (j : Nat) (x : Con), xs[j]? = some x → w.cell? ⟨g, j * 3, none⟩ = some (.int .u8 x.k) ∧ w.cell? ⟨g, j * 3 + 1, none⟩ = some (.int .i64 x.n) ∧ w.cell? ⟨g, j * 3 + 2, none⟩ = some (.string x.s)
theorem con_at {w : World} {B n : Nat} {v : Value} {xs : List Con} (h : w.ownsRow B 53 3 v n (conCells xs)) (hn : n = xs.length) : (v = .slice none 0 0 ∧ xs = []) ∨ ∃ g cap, v = .slice (some ⟨g, 0, none⟩) xs.length cap ∧ xs.length ≤ cap ∧ g < w.heap.size ∧ ConAt w g xs := by
  obtain ⟨_, ⟨h1, h2⟩ | ⟨g, cap, cur, h1, h2, h3, h4, h5, h6, h7⟩⟩ := h
  · exact .inl ⟨h1, List.length_eq_zero_iff.1 (hn ▸ h2)⟩
  · refine .inr ⟨g, cap, hn ▸ h1, hn ▸ h4, (Array.getElem?_eq_some_iff.1 h3).1, fun j x hx => ?_⟩
    have hc : ∀ q u, (conCells xs)[q]? = some u → w.cell? ⟨g, q, none⟩ = some u := fun q u hq => by
      simp only [World.cell?, h3]
      rw [← h7, List.getElem?_take] at hq
      split at hq
      · simpa using hq
      · cases hq
    refine ⟨hc _ _ ?_, hc _ _ ?_, hc _ _ ?_⟩
    · exact (flat_get Con.cells 3 (fun _ => rfl) xs j 0 x hx (by omega)).trans rfl
    · exact (flat_get Con.cells 3 (fun _ => rfl) xs j 1 x hx (by omega)).trans rfl
    · exact (flat_get Con.cells 3 (fun _ => rfl) xs j 2 x hx (by omega)).trans rfl
theorem eqV (x y : Con) : ∃ b : Bool, ∀ w : World, (binOp .eql 53 x.v y.v).run Tryd.prog w = .ok (.bool b) w := by
  refine ⟨x.k == y.k && (x.n == y.n && decide (x.s.toList = y.s.toList)), fun w => ?_⟩
  have hS : Tryd.prog.underlying 53 = some (.struct (Tryd.prog.fieldsOf 53)) := by kernel_rfl
  have hp : Tryd.prog.stoodInHeld 53 = false := by kernel_rfl
  rw [run_eql_struct, show (10000 : Nat) = 9999 + 1 from rfl, run_equalIn_agg w 9999 53 _ _ hS hp]
  simp only [Program.fieldsOf, Tryd.underlying53]
  go_simp
  by_cases h1 : x.k = y.k <;> by_cases h2 : x.n = y.n <;> by_cases h3 : x.s.toList = y.s.toList <;> simp [h1, h2, h3]
set_option maxHeartbeats 1000000 in
set_option maxRecDepth 100000 in
theorem index_row (b cap : Nat) (xs : List Con) (v : Con) (w : World) (h : ConAt w b xs) (hk : xs.length ≤ 1100) (_hc : xs.length ≤ cap) :
    Calls Tryd.prog 34 #[.slice (some ⟨b, 0, none⟩) xs.length cap, v.v] w fun e w' => (∃ r : Int, e = .returned (.int .i64 r) ∧ -1 ≤ r) ∧ ∃ n, w' = (w.alloc (.cells #[.int .u8 v.k, .int .i64 v.n, .string v.s] 53)).drewN n := by
  have hlen : ∀ j, j < xs.length → ∃ x, xs[j]? = some x := fun j hj => ⟨_, List.getElem?_eq_getElem hj⟩
  generalize hL : xs.length = L at *
  go_enter Tryd.func34, Tryd.ntmps34
  go_wp2
  go_loopw [5, 8] (fun _ i wr => ∃ kk n : Nat, kk ≤ L ∧ i = .int .i64 kk ∧ wr = (w.alloc (.cells #[.int .u8 v.k, .int .i64 v.n, .string v.s] 53)).drewN n) (fun _ i _ => L - (RowKit.intOf i).toNat)
  case atStart => exact ⟨0, 0, by omega, rfl, rfl⟩
  case round =>
    obtain ⟨kk, n, hkk, rfl, hwr⟩ := hrel
    by_cases hlt : kk < L
    · obtain ⟨x, hx⟩ := hlen kk hlt
      obtain ⟨c1, c2, c3⟩ := h kk x hx
      subst hwr
      have hblt : b < w.heap.size := World.block_lt_of_cell? _ _ c1
      have hne : b ≠ w.heap.size := by omega
      have hg : ∀ (op : BinOp) (a b : Operand) (w : World), (eqGuard op 53 a b v.v x.v).run Tryd.prog w = .ok () w := fun op a b w => run_eqGuard_agg w op 53 a b _ _ (by kernel_rfl)
      obtain ⟨q, he⟩ := eqV v x
      cases q
      · go_wp2
        go_quiet (fail)
        go_wp2
        go_roundw
        case rel => exact ⟨kk + 1, _, by omega, by go_num, by first | rfl | exact World.drewN_drewN _ _ _⟩
        case measure => simp [RowKit.intOf]; omega
      · go_wp2
        go_quiet (fail)
        go_wp2
        go_ret
        exact ⟨⟨_, rfl, by omega⟩, _, by first | rfl | exact World.drewN_drewN _ _ _ | (simp [World.drewN_add]; rfl)⟩
    · go_wp2
      subst hwr
      go_ret
      exact ⟨⟨_, rfl, by omega⟩, _, by first | rfl | exact World.drewN_drewN _ _ _ | (simp [World.drewN_add]; rfl)⟩
set_option maxHeartbeats 1000000 in
set_option maxRecDepth 100000 in
theorem index_nil (v : Con) (w : World) :
    Calls Tryd.prog 34 #[.slice none 0 0, v.v] w fun e w' => (∃ r : Int, e = .returned (.int .i64 r) ∧ -1 ≤ r) ∧ ∃ n, w' = (w.alloc (.cells #[.int .u8 v.k, .int .i64 v.n, .string v.s] 53)).drewN n := by
  go_enter Tryd.func34, Tryd.ntmps34
  go_wp2
  go_loopw [5, 8] (fun _ i wr => ∃ n : Nat, i = .int .i64 0 ∧ wr = (w.alloc (.cells #[.int .u8 v.k, .int .i64 v.n, .string v.s] 53)).drewN n) (fun _ i _ => 0)
  case atStart => exact ⟨0, rfl, rfl⟩
  case round =>
    obtain ⟨n, rfl, hwr⟩ := hrel
    go_wp2
    subst hwr
    go_ret
    exact ⟨⟨_, rfl, by omega⟩, _, by first | rfl | exact World.drewN_drewN _ _ _ | (simp [World.drewN_add]; rfl)⟩
theorem below_drewN {B : Nat} {a w : World} (h : Below B a w) : ∀ n, Below B a (w.drewN n)
  | 0 => h
  | n + 1 => by rw [show w.drewN (n + 1) = (w.drewN n).drew from rfl]; exact (below_drewN h n).drew
/-- The search: it changes nothing that was there. -/
theorem index_all (B : Nat) (cv : Value) (n : Nat) (xs : List Con) (v : Con) (w : World) (h : w.ownsRow B 53 3 cv n (conCells xs)) (hn : n = xs.length) (hk : xs.length ≤ 1100) :
    Calls Tryd.prog 34 #[cv, v.v] w fun e w' => (∃ r : Int, e = .returned (.int .i64 r) ∧ -1 ≤ r) ∧ Below w.heap.size w w' := by
  have hb : ∀ o n, Below w.heap.size w ((w.alloc o).drewN n) := fun o n => below_drewN ((Below.refl _ w).alloc (Nat.le_refl _) o) n
  rcases con_at h hn with ⟨rfl, rfl⟩ | ⟨g, cap, rfl, hc, hg, hat⟩
  · refine (index_nil v w).mono ?_
    rintro e w' ⟨h1, n, rfl⟩
    exact ⟨h1, hb _ _⟩
  · refine (index_row g cap xs v w hat hk hc).mono ?_
    rintro e w' ⟨h1, n, rfl⟩
    exact ⟨h1, hb _ _⟩

/-- The list of constants has grown by one. -/
theorem MkAt.cons {w w1 w2 : World} {mb B gg cap : Nat} {m : Mk} {xs : List Con} {ys : List Ins} {i : Con} (h : MkAt w mb B m xs ys) (hb : Below w.heap.size w w1) (hy : xs.length < 1100)
    (hown : w2.ownsRow B 53 3 (.slice (some ⟨gg, 0, none⟩) (m.cons.n + 1) cap) (m.cons.n + 1) (conCells xs ++ i.cells)) (hg : w1.grownBy w2 m.cons.v.ownBlock) (hat : m.cons.v.ownBlock = some gg ∨ w.heap.size ≤ gg) :
    MkAt (w2.setCell ⟨mb, 4, none⟩ (.slice (some ⟨gg, 0, none⟩) (m.cons.n + 1) cap)) mb B { m with cons := ⟨some ⟨gg, 0, none⟩, m.cons.n + 1, cap⟩ } (xs ++ [i]) ys ∧
      Fr w (w2.setCell ⟨mb, 4, none⟩ (.slice (some ⟨gg, 0, none⟩) (m.cons.n + 1) cap)) (m.has mb) (({ m with cons := ⟨some ⟨gg, 0, none⟩, m.cons.n + 1, cap⟩ } : Mk).has mb) := by
  have h1 := h.below hb
  have hlt : mb < w.heap.size := h.has_lt (.inl rfl)
  have hm2 := (hg.block mb (Nat.lt_of_lt_of_le hlt hb.size) (Ne.symm h.cons_ne)).trans h1.at_
  rw [← conCells_snoc] at hown
  have hins2 : w2.ownsRow B 46 5 m.code.v m.code.n (insCells ys) := owns_same h1.ins fun i hi => hg.block i (h1.has_lt (.inr (.inr hi))) (fun e => h1.two_ne e.symm hi)
  have hbl : ∀ k, k ≠ mb → ((w2.setCell ⟨mb, 4, none⟩ (.slice (some ⟨gg, 0, none⟩) (m.cons.n + 1) cap))).heap[k]? = w2.heap[k]? := fun k hk => heap_setCell_other _ _ _ _ hk
  refine ⟨⟨(heap_setCell_same _ _ _ _ _ _ hm2).trans rfl, owns_same hown fun i hi => hbl i ?_, owns_same hins2 fun i hi => hbl i (fun e => h.code_ne (e ▸ hi)), h.hB, by simp [h.hx], h.hy, by simp; omega, h.hy2⟩, ?_, ?_, ?_, ?_, ?_⟩
  · rintro rfl
    have e : gg = i := by simpa [Value.ownBlock] using hi
    subst e
    obtain ⟨_, cur, hgg⟩ := owns_block hown rfl
    rw [hm2] at hgg; injection hgg with hgg; injection hgg with _ hgg; cases hgg
  · exact hg.os.trans hb.os
  · exact hg.output.trans hb.output
  · exact Nat.le_trans hb.size (Nat.le_trans hg.size (by simp [World.setCell]))
  · intro k hk hn
    rw [hbl k (fun e => hn (.inl e)), hg.block k (Nat.lt_of_lt_of_le hk hb.size) (fun e => hn (.inr (.inl e.symm))), hb.block k hk]
  · rintro k (rfl | hk | hk)
    · exact .inl (.inl rfl)
    · have e : gg = k := by simpa [Value.ownBlock] using hk
      subst e
      exact hat.imp (fun e => .inr (.inl e)) id
    · exact .inl (.inr (.inr hk))
end Go.Proofs.YtkpaphoeldcakaaDoor.Gr
