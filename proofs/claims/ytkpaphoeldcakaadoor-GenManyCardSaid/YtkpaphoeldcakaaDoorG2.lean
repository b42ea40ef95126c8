/- GenMany, by hand: part G2. -/
import Derived.Test.YtkpaphoeldcakaaDoorG1
import Derived.Deep.RegionWith
import Derived.Deep.DrawnRows
import Derived.StillTailTactics
namespace Go.Proofs.YtkpaphoeldcakaaDoor.Gm
open Go Go.Proofs Go.RowKit Go.Lib
theorem owns_kept {w w' : World} {B : Nat} {cv : Value} {k : Nat} (h : Owns w B cv k) (hb : Below w.heap.size w w') : Owns w' B cv k := by
  refine ⟨h.1, ?_⟩
  rcases h.2 with hn | ⟨g, cap, cur, hv, hB, hg, rest⟩
  · exact .inl hn
  · exact .inr ⟨g, cap, cur, hv, hB, (hb.block g (Array.getElem?_eq_some_iff.1 hg).1).trans hg, rest⟩

theorem owns_mono {w : World} {B B' : Nat} {cv : Value} {k : Nat} (h : Owns w B cv k) (hb : B' ≤ B) : Owns w B' cv k :=
  ⟨h.1, h.2.imp id fun ⟨g, cap, cur, a, b, r⟩ => ⟨g, cap, cur, a, Nat.le_trans hb b, r⟩⟩
theorem owns_slice {w : World} {B : Nat} {cv : Value} {k : Nat} (h : Owns w B cv k) : ∃ a c, cv = .slice a k c := by
  rcases owns_cases h with ⟨rfl, rfl⟩ | ⟨g, cap, rfl, _⟩ <;> exact ⟨_, _, rfl⟩
theorem blk_cell {w : World} {b : Nat} {vals : Array Value} {t : TypeId} (h : w.heap[b]? = some (.cells vals t (0, 0))) : ∀ j, w.cell? ⟨b, j, none⟩ = vals[j]? := by
  intro j; simp [World.cell?, h]
theorem blk_frozen {w : World} {b : Nat} {vals : Array Value} {t : TypeId} (h : w.heap[b]? = some (.cells vals t (0, 0))) : ∀ j, w.frozen? ⟨b, j, none⟩ = false := by
  intro j; simp [World.frozen?, h]
/-- The cells of a Prog whose constants are cv. -/
abbrev pc (cv : Value) : Array Value := #[.int .i64 1, .int .i64 1, .int .i64 0, .slice none 0 0, cv, .slice none 0 0, .slice none 0 0, .slice none 0 0, .slice none 0 0]
abbrev pz : Array Value := #[.int .i64 0, .int .i64 0, .int .i64 0, .slice none 0 0, .slice none 0 0, .slice none 0 0, .slice none 0 0, .slice none 0 0, .slice none 0 0]
attribute [local go_sem ↓] Go.wp_at_zero Go.wp_at_succ
set_option maxHeartbeats 1000000 in
set_option maxRecDepth 100000 in
theorem own_any (B k : Nat) (cv : Value) (w : World) (h : Owns w B cv k) (hk : k ≤ 1000) :
    Calls Tryd.prog 15 #[pv cv] w fun e w' => ∃ v', e = .returned (pv v') ∧ Owns w' w.heap.size v' k ∧ Below w.heap.size w w' := by
  have hC : Calls Tryd.prog 24 #[cv] ((w.alloc (.cells (pc cv) 29)).alloc (.cells pz 29)).drew fun e w' => ∃ a c, e = .returned (.slice a k c) ∧ (Owns w' (w.heap.size + 2) (.slice a k c) k ∧ Below (w.heap.size + 2) ((w.alloc (.cells (pc cv) 29)).alloc (.cells pz 29)).drew w') ∧ (∀ j, w'.cell? ⟨w.heap.size, j, none⟩ = (pc cv)[j]?) ∧ (∀ j, w'.frozen? ⟨w.heap.size, j, none⟩ = false) ∧ (∀ j, w'.cell? ⟨w.heap.size + 1, j, none⟩ = pz[j]?) ∧ (∀ j, w'.frozen? ⟨w.heap.size + 1, j, none⟩ = false) := by
    refine (clone_any B k cv _ (((h.alloc _).alloc _).drew) hk).mono ?_
    rintro e w' ⟨v', rfl, ho, hb⟩
    obtain ⟨a, c, rfl⟩ := owns_slice ho
    have hs : (((w.alloc (.cells (pc cv) 29)).alloc (.cells pz 29)).drew).heap.size = w.heap.size + 2 := by
      show ((w.heap.push _).push _).size = _
      simp
    rw [hs] at ho hb
    have h1 : w'.heap[w.heap.size]? = some (.cells (pc cv) 29) := by
      rw [hb.block _ (by omega)]; show ((w.heap.push _).push _)[_]? = _; rw [Array.getElem?_push]; simp
    have h2 : w'.heap[w.heap.size + 1]? = some (.cells pz 29) := by
      rw [hb.block _ (by omega)]; show ((w.heap.push _).push _)[_]? = _; rw [Array.getElem?_push]; simp
    exact ⟨a, c, rfl, ⟨ho, hb⟩, blk_cell h1, blk_frozen h1, blk_cell h2, blk_frozen h2⟩
  unfold pv
  go_enter Tryd.func15, Tryd.ntmps15
  go_wp2
  go_region_with (first | (go_at_call 24; refine hC.mono ?_; rintro e w1 ⟨a, c, rfl, HO, c1, f1, c2, f2⟩) | (go_at_call 25; refine (instr_nil _).mono ?_; rintro e w2 ⟨rfl, rfl⟩))
  all_goals go_wp2
  all_goals
    obtain ⟨ho, hb⟩ := HO
    refine bodyPost_ret (v := pv (.slice a k c)) (by simp [results, Tryd.results15, go_sem, c2, pv]) rfl ⟨_, rfl, ?_, ?_⟩
    · refine owns_mono (B := w.heap.size + 2) ?_ (by omega)
      repeat (refine ownsRow_setCell_below ?_ (by simp) _)
      exact ho
    · repeat (first | refine Below.setCell ?_ (by simp) _)
      exact ((((Below.refl _ w).alloc (Nat.le_refl _) _).alloc (by simp) _).drew).trans (hb.mono (by omega))
end Go.Proofs.YtkpaphoeldcakaaDoor.Gm
