/- GenReads, by hand: part H14. -/
import Derived.Test.YtkpaphoeldcakaaDoorH13
namespace Go.Proofs.YtkpaphoeldcakaaDoor.Gr
open Go Go.Proofs Go.RowKit Go.Lib
attribute [local go_sem ↓] Go.wp_at_zero Go.wp_at_succ
/-- It returns a truth. -/
def IsB (e : Ending) : Prop := ∃ b, e = .returned (.bool b)
set_option maxHeartbeats 1000000 in
set_option maxRecDepth 100000 in
theorem known_any (s : ByteArray) (n : Int) (W : World) : Calls Tryd.prog 40 #[.string s, .int .i64 n] W fun e w' => IsB e ∧ W = w' := by
  go_enter Tryd.func40, Tryd.ntmps40
  go_wp2
  all_goals go_ret
  all_goals exact ⟨⟨_, rfl⟩, rfl⟩
theorem number_both {tb : Obj} (hS : Tells tb 31 15) (hF : Tells tb 32 10) (s : ByteArray) (q : Nat) (h : q = 31 ∨ q = 32) (w : World) (hw : TOK tb w) :
    Calls Tryd.prog 30 #[.string s, .func (.func q) #[] #[]] w fun e w' => (∃ r : Int, e = .returned (.int .i64 r)) ∧ Below w.heap.size w w' := by
  rcases h with rfl | rfl
  · exact number_sign hS s w hw
  · exact number_func hF s w hw
set_option maxHeartbeats 4000000 in
set_option maxRecDepth 100000 in
theorem shaped_any {tb : Obj} (hS : Tells tb 31 15) (hF : Tells tb 32 10) (k : Int) (s t : ByteArray) (n a : Int) (kids : Sl) (W : World) (hw : TOK tb W) : Calls Tryd.prog 23 #[(⟨k, s, t, n, a, kids⟩ : Ev).v] W fun e w' => IsB e ∧ Below W.heap.size W w' := by
  have hb1 : ∀ o, Below W.heap.size W (W.alloc o) := fun o => (Below.refl _ W).alloc (Nat.le_refl _) o
  have hb2 : ∀ o nn, Below W.heap.size W ((W.alloc o).drewN nn) := fun o nn => below_drewN (hb1 o) nn
  have hc : ∀ o nn w', Below ((W.alloc o).drewN nn).heap.size ((W.alloc o).drewN nn) w' → ∀ j, w'.cell? ⟨W.heap.size, j, none⟩ = ((W.alloc o).cell? ⟨W.heap.size, j, none⟩) := fun o nn w' h j => by
    have h1 := below_drewN (Below.refl (W.alloc o).heap.size (W.alloc o)) nn
    have h2 : W.heap.size < (W.alloc o).heap.size := by rw [heap_size_alloc]; omega
    exact (h.cell (p := ⟨W.heap.size, j, none⟩) (Nat.lt_of_lt_of_le h2 h1.size)).trans (h1.cell (p := ⟨W.heap.size, j, none⟩) h2)
  have HC := Lib.hid hc
  have HW : Hid (∀ o nn, TOK tb ((W.alloc o).drewN nn)) := Lib.hid fun o nn => hw.on (hb2 o nn) hw.lt
  clear hc
  by_cases hn : n = 0
  · have hd : (n == 0) = true := by simp [hn]
    clear hn
    go_enter Tryd.func23, Tryd.ntmps23
    go_wp2
    go_quiet (fail)
    go_wp2_with (first
      | (go_at_call 30; refine (number_both hS hF _ _ (by first | exact .inl rfl | exact .inr rfl) _ (HW.out _ _)).mono ?_; rintro e w2 ⟨⟨r, rfl⟩, hb3⟩; have cx := HC.out _ _ _ hb3)
      | (go_at_call 40; refine (known_any _ _ _).mono ?_; rintro e w2 ⟨⟨b, rfl⟩, rfl⟩))
    all_goals go_ret
    all_goals first | exact ⟨⟨_, rfl⟩, hb2 _ _⟩ | exact ⟨⟨_, rfl⟩, (hb2 _ _).trans (hb3.mono (hb2 _ _).size)⟩
  · have hd : (n == 0) = false := by simp [hn]
    clear hn
    go_enter Tryd.func23, Tryd.ntmps23
    go_wp2
    go_quiet (fail)
    go_wp2_with (first
      | (go_at_call 30; refine (number_both hS hF _ _ (by first | exact .inl rfl | exact .inr rfl) _ (HW.out _ _)).mono ?_; rintro e w2 ⟨⟨r, rfl⟩, hb3⟩; have cx := HC.out _ _ _ hb3)
      | (go_at_call 40; refine (known_any _ _ _).mono ?_; rintro e w2 ⟨⟨b, rfl⟩, rfl⟩))
    all_goals go_ret
    all_goals first | exact ⟨⟨_, rfl⟩, hb2 _ _⟩ | exact ⟨⟨_, rfl⟩, (hb2 _ _).trans (hb3.mono (hb2 _ _).size)⟩
end Go.Proofs.YtkpaphoeldcakaaDoor.Gr
