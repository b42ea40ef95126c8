/- GenReads, by hand: part H16. -/
import Derived.Test.YtkpaphoeldcakaaDoorH15
import Derived.Laws.EntriesVeiled
namespace Go.Proofs.YtkpaphoeldcakaaDoor.Gr
open Go Go.Proofs Go.RowKit Go.Lib
attribute [local go_sem ↓] Go.wp_at_zero Go.wp_at_succ
/-- A part that tells of a source tells of one that is there. -/
def Here (n : Nat) (e : Ev) : Prop := e.k = 13 → 0 ≤ e.a ∧ e.a < n
/-- What there makes. -/
def Thr (n : Nat) (W : World) (e : Ending) (w' : World) : Prop := ∃ x y z, e = .returned (.func (.func 39) #[] #[x, y, z]) ∧ Below W.heap.size W w' ∧ Test w' 39 #[x, y, z] (Here n)
theorem there2_any (B : Nat) (p : Pg) (q : Pl) (free : Int) (ev : Ev) (pb wb ab fb : Nat) (W : World) (hp : W.heap[pb]? = some (.cells p.cells 29)) (hw : W.heap[wb]? = some (.cells #[.func (.func 38) #[] #[.pointer (some ⟨fb, 0, none⟩)]] 92))
    (ha : W.heap[ab]? = some (.cells q.cells 36)) (hf : W.heap[fb]? = some (.cells #[.int .i64 free] 3)) (hsrc : Src W B q.src) :
    Calls Tryd.prog 39 #[ev.v, .pointer (some ⟨pb, 0, none⟩), .pointer (some ⟨wb, 0, none⟩), .pointer (some ⟨ab, 0, none⟩)] W fun e w' => ∃ b, e = .returned (.bool b) ∧ (b = true → Here q.src.n ev) ∧ Below W.heap.size W w' := by
  obtain ⟨k, s, t, n, a, kids⟩ := ev
  by_cases hk : k = 13
  · subst hk
    refine (there2_this B p q free s t n a kids pb wb ab fb W hp hw ha hf hsrc).mono ?_
    rintro e w' ⟨⟨b, rfl, h⟩, hb⟩
    exact ⟨b, rfl, fun hb _ => h hb, hb⟩
  · refine (there2_not p q free k s t n a kids pb wb ab fb W hk hp hw ha hf).mono ?_
    rintro e w' ⟨⟨b, rfl⟩, hb⟩
    exact ⟨b, rfl, fun _ h => absurd h hk, hb⟩
set_option maxHeartbeats 2000000 in
set_option maxRecDepth 100000 in
theorem there_any (B : Nat) (p : Pg) (q : Pl) (free : Int) (W : World) (hsrc : Src W B q.src) (hB : B ≤ W.heap.size) :
    Calls Tryd.prog 22 #[p.v, q.v, .int .i64 free] W fun e w' => Thr q.src.n W e w' := by
  have hmf : ∀ (fn : Fn) (first cap : Array Value) (w : World), (Instr.makeFunc fn first cap).run Tryd.prog w = .ok (.func fn first cap) w := fun _ _ _ _ => rfl
  obtain ⟨W4, hW4⟩ : ∃ W4, W4 = (((W.alloc (.cells p.cells 29)).alloc (.cells q.cells 36)).alloc (.cells #[.int .i64 free] 3)).alloc (.cells #[.func (.func 38) #[] #[.pointer (some ⟨W.heap.size + 1 + 1, 0, none⟩)]] 92) := ⟨_, rfl⟩
  have hb : Below W.heap.size W W4 := by
    subst hW4
    exact ((((Below.refl _ W).alloc (Nat.le_refl _) _).alloc (by rw [heap_size_alloc]; omega) _).alloc (by rw [heap_size_alloc, heap_size_alloc]; omega) _).alloc (by rw [heap_size_alloc, heap_size_alloc, heap_size_alloc]; omega) _
  have s1 : ∀ o, (W.alloc o).heap.size = W.heap.size + 1 := fun o => heap_size_alloc W o
  have s2 : ∀ o o2, ((W.alloc o).alloc o2).heap.size = W.heap.size + 2 := fun o o2 => by rw [heap_size_alloc, s1]
  have s3 : ∀ o o2 o3, (((W.alloc o).alloc o2).alloc o3).heap.size = W.heap.size + 3 := fun o o2 o3 => by rw [heap_size_alloc, s2]
  have f1 : W4.heap[W.heap.size]? = some (.cells p.cells 29) := by
    subst hW4
    rw [Below.heap_alloc _ _ _ (by rw [s3]; omega), Below.heap_alloc _ _ _ (by rw [s2]; omega), Below.heap_alloc _ _ _ (by rw [s1]; omega)]; exact heap_alloc_new W _
  have f2 : W4.heap[W.heap.size + 1]? = some (.cells q.cells 36) := by
    subst hW4
    rw [Below.heap_alloc _ _ _ (by rw [s3]; omega), Below.heap_alloc _ _ _ (by rw [s2]; omega)]
    have := heap_alloc_new (W.alloc (.cells p.cells 29)) (.cells q.cells 36)
    rw [s1] at this; exact this
  have f3 : W4.heap[W.heap.size + 1 + 1]? = some (.cells #[.int .i64 free] 3) := by
    subst hW4
    rw [Below.heap_alloc _ _ _ (by rw [s3]; omega)]
    have := heap_alloc_new ((W.alloc (.cells p.cells 29)).alloc (.cells q.cells 36)) (.cells #[.int .i64 free] 3)
    rw [s2] at this; exact this
  have f4 : W4.heap[W.heap.size + 1 + 1 + 1]? = some (.cells #[.func (.func 38) #[] #[.pointer (some ⟨W.heap.size + 1 + 1, 0, none⟩)]] 92) := by
    subst hW4
    have := heap_alloc_new (((W.alloc (.cells p.cells 29)).alloc (.cells q.cells 36)).alloc (.cells #[.int .i64 free] 3)) (.cells #[.func (.func 38) #[] #[.pointer (some ⟨W.heap.size + 1 + 1, 0, none⟩)]] 92)
    rw [s3] at this; exact this
  have hfin : Thr q.src.n W (.returned (.func (.func 39) #[] #[.pointer (some ⟨W.heap.size, 0, none⟩), .pointer (some ⟨W.heap.size + 1 + 1 + 1, 0, none⟩), .pointer (some ⟨W.heap.size + 1, 0, none⟩)])) W4 := by
    refine ⟨_, _, _, rfl, hb, fun W' hb' ev => ?_⟩
    have l4 := (Array.getElem?_eq_some_iff.1 f4).1
    exact there2_any B p q free ev W.heap.size (W.heap.size + 1 + 1 + 1) (W.heap.size + 1) (W.heap.size + 1 + 1) W' ((hb'.block _ (by omega)).trans f1) ((hb'.block _ (by omega)).trans f4) ((hb'.block _ (by omega)).trans f2) ((hb'.block _ (by omega)).trans f3)
      (hsrc.on ((hb.mono hB).trans (hb'.mono (Nat.le_trans hB hb.size))))
  rw [hW4] at hfin
  have HF := Lib.hid hfin
  clear hfin f1 f2 f3 f4 hb hsrc s1 s2 s3
  clear hW4 W4
  go_enter Tryd.func22, Tryd.ntmps22
  go_wp2
  go_ret
  exact HF.out
/-- What may tells. -/
def IsMay (R : Prop) (e : Ending) : Prop := ∃ r : Int, e = .returned (.int .i64 r) ∧ (r = 0 → R)
theorem shaped_test {tb : Obj} (hS : Tells tb 31 15) (hF : Tells tb 32 10) (W1 : World) (hw : TOK tb W1) : Test W1 23 #[] (fun _ => True) := fun W hb ev => by
  obtain ⟨k, s, t, n, a, kids⟩ := ev
  refine (shaped_any hS hF k s t n a kids W (hw.on hb hw.lt)).mono ?_
  rintro e w' ⟨⟨b, rfl⟩, hb⟩
  exact ⟨b, rfl, fun _ => trivial, hb⟩
end Go.Proofs.YtkpaphoeldcakaaDoor.Gr
