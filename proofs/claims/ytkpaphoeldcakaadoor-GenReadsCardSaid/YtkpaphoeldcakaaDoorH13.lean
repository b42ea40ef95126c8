/- GenReads, by hand: part H13. -/
import Derived.Test.YtkpaphoeldcakaaDoorH12
namespace Go.Proofs.YtkpaphoeldcakaaDoor.Gr
open Go Go.Proofs Go.RowKit Go.Lib
/-- Its list of kids is no longer than a list may be. -/
def Len (e : Ev) : Prop := e.kids.n ≤ 9223372036854775807
/-- Behind the world of the tree, and behind the world of what the test has captured. -/
structure On (W0 W1 : World) (B : Nat) (W : World) : Prop where
  tree : Below B W0 W
  caps : Below W1.heap.size W1 W
  low : B ≤ W.heap.size
theorem On.on {W0 W1 W W' : World} {B : Nat} (h : On W0 W1 B W) (hb : Below W.heap.size W W') : On W0 W1 B W' :=
  ⟨h.tree.trans (hb.mono h.low), h.caps.trans (hb.mono h.caps.size), Nat.le_trans h.low hb.size⟩
/-- A test of expressions, with what it has captured: true tells R. -/
def Test (W1 : World) (fi : Nat) (caps : Array Value) (R : Ev → Prop) : Prop :=
  ∀ (W : World), Below W1.heap.size W1 W → ∀ ev : Ev, Calls Tryd.prog fi (#[ev.v] ++ caps) W fun e w' => ∃ b, e = .returned (.bool b) ∧ (b = true → R ev) ∧ Below W.heap.size W w'
/-- all, over trees of at most f levels. -/
def AllOK (W0 W1 : World) (B : Nat) (fi : Nat) (caps : Array Value) (R : Ev → Prop) (f : Nat) : Prop :=
  ∀ ev : Ev, Tr W0 B Len f ev → ∀ W, On W0 W1 B W → Calls Tryd.prog 21 #[ev.v, .func (.func fi) #[] caps] W fun e w' => ∃ b, e = .returned (.bool b) ∧ (b = true → Tr W0 B R f ev) ∧ Below W.heap.size W w'
set_option maxHeartbeats 1000000 in
set_option maxRecDepth 100000 in
/-- The closure: not so. -/
theorem clo_any (W0 W1 : World) (B : Nat) (fi : Nat) (caps : Array Value) (R : Ev → Prop) (f : Nat) (hA : AllOK W0 W1 B fi caps R f) (ev : Ev) (ht : Tr W0 B Len f ev) (bb : Nat) (W : World) (h0 : On W0 W1 B W) (hbb : W.heap[bb]? = some (.cells #[.func (.func fi) #[] caps] 79)) :
    Calls Tryd.prog 37 #[ev.v, .pointer (some ⟨bb, 0, none⟩)] W fun e w' => ∃ b, e = .returned (.bool b) ∧ (b = false → Tr W0 B R f ev) ∧ Below W.heap.size W w' := by
  have hlt : bb < W.heap.size := (Array.getElem?_eq_some_iff.1 hbb).1
  have hb : ∀ o, Below W.heap.size W (W.alloc o) := fun o => (Below.refl _ W).alloc (Nat.le_refl _) o
  have c1 : ∀ o j, (W.alloc o).cell? ⟨bb, j, none⟩ = (#[.func (.func fi) #[] caps] : Array Value)[j]? := fun o j => blk_cell (((hb o).block bb hlt).trans hbb) j
  go_enter Tryd.func37, Tryd.ntmps37
  go_wp2_with (first | (go_at_call 21; refine (hA ev ht _ (h0.on (hb _))).mono ?_; rintro e w2 ⟨b, rfl, hr, hb2⟩))
  go_ret
  exact ⟨_, rfl, fun h => hr (by simpa using h), (hb _).trans (hb2.mono (hb _).size)⟩
/-- The kids, each one so. -/
def KidsOK (W0 : World) (B : Nat) (R : Ev → Prop) (f : Nat) (a : Option Addr) (n : Nat) : Prop := ∀ i, i < n → ∃ g o e', a = some ⟨g, o, none⟩ ∧ g < B ∧ At6 W0 g (o + i * 6) e' ∧ Tr W0 B R f e'
set_option maxHeartbeats 1000000 in
set_option maxRecDepth 100000 in
theorem indexf_any (W0 W1 : World) (B : Nat) (fi : Nat) (caps : Array Value) (R : Ev → Prop) (f : Nat) (hA : AllOK W0 W1 B fi caps R f) (a : Option Addr) (n c : Nat) (ht : KidsOK W0 B Len f a n) (hn : n ≤ 9223372036854775807) (bb : Nat) (W : World) (h0 : On W0 W1 B W) (hbb : W.heap[bb]? = some (.cells #[.func (.func fi) #[] caps] 79)) :
    Calls Tryd.prog 44 #[.slice a n c, .func (.func 37) #[] #[.pointer (some ⟨bb, 0, none⟩)]] W fun e w' => ∃ r : Int, e = .returned (.int .i64 r) ∧ (r < 0 → KidsOK W0 B R f a n) ∧ Below W.heap.size W w' := by
  have hlt : bb < W.heap.size := (Array.getElem?_eq_some_iff.1 hbb).1
  have HT := Lib.hid ht
  have HBB := Lib.hid hbb
  clear ht hbb
  go_enter Tryd.func44, Tryd.ntmps44
  go_wp2
  go_loopg [8] n (fun lft i wr => ∃ kk : Nat, kk + lft = n ∧ i = .int .i64 kk ∧ Below W.heap.size W wr ∧ Hid (KidsOK W0 B R f a kk))
  case atStart => exact ⟨0, by omega, rfl, Below.refl _ _, Lib.hid fun i hi => by omega⟩
  case round =>
    obtain ⟨kk, hl, rfl, hbr, hk⟩ := hrel
    by_cases hlk : kk < n
    · have hlt' : ((kk : Int) < (n : Int)) = True := by simp; omega
      obtain ⟨g, o, e', rfl, hg, h6, htr⟩ := HT.out kk hlk
      have h1 := h0.on hbr
      have d := h6.on h1.tree hg
      obtain ⟨k', s', t', n', a', ⟨ka, kn, kc⟩⟩ := e'
      have d0 : wr.cell? ⟨g, o + kk * 6, none⟩ = some (.int .u8 k') := d.c0
      have d1 : wr.cell? ⟨g, o + kk * 6 + 1, none⟩ = some (.string s') := d.c1
      have d2 : wr.cell? ⟨g, o + kk * 6 + 2, none⟩ = some (.string t') := d.c2
      have d3 : wr.cell? ⟨g, o + kk * 6 + 3, none⟩ = some (.int .i64 n') := d.c3
      have d4 : wr.cell? ⟨g, o + kk * 6 + 4, none⟩ = some (.int .i64 a') := d.c4
      have d5 : wr.cell? ⟨g, o + kk * 6 + 5, none⟩ = some (.slice ka kn kc) := d.c5
      clear d
      go_wp2_with (first | (go_at_call 37; refine (clo_any W0 W1 B fi caps R f hA ⟨k', s', t', n', a', ⟨ka, kn, kc⟩⟩ htr bb wr h1 ((hbr.block bb hlt).trans HBB.out)).mono ?_; rintro e w2 ⟨b, rfl, hr, hb2⟩))
      · go_ret
        exact ⟨_, rfl, fun h => by omega, hbr.trans (hb2.mono hbr.size)⟩
      · rename_i hnb
        go_roundg (n - kk - 1)
        case measure => omega
        case rel => exact ⟨kk + 1, by omega, by first | rfl | go_num, hbr.trans (hb2.mono hbr.size), Lib.hid fun i hi => by
          by_cases hi2 : i < kk
          · exact hk.out i hi2
          · obtain rfl : i = kk := by omega
            exact ⟨g, o, _, rfl, hg, h6, hr (by simpa using hnb)⟩⟩
    · have hlt' : ((kk : Int) < (n : Int)) = False := by simp; omega
      go_wp2
      go_ret
      exact ⟨_, rfl, fun _ => by rw [show n = kk by omega]; exact hk.out, hbr⟩
set_option maxHeartbeats 1000000 in
set_option maxRecDepth 100000 in
theorem containsf_any (W0 W1 : World) (B : Nat) (fi : Nat) (caps : Array Value) (R : Ev → Prop) (f : Nat) (hA : AllOK W0 W1 B fi caps R f) (a : Option Addr) (n c : Nat) (ht : KidsOK W0 B Len f a n) (hn : n ≤ 9223372036854775807) (bb : Nat) (W : World) (h0 : On W0 W1 B W) (hbb : W.heap[bb]? = some (.cells #[.func (.func fi) #[] caps] 79)) :
    Calls Tryd.prog 36 #[.slice a n c, .func (.func 37) #[] #[.pointer (some ⟨bb, 0, none⟩)]] W fun e w' => ∃ b, e = .returned (.bool b) ∧ (b = false → KidsOK W0 B R f a n) ∧ Below W.heap.size W w' := by
  go_enter Tryd.func36, Tryd.ntmps36
  go_wp2_with (first | (go_at_call 44; refine (indexf_any W0 W1 B fi caps R f hA a n c ht hn bb _ h0 hbb).mono ?_; rintro e w2 ⟨r, rfl, hr, hb2⟩))
  go_ret
  exact ⟨_, rfl, fun h => hr (by simpa using h), hb2⟩
set_option maxHeartbeats 1000000 in
set_option maxRecDepth 100000 in
theorem all_step23 (W0 W1 : World) (B : Nat) (R : Ev → Prop) (hI : Test W1 23 #[] R) (f : Nat) (hA : AllOK W0 W1 B 23 #[] R f) (ev : Ev) (ht : KidsOK W0 B Len f ev.kids.a ev.kids.n) (hn : ev.kids.n ≤ 9223372036854775807) (W : World) (h0 : On W0 W1 B W) :
    Calls Tryd.prog 21 #[ev.v, .func (.func 23) #[] #[]] W fun e w' => ∃ b, e = .returned (.bool b) ∧ (b = true → R ev ∧ KidsOK W0 B R f ev.kids.a ev.kids.n) ∧ Below W.heap.size W w' := by
  have hmf : ∀ (fn : Fn) (first cap : Array Value) (w : World), (Instr.makeFunc fn first cap).run Tryd.prog w = .ok (.func fn first cap) w := fun _ _ _ _ => rfl
  have hb1 : ∀ o, Below W.heap.size W (W.alloc o) := fun o => (Below.refl _ W).alloc (Nat.le_refl _) o
  have hb0 : ∀ o o2, Below W.heap.size W ((W.alloc o).alloc o2) := fun o o2 => (hb1 o).alloc (hb1 o).size o2
  have hs : ∀ o, (W.alloc o).heap.size = W.heap.size + 1 := fun o => heap_size_alloc W o
  have z1 : ((W.alloc (.cells ev.cells 33)).alloc (.cells #[.func (.func 23) #[] #[]] 79)).heap[W.heap.size]? = some (.cells ev.cells 33) := (Below.heap_alloc _ _ _ (by rw [hs]; omega)).trans (heap_alloc_new W _)
  have z2 : ((W.alloc (.cells ev.cells 33)).alloc (.cells #[.func (.func 23) #[] #[]] 79)).heap[W.heap.size + 1]? = some (.cells #[.func (.func 23) #[] #[]] 79) := by have := heap_alloc_new (W.alloc (.cells ev.cells 33)) (.cells #[.func (.func 23) #[] #[]] 79); rw [hs] at this; exact this
  have z3 : ((W.alloc (.cells ev.cells 33)).alloc (.cells #[.func (.func 23) #[] #[]] 79)).heap.size = W.heap.size + 2 := by rw [heap_size_alloc, heap_size_alloc]
  have Z1 := Lib.hid z1
  have Z2 := Lib.hid z2
  have Z3 := Lib.hid z3
  clear z1 z2 z3
  go_enter Tryd.func21, Tryd.ntmps21
  go_wp2_with (first
    | (go_at_call 23
       refine (hI _ (h0.on (hb0 _ _)).caps ev).mono ?_
       rintro e w2 ⟨b, rfl, hr, hb2⟩
       have c1 := blk_cell ((hb2.block W.heap.size (by rw [Z3.out]; omega)).trans Z1.out))
    | (go_at_call 36
       refine (containsf_any W0 W1 B 23 #[] R f hA ev.kids.a ev.kids.n ev.kids.c ht hn (W.heap.size + 1) _ ((h0.on (hb0 _ _)).on hb2) ((hb2.block (W.heap.size + 1) (by rw [Z3.out]; omega)).trans Z2.out)).mono ?_
       rintro e w3 ⟨b2, rfl, hr2, hb3⟩))
  all_goals go_ret
  · rename_i hbt
    exact ⟨_, rfl, fun h => ⟨hr hbt, hr2 (by simpa using h)⟩, ((hb0 _ _).trans (hb2.mono (hb0 _ _).size)).trans (hb3.mono ((hb0 _ _).trans (hb2.mono (hb0 _ _).size)).size)⟩
  · exact ⟨_, rfl, fun h => by simp at h, (hb0 _ _).trans (hb2.mono (hb0 _ _).size)⟩
/-- all: so of each part. -/
theorem all23 (W0 W1 : World) (B : Nat) (R : Ev → Prop) (hI : Test W1 23 #[] R) : ∀ f, AllOK W0 W1 B 23 #[] R f
  | 0 => fun _ h => h.elim
  | f + 1 => fun ev ht W h0 => (all_step23 W0 W1 B R hI f (all23 W0 W1 B R hI f) ev ht.2 ht.1 W h0).mono fun _ _ ⟨b, h1, h2, h3⟩ => ⟨b, h1, fun h => h2 h, h3⟩
set_option maxHeartbeats 1000000 in
set_option maxRecDepth 100000 in
theorem all_step39 (W0 W1 : World) (B : Nat) (x y z : Value) (R : Ev → Prop) (hI : Test W1 39 #[x, y, z] R) (f : Nat) (hA : AllOK W0 W1 B 39 #[x, y, z] R f) (ev : Ev) (ht : KidsOK W0 B Len f ev.kids.a ev.kids.n) (hn : ev.kids.n ≤ 9223372036854775807) (W : World) (h0 : On W0 W1 B W) :
    Calls Tryd.prog 21 #[ev.v, .func (.func 39) #[] #[x, y, z]] W fun e w' => ∃ b, e = .returned (.bool b) ∧ (b = true → R ev ∧ KidsOK W0 B R f ev.kids.a ev.kids.n) ∧ Below W.heap.size W w' := by
  have hmf : ∀ (fn : Fn) (first cap : Array Value) (w : World), (Instr.makeFunc fn first cap).run Tryd.prog w = .ok (.func fn first cap) w := fun _ _ _ _ => rfl
  have hb1 : ∀ o, Below W.heap.size W (W.alloc o) := fun o => (Below.refl _ W).alloc (Nat.le_refl _) o
  have hb0 : ∀ o o2, Below W.heap.size W ((W.alloc o).alloc o2) := fun o o2 => (hb1 o).alloc (hb1 o).size o2
  have hs : ∀ o, (W.alloc o).heap.size = W.heap.size + 1 := fun o => heap_size_alloc W o
  have z1 : ((W.alloc (.cells ev.cells 33)).alloc (.cells #[.func (.func 39) #[] #[x, y, z]] 79)).heap[W.heap.size]? = some (.cells ev.cells 33) := (Below.heap_alloc _ _ _ (by rw [hs]; omega)).trans (heap_alloc_new W _)
  have z2 : ((W.alloc (.cells ev.cells 33)).alloc (.cells #[.func (.func 39) #[] #[x, y, z]] 79)).heap[W.heap.size + 1]? = some (.cells #[.func (.func 39) #[] #[x, y, z]] 79) := by have := heap_alloc_new (W.alloc (.cells ev.cells 33)) (.cells #[.func (.func 39) #[] #[x, y, z]] 79); rw [hs] at this; exact this
  have z3 : ((W.alloc (.cells ev.cells 33)).alloc (.cells #[.func (.func 39) #[] #[x, y, z]] 79)).heap.size = W.heap.size + 2 := by rw [heap_size_alloc, heap_size_alloc]
  have Z1 := Lib.hid z1
  have Z2 := Lib.hid z2
  have Z3 := Lib.hid z3
  clear z1 z2 z3
  go_enter Tryd.func21, Tryd.ntmps21
  go_wp2_with (first
    | (go_at_call 39
       refine (hI _ (h0.on (hb0 _ _)).caps ev).mono ?_
       rintro e w2 ⟨b, rfl, hr, hb2⟩
       have c1 := blk_cell ((hb2.block W.heap.size (by rw [Z3.out]; omega)).trans Z1.out))
    | (go_at_call 36
       refine (containsf_any W0 W1 B 39 #[x, y, z] R f hA ev.kids.a ev.kids.n ev.kids.c ht hn (W.heap.size + 1) _ ((h0.on (hb0 _ _)).on hb2) ((hb2.block (W.heap.size + 1) (by rw [Z3.out]; omega)).trans Z2.out)).mono ?_
       rintro e w3 ⟨b2, rfl, hr2, hb3⟩))
  all_goals go_ret
  · rename_i hbt
    exact ⟨_, rfl, fun h => ⟨hr hbt, hr2 (by simpa using h)⟩, ((hb0 _ _).trans (hb2.mono (hb0 _ _).size)).trans (hb3.mono ((hb0 _ _).trans (hb2.mono (hb0 _ _).size)).size)⟩
  · exact ⟨_, rfl, fun h => by simp at h, (hb0 _ _).trans (hb2.mono (hb0 _ _).size)⟩
/-- all: so of each part. -/
theorem all39 (W0 W1 : World) (B : Nat) (x y z : Value) (R : Ev → Prop) (hI : Test W1 39 #[x, y, z] R) : ∀ f, AllOK W0 W1 B 39 #[x, y, z] R f
  | 0 => fun _ h => h.elim
  | f + 1 => fun ev ht W h0 => (all_step39 W0 W1 B x y z R hI f (all39 W0 W1 B x y z R hI f) ev ht.2 ht.1 W h0).mono fun _ _ ⟨b, h1, h2, h3⟩ => ⟨b, h1, fun h => h2 h, h3⟩
end Go.Proofs.YtkpaphoeldcakaaDoor.Gr
