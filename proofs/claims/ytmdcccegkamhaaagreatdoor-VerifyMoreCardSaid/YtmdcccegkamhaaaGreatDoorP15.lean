/- The program's verify, flow and code, followed by hand: part 15. -/
import Derived.Test.YtmdcccegkamhaaaGreatDoorP5
import Derived.Laws.EntriesVeiled
import Derived.Carry
set_option maxHeartbeats 4000000
set_option maxRecDepth 100000
set_option linter.unusedSectionVars false
set_option linter.unusedVariables false
set_option linter.unusedSimpArgs false
namespace Go.Proofs.Vf
open Go Go.Proofs Go.RowKit Go.Lib
attribute [local go_sem ↓] Go.wp_at_zero Go.wp_at_succ
theorem Below.putb {b off : Nat} {a w : World} (h : Below b a w) (u : Value) : Below b a (w.setCell ⟨b, off, none⟩ u) := h.setCell (p := ⟨b, off, none⟩) (Nat.le_refl _) u
theorem reset_any (s : ByteArray) (u : Bool) (b : Nat) (w : World) (hb : w.heap[b]? = some (.cells #[.string s, .bool u, .int .i64 0, .int .u64 0, .int .u64 0, .int .u8 0, .int .i64 0, .string ⟨#[]⟩, .slice none 0 0, .map none] 209)) :
 Calls Tryz.prog 133 #[.pointer (some ⟨b, 0, none⟩)] w fun e w' => e = .returned (.tuple #[]) ∧ Below b w w' := by
 have hmm := @run_makeMap Tryz.prog
 have hlt : b < w.heap.size := (Array.getElem?_eq_some_iff.1 hb).1
 have c0 := blk_cell hb
 have f0 := blk_frozen hb
 have c1 : ∀ o j, (w.alloc o).cell? ⟨b, j, none⟩ = _ := fun o j => ((Below.one w o).cell (p := ⟨b, j, none⟩) hlt).trans (c0 j)
 have f1 : ∀ o j, (w.alloc o).frozen? ⟨b, j, none⟩ = false := fun o j => blk_frozen (((Below.one w o).block b hlt).trans hb) j
 go_enter Tryz.func133, Tryz.ntmps133
 go_wp2
 · refine bodyPost_ret (v := .tuple #[]) (results_none rfl _ _ _) rfl ⟨rfl, Below.refl _ _⟩
 · go_region
   refine bodyPost_end (results_none rfl _ _ _) rfl ⟨rfl, ?_⟩
   have hsz : ∀ (w : World) (a : Addr) (v : Value), (w.setCell a v).heap.size = w.heap.size := fun _ _ _ => by simp [World.setCell]
   with_reducible (try refine Below.drew ?_)
   with_reducible refine Below.alloc ?_ ?_ _
   · with_reducible repeat (first | exact Below.refl _ _ | refine Below.putb ?_ _ | refine Below.drew ?_)
   · simp only [hsz]; omega
theorem agg_any (x : Tot) (w : World) : Calls Tryz.prog 86 #[.string x.s, .bool x.u] w fun e w' => (∃ v, e = .returned (.tuple #[v, .int .i64 (totE x)])) ∧ Below w.heap.size w w' := by
 obtain ⟨s, u⟩ := x
 unfold totE
 have hk := fun w => known_any s w
 have hk : ∀ w, Calls Tryz.prog 132 #[.string s] w fun e w' => e = .returned (.bool (knownT s)) ∧ Below w.heap.size w w' := fun w => hk w
 generalize knownT s = b at hk
 have HK := Lib.hid hk
 clear hk
 cases b
 · go_enter Tryz.func86, Tryz.ntmps86
   go_wp2_with (first | (go_at_call 132; with_reducible refine (HK.out _).mono ?_; rintro e w2 ⟨rfl, hb2⟩))
   refine bodyPost_ret (v := .tuple #[.pointer none, .int .i64 21]) (by simp [results, Tryz.results86, go_sem]) rfl ⟨⟨_, rfl⟩, hb2⟩
 · have hr : ∀ w w2, Below w.heap.size w w2 → ∀ u, Calls Tryz.prog 133 #[.pointer (some ⟨w2.heap.size, 0, none⟩)] (w2.alloc (.cells #[.string s, .bool u, .int .i64 0, .int .u64 0, .int .u64 0, .int .u8 0, .int .i64 0, .string ⟨#[]⟩, .slice none 0 0, .map none] 209)) fun e w' => e = .returned (.tuple #[]) ∧ Below w.heap.size w w' := fun w w2 hb u =>
    (reset_any s u w2.heap.size _ (heap_alloc_new w2 _)).mono fun e w' ⟨h1, h2⟩ => ⟨h1, hb.on ((Below.one w2 _).trans h2)⟩
   have HR := Lib.hid hr
   clear hr
   go_enter Tryz.func86, Tryz.ntmps86
   go_wp2_with (first
    | (go_at_call 132; with_reducible refine (HK.out _).mono ?_; rintro e w2 ⟨rfl, hb2⟩)
    | (go_at_call 133; with_reducible refine (HR.out _ _ hb2 _).mono ?_; rintro e w3 ⟨rfl, hb3⟩))
   · refine bodyPost_ret (v := .tuple #[.pointer none, .int .i64 2]) (by simp [results, Tryz.results86, go_sem]) rfl ⟨⟨.pointer none, by simp_all⟩, hb2⟩
   · refine bodyPost_ret (v := .tuple #[.pointer (some ⟨w2.heap.size, 0, none⟩), .int .i64 0]) (by simp [results, Tryz.results86, go_sem]) rfl ⟨⟨.pointer (some ⟨w2.heap.size, 0, none⟩), by simp_all⟩, hb3⟩
   · refine bodyPost_ret (v := .tuple #[.pointer (some ⟨w2.heap.size, 0, none⟩), .int .i64 0]) (by simp [results, Tryz.results86, go_sem]) rfl ⟨⟨.pointer (some ⟨w2.heap.size, 0, none⟩), by simp_all⟩, hb3⟩
theorem aggOK (W0 : World) : AggOK W0 := fun w _ x => agg_any x w
theorem cl96 (b : Nat) (n : Int) (w : World) (h : w.cell? ⟨b, 0, none⟩ = some (.int .i64 n)) : Gives 96 #[.pointer (some ⟨b, 0, none⟩)] w (.bool (n == 0)) := by
 unfold Gives
 go_enter Tryz.func96, Tryz.ntmps96
 go_wp2
 go_ret
 exact ⟨rfl, Below.refl _ _⟩
theorem cl93t (b c : Nat) (n m : Int) (w : World) (h : w.cell? ⟨b, 0, none⟩ = some (.int .i64 n)) (h2 : w.cell? ⟨c, 0, none⟩ = some (.int .i64 m)) : Calls Tryz.prog 93 #[.pointer (some ⟨b, 0, none⟩), .pointer (some ⟨c, 0, none⟩)] w fun e w' => e = .returned (.bool (below n m)) ∧ w' = w := by
 unfold below
 go_enter Tryz.func93, Tryz.ntmps93
 go_wp2
 all_goals go_ret
 all_goals exact ⟨by first | (simp_all; done) | (simp_all; intros; omega), rfl⟩
theorem cl93 (b c : Nat) (n m : Int) (w : World) (h : w.cell? ⟨b, 0, none⟩ = some (.int .i64 n)) (h2 : w.cell? ⟨c, 0, none⟩ = some (.int .i64 m)) : Gives 93 #[.pointer (some ⟨b, 0, none⟩), .pointer (some ⟨c, 0, none⟩)] w (.bool (below n m)) :=
 (cl93t b c n m w h h2).mono fun e w' ⟨h1, h2⟩ => ⟨h1, h2 ▸ Below.refl _ _⟩
theorem cl98 (b c : Nat) (n m : Int) (w : World) (h : w.cell? ⟨b, 0, none⟩ = some (.int .i64 n)) (h2 : w.cell? ⟨c, 0, none⟩ = some (.int .i64 m)) : Gives 98 #[.pointer (some ⟨b, 0, none⟩), .pointer (some ⟨c, 0, none⟩)] w (.bool (decide (1 ≤ n) && decide (n ≤ m))) := by
 unfold Gives
 go_enter Tryz.func98, Tryz.ntmps98
 go_wp2
 all_goals go_ret
 all_goals exact ⟨by first | (simp_all; done) | (simp_all; intros; omega), Below.refl _ _⟩
theorem cl97 (b c q : Nat) (n m : Int) (s : Sl) (w : World) (h : w.cell? ⟨b, 0, none⟩ = some (.int .i64 n)) (h2 : w.cell? ⟨c, 0, none⟩ = some (.int .i64 m)) (hp : w.cell? ⟨q, 8, none⟩ = some (.slice s.a s.n s.c)) : Gives 97 #[.pointer (some ⟨b, 0, none⟩), .pointer (some ⟨c, 0, none⟩), .pointer (some ⟨q, 0, none⟩)] w (.bool (decide (m < n) && decide (n < s.n))) := by
 unfold Gives
 go_enter Tryz.func97, Tryz.ntmps97
 go_wp2
 all_goals go_ret
 all_goals exact ⟨by first | (simp_all; done) | (simp_all; intros; omega), Below.refl _ _⟩
theorem cl99 (b q : Nat) (n r : Int) (w : World) (h : w.cell? ⟨b, 0, none⟩ = some (.int .i64 n)) (hp : w.cell? ⟨q, 1, none⟩ = some (.int .i64 r)) : Gives 99 #[.pointer (some ⟨b, 0, none⟩), .pointer (some ⟨q, 0, none⟩)] w (.bool (decide (1 ≤ n) && decide (n ≤ r))) := by
 unfold Gives
 go_enter Tryz.func99, Tryz.ntmps99
 go_wp2
 all_goals go_ret
 all_goals exact ⟨by first | (simp_all; done) | (simp_all; intros; omega), Below.refl _ _⟩
theorem cl92 (b : Nat) (m : Int) (w : World) : Calls Tryz.prog 92 #[.int .i64 m, .pointer (some ⟨b, 0, none⟩)] w fun e w' => e = .returned (.func (.func 93) #[] #[.pointer (some ⟨b, 0, none⟩), .pointer (some ⟨w.heap.size, 0, none⟩)]) ∧ w' = w.alloc (.cells #[.int .i64 m] 3) := by
 have hmf : ∀ (fn : Fn) (first cap : Array Value) (w : World), (Instr.makeFunc fn first cap).run Tryz.prog w = .ok (.func fn first cap) w := fun _ _ _ _ => rfl
 go_enter Tryz.func92, Tryz.ntmps92
 go_wp2
 go_ret
 exact ⟨rfl, rfl⟩
theorem cl100 (x : Cur) (w : World) : Gives 100 #[x.v] w (.bool x.i) := by
 unfold Gives
 go_enter Tryz.func100, Tryz.ntmps100
 go_wp2
 go_ret
 exact ⟨rfl, Below.one _ _⟩
theorem cl101 (x : Cur) (w : World) : Gives 101 #[x.v] w (.bool (!x.i)) := by
 unfold Gives
 go_enter Tryz.func101, Tryz.ntmps101
 go_wp2
 go_ret
 exact ⟨rfl, Below.one _ _⟩
theorem cl102 (x : Cur) (w : World) : Gives 102 #[x.v] w (.bool (!x.i && x.w)) := by
 unfold Gives
 go_enter Tryz.func102, Tryz.ntmps102
 go_wp2
 all_goals go_ret
 all_goals exact ⟨by simp_all, Below.one _ _⟩
def curOK (g : Nat) (x : Cur) : Bool := if g = 100 then x.i else if g = 101 then !x.i else !x.i && x.w
def curT (D : Dat) (g : Nat) (n : Int) : Bool := match curAt D n with | some x => curOK g x | none => false
theorem cl_ok {g : Nat} (hg : g = 100 ∨ g = 101 ∨ g = 102) (x : Cur) (w : World) : Gives g #[x.v] w (.bool (curOK g x)) := by
 rcases hg with rfl | rfl | rfl
 · exact cl100 x w
 · exact cl101 x w
 · exact cl102 x w
end Go.Proofs.Vf
