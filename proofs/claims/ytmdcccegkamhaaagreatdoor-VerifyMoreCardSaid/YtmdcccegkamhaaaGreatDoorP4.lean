/- The program's verify, flow and code, followed by hand: part 4. -/
import Derived.Test.YtmdcccegkamhaaaGreatDoorP3
set_option maxHeartbeats 4000000
set_option maxRecDepth 100000
set_option linter.unusedSectionVars false
set_option linter.unusedVariables false
set_option linter.unusedSimpArgs false
namespace Go.Proofs.Vf
open Go Go.Proofs Go.RowKit Go.Lib
theorem runs_20 (p : Pg) (D : Dat) (W : World) (hp : Has W p D) (at_ : Nat) (b : Nat) (ib ic id : Int) (x : Srt) (hx : D.sorts[b]? = some x) (hi : D.code[at_]? = some ⟨20, b, ib, ic, id⟩) :
 Gives 47 #[p.v, .int .i64 at_] W (.bool (runsB p D at_ ⟨20, b, ib, ic, id⟩)) := by
 obtain ⟨g2, o2, e2, hg2, hlt2, hc2⟩ := hp.srt hx
 have hss : p.sorts.n ≤ 9223372036854775807 := hp.sorts.small
 obtain ⟨g, o, e1, hg, hlt, hc⟩ := hp.ins hi
 obtain ⟨ver, regs, binds, names, cons, curs, ⟨sa, sn, sc⟩, tots, ⟨ca, cn, cc⟩⟩ := p
 have e2 : sa = some ⟨g2, o2, none⟩ := e2
 have hlt2 : b < sn := hlt2
 have hss : sn ≤ 9223372036854775807 := hss
 subst e2
 have e1 : ca = some ⟨g, o, none⟩ := e1
 have hlt : at_ < cn := hlt
 have hsm : cn ≤ 9223372036854775807 := hp.code.small
 subst e1
 have d0 : ∀ o', (W.alloc o').cell? ⟨g, o + at_ * 5, none⟩ = some (.int .u8 20) := fun o' => (hc _ (Below.one W o')).1
 have d1 : ∀ o', (W.alloc o').cell? ⟨g, o + at_ * 5 + 1, none⟩ = some (.int .i64 (b : Int)) := fun o' => (hc _ (Below.one W o')).2.1
 have d2 : ∀ o', (W.alloc o').cell? ⟨g, o + at_ * 5 + 2, none⟩ = some (.int .i64 ib) := fun o' => (hc _ (Below.one W o')).2.2.1
 have d3 : ∀ o', (W.alloc o').cell? ⟨g, o + at_ * 5 + 3, none⟩ = some (.int .i64 ic) := fun o' => (hc _ (Below.one W o')).2.2.2.1
 have d4 : ∀ o', (W.alloc o').cell? ⟨g, o + at_ * 5 + 4, none⟩ = some (.int .i64 id) := fun o' => (hc _ (Below.one W o')).2.2.2.2
 have two := two_blocks W (.cells (⟨ver, regs, binds, names, cons, curs, ⟨some ⟨g2, o2, none⟩, sn, sc⟩, tots, ⟨some ⟨g, o, none⟩, cn, cc⟩⟩ : Pg).cells 29) (.cells #[.int .u8 20, .int .i64 (b : Int), .int .i64 ib, .int .i64 ic, .int .i64 id] 45)
 have s0 : ∀ a b', ((W.alloc a).alloc b').cell? ⟨g2, o2 + b * 3, none⟩ = some (.slice x.d.a x.d.n x.d.c) := fun a b' => (hc2 _ (below_two W a b')).1
 have s1 : ∀ a b', ((W.alloc a).alloc b').cell? ⟨g2, o2 + b * 3 + 1, none⟩ = some (.int .i64 x.n) := fun a b' => (hc2 _ (below_two W a b')).2.1
 have hN : srtN D b = x.n := by unfold srtN; rw [Int.toNat_natCast, hx]
 have hDd : srtD D b = x.d.n := by unfold srtD; rw [Int.toNat_natCast, hx]
 have HT := Lib.hid two
 clear hp hi hc two hc2 hx
 have hmf : ∀ (fn : Fn) (first cap : Array Value) (w : World), (Instr.makeFunc fn first cap).run Tryz.prog w = .ok (.func fn first cap) w := fun _ _ _ _ => rfl
 unfold Gives
 have hg0 : ∀ W2 : World, W2.heap[W.heap.size]? = some (.cells (⟨ver, regs, binds, names, cons, curs, ⟨some ⟨g2, o2, none⟩, sn, sc⟩, tots, ⟨some ⟨g, o, none⟩, cn, cc⟩⟩ : Pg).cells 29) → ∀ (k : Nat) (frm many : Int), Calls Tryz.prog 104 #[.int .i64 frm, .int .i64 many, .pointer (some ⟨W.heap.size, 0, none⟩)] (W2.drewN k) fun e w' => e = .returned (.bool (fitsB regs frm many)) ∧ w' = W2.drewN k := fun W2 h k frm many => fits_any (⟨ver, regs, binds, names, cons, curs, ⟨some ⟨g2, o2, none⟩, sn, sc⟩, tots, ⟨some ⟨g, o, none⟩, cn, cc⟩⟩ : Pg) _ frm many (W2.drewN k) h
 have hf := hg0 _ HT.out.2.2.1
 have hf1 := fun k => hf k ib x.d.n
 cases hb1 : fitsB regs ib x.d.n <;>
 · rw [hb1] at hf1
   go_enter Tryz.func47, Tryz.ntmps47
   go_wp2
   go_quiet (first
    | (go_at_call 104; exact Calls.quiet_of_same (hf1 _))
    | (go_at_call 104; exact Calls.quiet_of_same (hf _ ic _)))
   all_goals go_wp2
   all_goals go_ret
   all_goals refine ⟨?_, HT.out.1.drewN _⟩
   all_goals clear HT
   all_goals simp_all [runsB]
end Go.Proofs.Vf
