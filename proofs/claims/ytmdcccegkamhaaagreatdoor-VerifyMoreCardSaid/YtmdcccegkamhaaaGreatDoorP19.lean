/- The program's verify, flow and code, followed by hand: part 19. -/
import Derived.Test.YtmdcccegkamhaaaGreatDoorP15
import Derived.Laws.EntriesVeiled
import Derived.Test.YtmdcccegkamhaaaGreatDoorAbS0
import Derived.KernelRfl
set_option maxHeartbeats 4000000
set_option maxRecDepth 100000
set_option linter.unusedSectionVars false
set_option linter.unusedVariables false
set_option linter.unusedSimpArgs false
namespace Go.Proofs.Vf
open Go Go.Proofs Go.RowKit Go.Lib
attribute [local go_sem ↓] Go.wp_at_zero Go.wp_at_succ
theorem cl103 (bb q nb : Nat) (j : Nat) (s : Sl) (l : List Con) (w : World) (hj : j < s.n) (x : Con) (hx : l[j]? = some x) (hD : Lst w s 3 Con.cells l)
 (h1 : ∀ w', Below w.heap.size w w' → w'.cell? ⟨bb, 0, none⟩ = some (.func (.func 92) #[] #[.pointer (some ⟨nb, 0, none⟩)])) (h2 : ∀ w', Below w.heap.size w w' → w'.cell? ⟨q, 4, none⟩ = some (.slice s.a s.n s.c))
 (h4 : ∀ w', Below w.heap.size w w' → w'.cell? ⟨nb, 0, none⟩ = some (.int .i64 j)) :
 Gives 103 #[.pointer (some ⟨bb, 0, none⟩), .pointer (some ⟨q, 0, none⟩), .pointer (some ⟨nb, 0, none⟩)] w (.bool (x.k == 2)) := by
 have a1 := h1 w (Below.refl _ _)
 have a2 := h2 w (Below.refl _ _)
 have a4 := h4 w (Below.refl _ _)
 have b1 := fun o => h1 _ (Below.one w o)
 have b2 := fun o => h2 _ (Below.one w o)
 have b4 := fun o => h4 _ (Below.one w o)
 have k93 : Calls Tryz.prog 93 #[.pointer (some ⟨nb, 0, none⟩), .pointer (some ⟨w.heap.size, 0, none⟩)] (w.alloc (.cells #[.int .i64 s.n] 3)) fun e w' => e = .returned (.bool true) ∧ w' = (w.alloc (.cells #[.int .i64 s.n] 3)) := by
  have := cl93t nb w.heap.size j s.n _ (b4 _) (blk_cell (w := (w.alloc (.cells #[.int .i64 s.n] 3))) (heap_alloc_new w _) 0)
  rw [show below (j : Int) (s.n : Int) = true by unfold below; simp; omega] at this
  exact this
 have hsm := hD.small
 obtain ⟨gc, oc, e1, hgc, hc⟩ := hD.at' j x hx
 have hco : ∀ w', Below w.heap.size w w' → w'.cell? ⟨gc, oc + j * 3, none⟩ = some (.int .u8 x.k) := fun w' hb => (hb.cell (p := ⟨gc, oc + j * 3, none⟩) hgc).trans (by have := hc 0 (by omega); rw [Nat.add_zero] at this; exact this)
 have c0 := fun o => hco _ (Below.one w o)
 obtain ⟨ka, kn, kc⟩ := s
 obtain rfl : ka = some ⟨gc, oc, none⟩ := e1
 have hj' : j < kn := hj
 have hsm' : kn ≤ 9223372036854775807 := hsm
 have hlj : ((j : Int) < (kn : Int)) = True := by simp; omega
 clear h1 h2 h4 hD hco hc hsm hj hx
 unfold Gives
 go_enter Tryz.func103, Tryz.ntmps103
 go_wp2_with (first
  | (go_at_call 92; with_reducible refine (cl92 _ _ _).mono ?_; rintro e w2 ⟨rfl, rfl⟩)
  | (go_at_call 93; with_reducible refine k93.mono ?_; rintro e w3 ⟨rfl, rfl⟩))
 all_goals go_ret
 all_goals exact ⟨by first | rfl | simp, Below.one _ _⟩
end Go.Proofs.Vf
namespace Go.Proofs.Vf
open Go Go.Proofs Go.RowKit Go.Lib
open Go.Ab (Val AV Kn Hp VR VRL HR renL renU argMu argHp argHp_spec kn_hand)
open Go.Proofs.YtmdcccegkamhaaaGreatDoor (C0 gl0 cK ck_ok known_cons known_nil laid0)
def slF (p : Pg) : Nat → Sl
 | 0 => p.names
 | 1 => p.cons
 | 2 => p.curs
 | 3 => p.sorts
 | 4 => p.tots
 | 5 => p.code
 | _ => ⟨none, 0, 0⟩
def intF (p : Pg) (at_ n : Int) : Nat → Int
 | 0 => p.ver
 | 1 => p.regs
 | 2 => p.binds
 | 3 => at_
 | 4 => n
 | _ => 0
def tokF (p : Pg) (at_ n : Int) (r : Bool) (q d : Nat) : Value := match d with
 | 0 => .slice (slF p q).a (slF p q).n (slF p q).c
 | 1 => .int .i64 ((slF p q).n : Nat)
 | 2 => .int .i64 (intF p at_ n q)
 | _ => .bool r
theorem tok_len (p : Pg) (at_ n : Int) (r : Bool) (t : Nat) (h1 : 4294967296 ≤ t) (h2 : t % 4 = 0) : ∃ a m c, tokF p at_ n r ((t - 4294967296) / 4) ((t - 4294967296) % 4) = .slice a m c ∧ tokF p at_ n r ((t + 1 - 4294967296) / 4) ((t + 1 - 4294967296) % 4) = .int .i64 (m : Nat) := by
 obtain ⟨k, rfl⟩ := Nat.exists_eq_add_of_le h1
 have hk : k % 4 = 0 := by omega
 have e0 : 4294967296 + k - 4294967296 = k := Nat.add_sub_cancel_left _ _
 have e1 : 4294967296 + k + 1 - 4294967296 = k + 1 := by rw [Nat.add_assoc, Nat.add_sub_cancel_left]
 have e2 : (k + 1) % 4 = 1 := by omega
 have e3 : (k + 1) / 4 = k / 4 := by omega
 rw [e0, e1, e2, e3, hk]
 exact ⟨(slF p (k / 4)).a, (slF p (k / 4)).n, (slF p (k / 4)).c, rfl, rfl⟩
theorem tok_one (p : Pg) (at_ n : Int) (r : Bool) (t : Nat) : (tokF p at_ n r ((t - 4294967296) / 4) ((t - 4294967296) % 4)).oneCell' = true := by unfold tokF; split <;> rfl
abbrev tokV (p : Pg) (at_ n : Int) (r : Bool) : Val := ⟨⟨fun t => tokF p at_ n r ((t - 4294967296) / 4) ((t - 4294967296) % 4), tok_one p at_ n r, tok_len p at_ n r⟩⟩
theorem tok_nu (p : Pg) (at_ n : Int) (r : Bool) (t : Nat) : @Val.ν (tokV p at_ n r) t = tokF p at_ n r ((t - 4294967296) / 4) ((t - 4294967296) % 4) := by
 dsimp only [Val.ν, tokV, default, Inhabited.default]
theorem tok_at (p : Pg) (at_ n : Int) (r : Bool) (k : Nat) : @Val.ν (tokV p at_ n r) (4294967296 + k) = tokF p at_ n r (k / 4) (k % 4) := by
 have h := tok_nu p at_ n r (4294967296 + k)
 rw [Nat.add_sub_cancel_left] at h
 exact h
theorem fin {g : Nat} {args : Array Value} {w : World} {b : Bool} [Val] {v : AV} (h : Gives g args w (.bool b)) (hv : ∀ e, VR e v (.bool b)) : Calls Tryz.prog g args w fun en w' => ∃ v', en = .returned v' ∧ (∀ e, VR e v v') ∧ w'.os = w.os ∧ w'.output = w.output ∧ w.heap.size ≤ w'.heap.size ∧ ∀ i, i < w.heap.size → w'.heap[i]? = w.heap[i]? :=
 h.mono fun _ _ ⟨h1, h2⟩ => ⟨_, h1, hv, h2.os, h2.output, h2.size, h2.block⟩
section
variable [Val]
theorem arg_blk (bas : List (List AV × Nat)) {i : Nat} {q : List AV × Nat} (h : bas[i]? = some q) : (argHp gl0 12 bas).get (12 + i) = some (.flat (renL (renU (argMu 12 bas.length) 0) q.1) q.2) := (argHp_spec gl0 12 bas).2.2.2 i q h
theorem args1 {e : Go.Ab.Emb} {a : AV} {l : List Value} (h : VRL e [a] l) : ∃ v, l = [v] ∧ VR e a v := by
 cases h with
 | cons _ v _ l p q => cases q; exact ⟨v, rfl, p⟩
theorem args2 {e : Go.Ab.Emb} {a b : AV} {l : List Value} (h : VRL e [a, b] l) : ∃ u v, l = [u, v] ∧ VR e a u ∧ VR e b v := by
 cases h with
 | cons _ u _ l p q => obtain ⟨v, rfl, r⟩ := args1 q; exact ⟨u, v, rfl, p, r⟩
theorem args3 {e : Go.Ab.Emb} {a b c : AV} {l : List Value} (h : VRL e [a, b, c] l) : ∃ u v w, l = [u, v, w] ∧ VR e a u ∧ VR e b v ∧ VR e c w := by
 cases h with
 | cons _ u _ l p q => obtain ⟨v, w, rfl, r, s⟩ := args2 q; exact ⟨u, v, w, rfl, p, r, s⟩
theorem args4 {e : Go.Ab.Emb} {a b c d : AV} {l : List Value} (h : VRL e [a, b, c, d] l) : ∃ u v w x, l = [u, v, w, x] ∧ VR e a u ∧ VR e b v ∧ VR e c w ∧ VR e d x := by
 cases h with
 | cons _ u _ l p q => obtain ⟨v, w, x, rfl, r, s, t⟩ := args3 q; exact ⟨u, v, w, x, rfl, p, r, s, t⟩
end
abbrev tk (k : Nat) : AV := .nil (4294967296 + k)
abbrev progT : List AV := [tk 2, tk 6, tk 10, tk 0, tk 4, tk 8, tk 12, tk 16, tk 20]
def q96 : Kn := ⟨96, [.ptr 0 0 0], [([tk 18], 0)], tk 3, []⟩
theorem known96 (p : Pg) (at_ n : Int) : @Go.Proofs.YtmdcccegkamhaaaGreatDoor.Known (tokV p at_ n (n == 0)) q96 := by
 letI : Val := tokV p at_ n (n == 0)
 refine kn_hand laid0 (by decide) ⟨_, _, Tryz.func96, by kernel_rfl, rfl⟩ rfl (fun _ => rfl) fun e w args' hv hr => ?_
 obtain ⟨v, rfl, h1⟩ := args1 (show VRL e [.ptr 12 0 0] args' from hv)
 obtain ⟨x, x1, x2, x3, rfl⟩ := h1.ptr0
 obtain ⟨_, hc⟩ := hr.cell0 (arg_blk q96.bas (i := 0) rfl) x1 x2 x3
 obtain ⟨u, h2, h3⟩ := hc 0 (tk 18) rfl
 have h4 := h3.tokv (by decide)
 have h4 : u = .int .i64 n := h4.symm
 subst h4
 exact fin (cl96 x.r n w h2) fun e => .tok _ _ (by decide) rfl
abbrev Num [Val] (h : AV) (m : Int) : Prop := ∀ e v', VR e h v' → v' = .int .i64 m
theorem num_tok (p : Pg) (at_ n : Int) (r : Bool) (k : Nat) (m : Int) (h : tokF p at_ n r (k / 4) (k % 4) = .int .i64 m) : @Num (tokV p at_ n r) (tk k) m := by
 letI : Val := tokV p at_ n r
 intro e v' hv
 have h1 := hv.tokv (by omega)
 exact h1.symm.trans ((tok_at p at_ n r k).trans h)
theorem num_lit [Val] (m : Nat) : Num (.int .i64 (.ofNat m)) m := by
 intro e v' hv
 cases hv; rfl
def q93 (h v : AV) : Kn := ⟨93, [.ptr 0 0 0, .ptr 1 0 0], [([tk 18], 0), ([h], 0)], v, []⟩
theorem known93 (p : Pg) (at_ n : Int) (r : Bool) (h v : AV) (m : Int) (hh : @Num (tokV p at_ n r) h m) (hr : ∀ ρ, h.ren ρ = h) (hv : ∀ ρ, v.ren ρ = v) (hb : ∀ e, @VR (tokV p at_ n r) e v (.bool (below n m))) : @Go.Proofs.YtmdcccegkamhaaaGreatDoor.Known (tokV p at_ n r) (q93 h v) := by
 letI : Val := tokV p at_ n r
 refine kn_hand laid0 (show Nat.ble Go.Ab.yF 93 = false by decide) ⟨_, _, Tryz.func93, by kernel_rfl, rfl⟩ rfl hv fun e w args' hv' hr' => ?_
 obtain ⟨u, v, rfl, h1, h2⟩ := args2 (show VRL e [.ptr 12 0 0, .ptr 13 0 0] args' from hv')
 obtain ⟨x, x1, x2, x3, rfl⟩ := h1.ptr0
 obtain ⟨y, y1, y2, y3, rfl⟩ := h2.ptr0
 obtain ⟨_, hc⟩ := hr'.cell0 (arg_blk (q93 h v).bas (i := 0) rfl) x1 x2 x3
 obtain ⟨u, h3, h4⟩ := hc 0 (tk 18) rfl
 obtain rfl := num_tok p at_ n r 18 n rfl e u h4
 obtain ⟨_, hd⟩ := hr'.cell0 (arg_blk (q93 h v).bas (i := 1) rfl) y1 y2 y3
 obtain ⟨u', h5, h6⟩ := hd 0 (h.ren (renU (argMu 12 2) 0)) rfl
 rw [hr] at h6
 obtain rfl := hh e u' h6
 exact fin (cl93 x.r y.r n m w h3 h5) hb
def q98 : Kn := ⟨98, [.ptr 0 0 0, .ptr 1 0 0], [([tk 18], 0), ([tk 14], 0)], tk 3, []⟩
theorem known98 (p : Pg) (at_ n : Int) : @Go.Proofs.YtmdcccegkamhaaaGreatDoor.Known (tokV p at_ n (decide (1 ≤ n) && decide (n ≤ at_))) q98 := by
 letI : Val := tokV p at_ n (decide (1 ≤ n) && decide (n ≤ at_))
 refine kn_hand laid0 (by decide) ⟨_, _, Tryz.func98, by kernel_rfl, rfl⟩ rfl (fun _ => rfl) fun e w args' hv' hr' => ?_
 obtain ⟨u, v, rfl, h1, h2⟩ := args2 (show VRL e [.ptr 12 0 0, .ptr 13 0 0] args' from hv')
 obtain ⟨x, x1, x2, x3, rfl⟩ := h1.ptr0
 obtain ⟨y, y1, y2, y3, rfl⟩ := h2.ptr0
 obtain ⟨_, hc⟩ := hr'.cell0 (arg_blk q98.bas (i := 0) rfl) x1 x2 x3
 obtain ⟨u, h3, h4⟩ := hc 0 (tk 18) rfl
 obtain rfl := num_tok p at_ n _ 18 n rfl e u h4
 obtain ⟨_, hd⟩ := hr'.cell0 (arg_blk q98.bas (i := 1) rfl) y1 y2 y3
 obtain ⟨u', h5, h6⟩ := hd 0 (tk 14) rfl
 obtain rfl := num_tok p at_ n _ 14 at_ rfl e u' h6
 exact fin (cl98 x.r y.r n at_ w h3 h5) fun e => .tok _ _ (by decide) rfl
theorem sl_tok (p : Pg) (at_ n : Int) (r : Bool) (k : Nat) (s : Sl) (h : tokF p at_ n r (k / 4) (k % 4) = .slice s.a s.n s.c) {e : Go.Ab.Emb} {v' : Value} (hv : @VR (tokV p at_ n r) e (tk k) v') : v' = .slice s.a s.n s.c := by
 letI : Val := tokV p at_ n r
 have h1 := hv.tokv (by omega)
 exact h1.symm.trans ((tok_at p at_ n r k).trans h)
def q97 : Kn := ⟨97, [.ptr 0 0 0, .ptr 1 0 0, .ptr 2 0 0], [([tk 18], 0), ([tk 14], 0), (progT, 0)], tk 3, []⟩
theorem known97 (p : Pg) (at_ n : Int) : @Go.Proofs.YtmdcccegkamhaaaGreatDoor.Known (tokV p at_ n (decide (at_ < n) && decide (n < p.code.n))) q97 := by
 letI : Val := tokV p at_ n (decide (at_ < n) && decide (n < p.code.n))
 refine kn_hand laid0 (by decide) ⟨_, _, Tryz.func97, by kernel_rfl, rfl⟩ rfl (fun _ => rfl) fun e w args' hv' hr' => ?_
 obtain ⟨u, v, t, rfl, h1, h2, h0⟩ := args3 (show VRL e [.ptr 12 0 0, .ptr 13 0 0, .ptr 14 0 0] args' from hv')
 obtain ⟨x, x1, x2, x3, rfl⟩ := h1.ptr0
 obtain ⟨y, y1, y2, y3, rfl⟩ := h2.ptr0
 obtain ⟨z, z1, z2, z3, rfl⟩ := h0.ptr0
 obtain ⟨_, hc⟩ := hr'.cell0 (arg_blk q97.bas (i := 0) rfl) x1 x2 x3
 obtain ⟨u, h3, h4⟩ := hc 0 (tk 18) rfl
 obtain rfl := num_tok p at_ n _ 18 n rfl e u h4
 obtain ⟨_, hd⟩ := hr'.cell0 (arg_blk q97.bas (i := 1) rfl) y1 y2 y3
 obtain ⟨u', h5, h6⟩ := hd 0 (tk 14) rfl
 obtain rfl := num_tok p at_ n _ 14 at_ rfl e u' h6
 obtain ⟨_, hf⟩ := hr'.cell0 (arg_blk q97.bas (i := 2) rfl) z1 z2 z3
 obtain ⟨t', h7, h8⟩ := hf 8 (tk 20) rfl
 obtain rfl := sl_tok p at_ n _ 20 p.code rfl h8
 exact fin (cl97 x.r y.r z.r n at_ p.code w h3 h5 h7) fun e => .tok _ _ (by decide) rfl
def q99 : Kn := ⟨99, [.ptr 0 0 0, .ptr 1 0 0], [([tk 18], 0), (progT, 0)], tk 3, []⟩
theorem known99 (p : Pg) (at_ n : Int) : @Go.Proofs.YtmdcccegkamhaaaGreatDoor.Known (tokV p at_ n (decide (1 ≤ n) && decide (n ≤ p.regs))) q99 := by
 letI : Val := tokV p at_ n (decide (1 ≤ n) && decide (n ≤ p.regs))
 refine kn_hand laid0 (by decide) ⟨_, _, Tryz.func99, by kernel_rfl, rfl⟩ rfl (fun _ => rfl) fun e w args' hv' hr' => ?_
 obtain ⟨u, v, rfl, h1, h2⟩ := args2 (show VRL e [.ptr 12 0 0, .ptr 13 0 0] args' from hv')
 obtain ⟨x, x1, x2, x3, rfl⟩ := h1.ptr0
 obtain ⟨y, y1, y2, y3, rfl⟩ := h2.ptr0
 obtain ⟨_, hc⟩ := hr'.cell0 (arg_blk q99.bas (i := 0) rfl) x1 x2 x3
 obtain ⟨u, h3, h4⟩ := hc 0 (tk 18) rfl
 obtain rfl := num_tok p at_ n _ 18 n rfl e u h4
 obtain ⟨_, hd⟩ := hr'.cell0 (arg_blk q99.bas (i := 1) rfl) y1 y2 y3
 obtain ⟨u', h5, h6⟩ := hd 1 (tk 6) rfl
 obtain rfl := num_tok p at_ n _ 6 p.regs rfl e u' h6
 exact fin (cl99 x.r y.r n p.regs w h3 h5) fun e => .tok _ _ (by decide) rfl
theorem fn_inv [Val] {e : Go.Ab.Emb} {g : Nat} {b : Nat} {v' : Value} (hg : Nat.beq g Go.Ab.yF = false) (h : VR e (.fn g [] [.ptr b 0 0]) v') : ∃ x, e b 0 = some x ∧ v' = .func (.func g) #[] #[.pointer (some ⟨x.r, 0, none⟩)] := by
 generalize hu : AV.fn g [] [.ptr b 0 0] = u at h
 cases h <;> first | (cases hu; done) | skip
 case yld => cases hu; exact absurd hg (by decide)
 case fn g a c a' c' p q r =>
  cases hu
  cases q
  obtain ⟨v, rfl, h1⟩ := args1 r
  obtain ⟨x, x1, _, _, rfl⟩ := h1.ptr0
  exact ⟨x, x1, rfl⟩
theorem fn_inv0 [Val] {e : Go.Ab.Emb} {g : Nat} {v' : Value} (h : VR e (.fn g [] []) v') : v' = .func (.func g) #[] #[] := by
 generalize hu : AV.fn g [] [] = u at h
 cases h <;> first | (cases hu; done) | skip
 case fn g a c a' c' p q r =>
  cases hu
  cases q
  cases r
  rfl
end Go.Proofs.Vf
namespace Go.Proofs.Vf
open Go Go.Proofs Go.RowKit Go.Lib
open Go.Ab (Val AV Kn Hp VR VRL HR Holds globHp globHp_n init_sim initE initE_spec avEq avEq_eq R2 beq_iff run_callFunc)
open Go.Proofs.YtmdcccegkamhaaaGreatDoor (C0 gl0 cK ck_ok known_cons known_nil laid0)
noncomputable def resIs (v : AV) (r : R2) : Bool := R2.rec (motive := fun _ => Bool) (fun u _ => avEq u v) (fun _ => false) r
abbrev val0 : Val := tokV ⟨0, 0, 0, ⟨none, 0, 0⟩, ⟨none, 0, 0⟩, ⟨none, 0, 0⟩, ⟨none, 0, 0⟩, ⟨none, 0, 0⟩, ⟨none, 0, 0⟩⟩ 0 0 false
theorem resIs_ok {v : AV} {r : R2} (h : resIs v r = true) : ∃ h', r = .ok v h' := by
 cases r with
 | no q => cases h
 | ok u h' => exact ⟨h', by rw [@avEq_eq val0 _ _ (show avEq u v = true from h)]⟩
theorem run_calls [Val] {l : List Kn} (hl : ∀ q ∈ l, Go.Proofs.YtmdcccegkamhaaaGreatDoor.Known q) {g : Nat} {fn : Func} {b : Code} (hgy : Nat.ble Go.Ab.yF g = false) (hf : Tryz.prog.funcs[g]? = some fn) (hname : (fn.name == "runtime.NumGoroutine") = false) (hb : fn.body = some b) {args : List AV} {v : AV} (hx : resIs v (cK l g args (globHp gl0 12)) = true) {w : World} (h : Holds gl0 w) {args' : List Value} (hv : VRL (initE gl0) args args') :
 Calls Tryz.prog g args'.toArray w fun e w' => ∃ u e', e = .returned u ∧ VR e' v u ∧ Below w.heap.size w w' := by
 obtain ⟨hr, hg⟩ := init_sim laid0 h
 have L := laid0
 have hc := ck_ok l hl
 obtain ⟨h', hrun⟩ := resIs_ok hx
 rcases hc _ _ _ _ _ hrun with ⟨_, _, hcall⟩ | ⟨_, hval⟩ | ⟨hh, _⟩
 case inr.inr => rw [hh] at hgy; exact absurd hgy (by decide)
 · refine Calls.mono (hcall _ w _ hg hv hr) fun en w' he => ?_
   obtain ⟨v', e', rfl, hvr, hext⟩ := he
   refine ⟨v', e', rfl, hvr, hext.os, hext.output, hext.size, fun i hi => ?_⟩
   refine hext.frame i hi fun b g x hb hxr => ?_
   obtain ⟨_, q, hq, rfl, rfl⟩ := initE_spec hb
   have h1 := List.all_eq_true.1 (show gl0.all _ = true from L.ok) q hq
   refine ⟨by rw [globHp_n]; exact L.lt' (List.mem_map_of_mem hq), .inl ?_⟩
   split at h1
   · rename_i l z hh
     rw [Bool.and_eq_true] at h1
     have hz := beq_iff.1 h1.1
     subst hz
     exact ⟨.flat l 3, hh, show (3 : Nat) = 3 from rfl⟩
   · cases h1
 · obtain ⟨v', w', e', h1, _⟩ := hval _ w _ hg hv hr
   rw [run_callFunc (P := C0.P) (show C0.P.funcs[g]? = some fn from hf) hname hb] at h1
   cases h1
abbrev fargs (c : Nat) : List AV := [.agg progT, tk 14, .int .u8 (.ofNat c), tk 18]
theorem tok_vr (p : Pg) (at_ n : Int) (r : Bool) (k : Nat) (v : Value) (h : tokF p at_ n r (k / 4) (k % 4) = v) (e : Go.Ab.Emb) : @VR (tokV p at_ n r) e (tk k) v := by
 letI : Val := tokV p at_ n r
 exact .tok _ _ (by omega) ((tok_at p at_ n r k).trans h)
theorem fargs_vr (p : Pg) (at_ n : Int) (r : Bool) (c : Nat) (e : Go.Ab.Emb) : @VRL (tokV p at_ n r) e (fargs c) [p.v, .int .i64 at_, .int .u8 c, .int .i64 n] := by
 letI : Val := tokV p at_ n r
 have t := fun k v h => tok_vr p at_ n r k v h e
 refine .cons _ _ _ _ ?_ (.cons _ _ _ _ (t 14 _ rfl) (.cons _ _ _ _ (.int _ _) (.cons _ _ _ _ (t 18 _ rfl) .nil)))
 refine .agg progT [.int .i64 p.ver, .int .i64 p.regs, .int .i64 p.binds, .slice p.names.a p.names.n p.names.c, .slice p.cons.a p.cons.n p.cons.c, .slice p.curs.a p.curs.n p.curs.c, .slice p.sorts.a p.sorts.n p.sorts.c, .slice p.tots.a p.tots.n p.tots.c, .slice p.code.a p.code.n p.code.c] ?_ (by decide)
 exact .cons _ _ _ _ (t 2 _ rfl) (.cons _ _ _ _ (t 6 _ rfl) (.cons _ _ _ _ (t 10 _ rfl) (.cons _ _ _ _ (t 0 _ rfl) (.cons _ _ _ _ (t 4 _ rfl) (.cons _ _ _ _ (t 8 _ rfl) (.cons _ _ _ _ (t 12 _ rfl) (.cons _ _ _ _ (t 16 _ rfl) (.cons _ _ _ _ (t 20 _ rfl) .nil))))))))
theorem field_of (p : Pg) (at_ n : Int) (r : Bool) {l : List Kn} (hl : ∀ q ∈ l, @Go.Proofs.YtmdcccegkamhaaaGreatDoor.Known (tokV p at_ n r) q) {c : Nat} {v : AV} (hx : resIs v (cK l 46 (fargs c) (globHp gl0 12)) = true) {b : Bool} (hb : ∀ e u, @VR (tokV p at_ n r) e v u → u = .bool b) (w : World) (hh : ∀ V : Val, @Holds V gl0 w) :
 Gives 46 #[p.v, .int .i64 at_, .int .u8 c, .int .i64 n] w (.bool b) := by
 letI : Val := tokV p at_ n r
 have hy : Nat.ble Go.Ab.yF 46 = false := by decide
 have hname : (Tryz.f46.name == "runtime.NumGoroutine") = false := by kernel_rfl
 refine (run_calls hl hy Tryz.func46 hname rfl hx (hh _) (fargs_vr p at_ n r c _)).mono ?_
 rintro e w' ⟨u, e', rfl, hu, hbl⟩
 exact ⟨by rw [hb _ _ hu], hbl⟩
theorem bool_tok (p : Pg) (at_ n : Int) (r : Bool) (e : Go.Ab.Emb) (u : Value) (h : @VR (tokV p at_ n r) e (tk 3) u) : u = .bool r := by
 letI : Val := tokV p at_ n r
 exact (h.tokv (by decide)).symm
theorem bool_lit [Val] (b : Bool) (e : Go.Ab.Emb) (u : Value) (h : VR e (.bool b) u) : u = .bool b := by cases h; rfl
end Go.Proofs.Vf
