/- The program's verify, flow and code, followed by hand: part 21. -/
import Derived.Test.YtmdcccegkamhaaaGreatDoorP19
import Derived.Test.YtmdcccegkamhaaaGreatDoorAbL5
set_option maxHeartbeats 4000000
set_option maxRecDepth 100000
set_option linter.unusedSectionVars false
set_option linter.unusedVariables false
set_option linter.unusedSimpArgs false
namespace Go.Proofs.Vf
open Go Go.Proofs Go.RowKit Go.Lib
open Go.Ab (Val AV Kn Hp VR VRL HR Holds globHp globHp_n init_sim initE initE_spec avEq avEq_eq avEqL avEqL_eq R2 beq_iff run_callFunc Out Fr runC mkC runR mkSeq frameOf slot path setT mid_sim mkRes leave CallT Blk)
open Go.Proofs.YtmdcccegkamhaaaGreatDoor (C0 gl0 cK ck_ok known_cons known_nil laid0 draw0 named0)
def sqA : Code → Code
 | .seq a _ => a
 | c => c
def sqB : Code → Code
 | .seq _ b => b
 | c => c
def opsOf : Code → Array Oper
 | .region _ o _ => o
 | _ => #[]
noncomputable def b46 : Code := Tryz.f46.body.getD .skip
noncomputable def pc : Nat → Code
 | 0 => sqA b46
 | 1 => sqA (sqB b46)
 | 2 => sqA (sqB (sqB b46))
 | _ => sqA (sqB (sqB (sqB b46)))
noncomputable def ops4 : Array Oper := opsOf (sqA (sqB (sqB (sqB (sqB b46)))))
theorem body46 : Tryz.f46.body = some (.seq (pc 0) (.seq (pc 1) (.seq (pc 2) (.seq (pc 3) (.seq (.region 4 ops4 false) .ret))))) := rfl
theorem op3 : ∃ pos after, ops4[3]? = some { dst := some 66, op := Op.call { callee := Callee.value (Operand.tmp 65), args := #[], argTypes := #[] }, type := 4, pos := pos, after := after, guard := none } := ⟨_, _, rfl⟩
noncomputable def oF (o : Out) : Fr := Out.rec (motive := fun _ => Fr) (fun f _ => f) (fun _ f _ => f) (fun f _ => f) (fun _ => .e) o
noncomputable def oH (o : Out) : Hp := Out.rec (motive := fun _ => Hp) (fun _ h => h) (fun _ _ h => h) (fun _ h => h) (fun _ => globHp gl0 12) o
noncomputable def oN (o : Out) : Bool := Out.rec (motive := fun _ => Bool) (fun _ _ => true) (fun _ _ _ => false) (fun _ _ => false) (fun _ => false) o
theorem oN_eq {o : Out} (h : oN o = true) : o = .norm (oF o) (oH o) := by
 cases o with
 | norm f h => rfl
 | exit _ _ _ => cases h
 | ret _ _ => cases h
 | no _ => cases h
abbrev K46 : Nat := 67
noncomputable section
def S1 (c : Nat) : Out := runC (mkC C0 Tryz.f46.ntmps (pc 0)) 1000 (cK []) (frameOf (fargs c) 0 .e).out (globHp gl0 12)
def S2 (c : Nat) : Out := runC (mkC C0 Tryz.f46.ntmps (pc 1)) 1000 (cK []) (oF (S1 c)) (oH (S1 c))
def S3 (c : Nat) : Out := runC (mkC C0 Tryz.f46.ntmps (pc 2)) 1000 (cK []) (oF (S2 c)) (oH (S2 c))
def S4 (c : Nat) : Out := runC (mkC C0 Tryz.f46.ntmps (pc 3)) 1000 (cK []) (oF (S3 c)) (oH (S3 c))
def S5 (c : Nat) : Out := runR (mkSeq C0 Tryz.f46.ntmps ops4.toList (ops4.toList.take 3)) (cK []) (oF (S4 c)) (oH (S4 c))
def S6 (c : Nat) : Out := runR (mkSeq C0 Tryz.f46.ntmps ops4.toList (ops4.toList.drop 4)) (cK []) (setT (tk 3) (path 66) (oF (S5 c))) (oH (S5 c))
def S7 (c : Nat) : R2 := leave ⟨mkC C0 Tryz.f46.ntmps b46, mkRes C0 Tryz.f46.results.toList⟩ (oF (S6 c)) (oH (S6 c))
def blkIs (h : Hp) (b : Nat) (l : List AV) : Bool := match h.get b with
 | some (.flat l' _) => avEqL l' l
 | _ => false
def cl4 (h : Hp) (g : Nat) (v : AV) : Bool := match v with
 | .fn 95 [] [.ptr a 0 0, .ptr b 0 0, .ptr c 0 0, .ptr d 0 0] => blkIs h a [.fn 92 [] [.ptr d 0 0]] && blkIs h b progT && blkIs h c [.fn g [] []] && blkIs h d [tk 18]
 | _ => false
def cl3 (h : Hp) (v : AV) : Bool := match v with
 | .fn 103 [] [.ptr a 0 0, .ptr b 0 0, .ptr d 0 0] => blkIs h a [.fn 92 [] [.ptr d 0 0]] && blkIs h b progT && blkIs h d [tk 18]
 | _ => false
def pcs (c : Nat) : Bool := oN (S1 c) && oN (S2 c) && oN (S3 c) && oN (S4 c) && oN (S5 c) && oN (S6 c) && resIs (tk 3) (S7 c)
end
theorem below_of_ext [Val] {w w' : World} {e' : Go.Ab.Emb} {h' : Hp} (hext : Go.Ab.Ext (initE gl0) (globHp gl0 12) w e' h' w') : Below w.heap.size w w' := by
 have L := laid0
 refine ⟨hext.os, hext.output, hext.size, fun i hi => ?_⟩
 refine hext.frame i hi fun b g x hb hxr => ?_
 obtain ⟨_, q, hq, rfl, rfl⟩ := initE_spec hb
 have h1 := List.all_eq_true.1 (show gl0.all _ = true from L.ok) q hq
 refine ⟨by rw [globHp_n]; exact L.lt' (List.mem_map_of_mem hq), .inl ?_⟩
 split at h1
 · rename_i l z hh
   rw [Bool.and_eq_true] at h1
   have hz := beq_iff.1 h1.1
   subst hz
   exact ⟨.flat l 3, hh, show (3 : Nat) = 3 from rfl⟩
 · cases h1
theorem field_mid {c : Nat} (hp : pcs c = true) (p : Pg) (at_ n : Int) (r : Bool) (W : World) (hh : ∀ V : Val, @Holds V gl0 W)
 (hcl : ∀ e1 w1, @HR (tokV p at_ n r) e1 (oH (S5 c)) w1 → Below W.heap.size W w1 → ∀ v, @VR (tokV p at_ n r) e1 (slot (oF (S5 c)) 65) v → ∃ (g1 : FuncId) (fn1 : Func) (b1 : Code) (caps : List Value), v = .func (.func g1) #[] caps.toArray ∧ Tryz.prog.funcs[g1]? = some fn1 ∧ (fn1.name == "runtime.NumGoroutine") = false ∧ fn1.body = some b1 ∧ Gives g1 caps.toArray w1 (.bool r)) :
 Gives 46 #[p.v, .int .i64 at_, .int .u8 c, .int .i64 n] W (.bool r) := by
 letI : Val := tokV p at_ n r
 unfold pcs at hp
 simp only [Bool.and_eq_true] at hp
 obtain ⟨⟨⟨⟨⟨⟨e1, e2⟩, e3⟩, e4⟩, e5⟩, e6⟩, e7⟩ := hp
 obtain ⟨h', e7⟩ := resIs_ok e7
 obtain ⟨hr, hg⟩ := init_sim laid0 (hh _)
 obtain ⟨pos, after, ho⟩ := op3
 have hM := mid_sim (C := C0) draw0 named0 (ck_ok [] known_nil) Tryz.func46 body46 hg (fargs_vr p at_ n r c _) hr (oN_eq e1) (oN_eq e2) (oN_eq e3) (oN_eq e4) (oN_eq e5) ho rfl (of_decide_eq_true (by kernel_rfl)) (gd := none) rfl rfl rfl (q := tk 3)
  (fun e1 a1 w1 X hf => ?_) (oN_eq e6) e7
 · refine hM.mono ?_
   rintro e w' ⟨v', e', rfl, hv, hext⟩
   exact ⟨by rw [bool_tok p at_ n r _ _ hv], below_of_ext hext⟩
 · obtain ⟨g1, fn1, b1, caps, q1, k1, k2, k3, k4⟩ := hcl e1 w1 X.hr (below_of_ext X) _ (hf.1 65)
   refine ⟨g1, fn1, b1, caps, k1, k2, k3, ?_, k4.mono ?_⟩
   · have q2 : a1.eval (.tmp 65) = .func (.func g1) #[] caps.toArray := q1
     simp only [execOp, resolve, Deferred.ofValue, q2, Sem.run_bind, Sem.run_pure, Result.andThen_ok, invoke]
     congr 2
     apply Array.toList_inj.1
     simp
   · rintro e w' ⟨rfl, hb⟩
     exact ⟨_, rfl, tok_vr p at_ n r 3 _ rfl _, Go.Ab.Ext.grown X.hr hb.os hb.output hb.size hb.block⟩
end Go.Proofs.Vf
