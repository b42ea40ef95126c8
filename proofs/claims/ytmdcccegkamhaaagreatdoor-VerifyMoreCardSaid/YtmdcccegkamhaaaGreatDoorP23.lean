/- The program's verify, flow and code, followed by hand: part 23. -/
import Derived.Test.YtmdcccegkamhaaaGreatDoorP20
import Derived.Test.YtmdcccegkamhaaaGreatDoorP21
import Derived.Test.YtmdcccegkamhaaaGreatDoorP16
import Derived.Test.YtmdcccegkamhaaaGreatDoorP17
import Derived.Test.YtmdcccegkamhaaaGreatDoorP18
import Derived.Test.YtmdcccegkamhaaaGreatDoorP19
import Derived.Test.YtmdcccegkamhaaaGreatDoorP22
set_option maxHeartbeats 4000000
set_option maxRecDepth 100000
set_option linter.unusedSectionVars false
set_option linter.unusedVariables false
set_option linter.unusedSimpArgs false
namespace Go.Proofs.Vf
open Go Go.Proofs Go.RowKit Go.Lib
open Go.Ab (Val AV Kn Hp VR VRL HR Holds globHp avEqL avEqL_eq slot)
open Go.Proofs.YtmdcccegkamhaaaGreatDoor (C0 gl0 cK known_cons known_nil laid0)
theorem blkIs_inv {h : Hp} {b : Nat} {l : List AV} (hx : blkIs h b l = true) : ∃ z, h.get b = some (.flat l z) := by
 unfold blkIs at hx
 split at hx
 · rename_i l' z hh
   rw [@avEqL_eq val0 _ _ hx] at hh
   exact ⟨z, hh⟩
 · cases hx
theorem cl4_inv {h : Hp} {g : Nat} {v : AV} (hx : cl4 h g v = true) : ∃ a b c d, v = .fn 95 [] [.ptr a 0 0, .ptr b 0 0, .ptr c 0 0, .ptr d 0 0] ∧ (∃ z, h.get a = some (.flat [.fn 92 [] [.ptr d 0 0]] z)) ∧ (∃ z, h.get b = some (.flat progT z)) ∧ (∃ z, h.get c = some (.flat [.fn g [] []] z)) ∧ (∃ z, h.get d = some (.flat [tk 18] z)) := by
 unfold cl4 at hx
 split at hx
 · rename_i a b c d
   simp only [Bool.and_eq_true] at hx
   exact ⟨a, b, c, d, rfl, blkIs_inv hx.1.1.1, blkIs_inv hx.1.1.2, blkIs_inv hx.1.2, blkIs_inv hx.2⟩
 · cases hx
theorem cl3_inv {h : Hp} {v : AV} (hx : cl3 h v = true) : ∃ a b d, v = .fn 103 [] [.ptr a 0 0, .ptr b 0 0, .ptr d 0 0] ∧ (∃ z, h.get a = some (.flat [.fn 92 [] [.ptr d 0 0]] z)) ∧ (∃ z, h.get b = some (.flat progT z)) ∧ (∃ z, h.get d = some (.flat [tk 18] z)) := by
 unfold cl3 at hx
 split at hx
 · rename_i a b d
   simp only [Bool.and_eq_true] at hx
   exact ⟨a, b, d, rfl, blkIs_inv hx.1.1, blkIs_inv hx.1.2, blkIs_inv hx.2⟩
 · cases hx
theorem fn_args [Val] {e : Go.Ab.Emb} {g : Nat} {l : List AV} {v' : Value} (hl : ∀ m, l ≠ [.ptr m 0 0]) (h : VR e (.fn g [] l) v') : ∃ l', VRL e l l' ∧ v' = .func (.func g) #[] l'.toArray := by
 generalize hu : AV.fn g [] l = u at h
 cases h <;> first | (cases hu; done) | skip
 case yld m x _ _ => cases hu; exact absurd rfl (hl m)
 case fn g a c a' c' p q r =>
  cases hu
  cases q
  exact ⟨c', r, rfl⟩
theorem cl95 {g : Nat} (hg : g = 100 ∨ g = 101 ∨ g = 102) (bb q ob nb : Nat) (j : Nat) (s : Sl) (l : List Cur) (w : World) (hj : j < s.n) (x : Cur) (hx : l[j]? = some x) (hD : Lst w s 3 Cur.cells l)
 (h1 : ∀ w', Below w.heap.size w w' → w'.cell? ⟨bb, 0, none⟩ = some (.func (.func 92) #[] #[.pointer (some ⟨nb, 0, none⟩)])) (h2 : ∀ w', Below w.heap.size w w' → w'.cell? ⟨q, 5, none⟩ = some (.slice s.a s.n s.c))
 (h3 : ∀ w', Below w.heap.size w w' → w'.cell? ⟨ob, 0, none⟩ = some (.func (.func g) #[] #[])) (h4 : ∀ w', Below w.heap.size w w' → w'.cell? ⟨nb, 0, none⟩ = some (.int .i64 j)) :
 Gives 95 #[.pointer (some ⟨bb, 0, none⟩), .pointer (some ⟨q, 0, none⟩), .pointer (some ⟨ob, 0, none⟩), .pointer (some ⟨nb, 0, none⟩)] w (.bool (curOK g x)) := by
 rcases hg with rfl | rfl | rfl
 · exact cl95_100 bb q ob nb j s l w hj x hx hD h1 h2 h3 h4
 · exact cl95_101 bb q ob nb j s l w hj x hx hD h1 h2 h3 h4
 · exact cl95_102 bb q ob nb j s l w hj x hx hD h1 h2 h3 h4
theorem stays {w : World} {r o : Nat} {v : Value} (hr : r < w.heap.size) (h : w.cell? ⟨r, o, none⟩ = some v) : ∀ w', Below w.heap.size w w' → w'.cell? ⟨r, o, none⟩ = some v := fun _ hb => (hb.cell (p := ⟨r, o, none⟩) hr).trans h
theorem field_cur {c g : Nat} (hg : g = 100 ∨ g = 101 ∨ g = 102) (hpc : pcs c = true) (hch : cl4 (oH (S5 c)) g (slot (oF (S5 c)) 65) = true) (p : Pg) (D : Dat) (at_ : Int) (j : Nat) (hj : j < p.curs.n) (x : Cur) (hx : D.curs[j]? = some x) (W : World) (hp : Has W p D) (hh : ∀ V : Val, @Holds V gl0 W) :
 Gives 46 #[p.v, .int .i64 at_, .int .u8 c, .int .i64 j] W (.bool (curOK g x)) := by
 refine field_mid hpc p at_ j (curOK g x) W hh fun e1 w1 hr hb v hv => ?_
 letI : Val := tokV p at_ j (curOK g x)
 obtain ⟨a, b, k, d, hs, ⟨_, ha⟩, ⟨_, hb2⟩, ⟨_, hc⟩, ⟨_, hd⟩⟩ := cl4_inv hch
 rw [hs] at hv
 obtain ⟨l', hl, rfl⟩ := fn_args (fun m h => by cases h) hv
 obtain ⟨va, vb, vc, vd, rfl, r1, r2, r3, r4⟩ := args4 hl
 obtain ⟨xa, a1, a2, a3, rfl⟩ := r1.ptr0
 obtain ⟨xb, b1, b2, b3, rfl⟩ := r2.ptr0
 obtain ⟨xc, c1, c2, c3, rfl⟩ := r3.ptr0
 obtain ⟨xd, d1, d2, d3, rfl⟩ := r4.ptr0
 obtain ⟨sa, ca⟩ := hr.cell0 ha a1 a2 a3
 obtain ⟨sb, cb⟩ := hr.cell0 hb2 b1 b2 b3
 obtain ⟨sc, cc⟩ := hr.cell0 hc c1 c2 c3
 obtain ⟨sd, cd⟩ := hr.cell0 hd d1 d2 d3
 obtain ⟨ua, ca1, ca2⟩ := ca 0 _ rfl
 obtain ⟨y, y1, rfl⟩ := fn_inv (by decide) ca2
 rw [d1] at y1; cases y1
 obtain ⟨ub, cb1, cb2⟩ := cb 5 (tk 8) rfl
 obtain rfl := sl_tok p at_ j _ 8 p.curs rfl cb2
 obtain ⟨uc, cc1, cc2⟩ := cc 0 _ rfl
 obtain rfl := fn_inv0 cc2
 obtain ⟨ud, cd1, cd2⟩ := cd 0 (tk 18) rfl
 obtain rfl := num_tok p at_ j _ 18 j rfl e1 ud cd2
 exact ⟨95, _, _, _, rfl, Tryz.func95, by kernel_rfl, rfl, cl95 hg xa.r xb.r xc.r xd.r j p.curs D.curs w1 hj x hx (hp.curs.on hb) (stays sa ca1) (stays sb cb1) (stays sc cc1) (stays sd cd1)⟩
theorem field_con {c : Nat} (hpc : pcs c = true) (hch : cl3 (oH (S5 c)) (slot (oF (S5 c)) 65) = true) (p : Pg) (D : Dat) (at_ : Int) (j : Nat) (hj : j < p.cons.n) (x : Con) (hx : D.cons[j]? = some x) (W : World) (hp : Has W p D) (hh : ∀ V : Val, @Holds V gl0 W) :
 Gives 46 #[p.v, .int .i64 at_, .int .u8 c, .int .i64 j] W (.bool (x.k == 2)) := by
 refine field_mid hpc p at_ j (x.k == 2) W hh fun e1 w1 hr hb v hv => ?_
 letI : Val := tokV p at_ j (x.k == 2)
 obtain ⟨a, b, d, hs, ⟨_, ha⟩, ⟨_, hb2⟩, ⟨_, hd⟩⟩ := cl3_inv hch
 rw [hs] at hv
 obtain ⟨l', hl, rfl⟩ := fn_args (fun m h => by cases h) hv
 obtain ⟨va, vb, vd, rfl, r1, r2, r4⟩ := args3 hl
 obtain ⟨xa, a1, a2, a3, rfl⟩ := r1.ptr0
 obtain ⟨xb, b1, b2, b3, rfl⟩ := r2.ptr0
 obtain ⟨xd, d1, d2, d3, rfl⟩ := r4.ptr0
 obtain ⟨sa, ca⟩ := hr.cell0 ha a1 a2 a3
 obtain ⟨sb, cb⟩ := hr.cell0 hb2 b1 b2 b3
 obtain ⟨sd, cd⟩ := hr.cell0 hd d1 d2 d3
 obtain ⟨ua, ca1, ca2⟩ := ca 0 _ rfl
 obtain ⟨y, y1, rfl⟩ := fn_inv (by decide) ca2
 rw [d1] at y1; cases y1
 obtain ⟨ub, cb1, cb2⟩ := cb 4 (tk 4) rfl
 obtain rfl := sl_tok p at_ j _ 4 p.cons rfl cb2
 obtain ⟨ud, cd1, cd2⟩ := cd 0 (tk 18) rfl
 obtain rfl := num_tok p at_ j _ 18 j rfl e1 ud cd2
 exact ⟨103, _, _, _, rfl, Tryz.func103, by kernel_rfl, rfl, cl103 xa.r xb.r xd.r j p.cons D.cons w1 hj x hx (hp.cons.on hb) (stays sa ca1) (stays sb cb1) (stays sd cd1)⟩
end Go.Proofs.Vf
namespace Go.Proofs.Vf
open Go Go.Proofs Go.RowKit Go.Lib
open Go.Ab (Val AV Kn VR Holds)
open Go.Proofs.YtmdcccegkamhaaaGreatDoor (gl0 known_cons known_nil)
theorem kn1 (V : Val) {q : Kn} (h : @Go.Proofs.YtmdcccegkamhaaaGreatDoor.Known V q) : ∀ q' ∈ [q], @Go.Proofs.YtmdcccegkamhaaaGreatDoor.Known V q' := fun q' hq => by
 rw [List.mem_singleton] at hq; subst hq; exact h
theorem fieldOK (W0 : World) (hh : ∀ V : Val, @Holds V gl0 W0) : FieldOK W0 := by
 intro w hb p D hp at_ c n hc
 have hw : ∀ V : Val, @Holds V gl0 w := fun V q hq => by
  obtain ⟨h1, cc, ty, h2, h3⟩ := hh V q hq
  exact ⟨h1, cc, ty, (hb.block _ (Array.getElem?_eq_some_iff.1 h2).1).trans h2, h3⟩
 generalize c.toNat = k at hc
 have rn : ∀ ρ (t : Nat), (AV.nil t).ren ρ = .nil t := fun _ _ => rfl
 have tokb : ∀ (t : Nat) (m : Int), (∀ r, tokF p at_ n r (t / 4) (t % 4) = .int .i64 m) → ∀ k, (∀ r, resIs (tk 3) (Go.Proofs.YtmdcccegkamhaaaGreatDoor.cK [q93 (tk t) (tk 3)] 46 (fargs k) (Go.Ab.globHp gl0 12)) = r → r = true) → Gives 46 #[p.v, .int .i64 at_, .int .u8 k, .int .i64 n] w (.bool (below n m)) := fun t m ht k hx =>
  field_of p at_ n (below n m) (kn1 _ (known93 p at_ n (below n m) (tk t) (tk 3) m (num_tok p at_ n _ t m (ht _)) (fun _ => rfl) (fun _ => rfl) (fun e => tok_vr p at_ n _ 3 _ rfl e))) (hx _ rfl) (fun e u h => bool_tok p at_ n _ e u h) w hw
 have litb : ∀ (m : Nat) (k : Nat), (∀ r, resIs (tk 3) (Go.Proofs.YtmdcccegkamhaaaGreatDoor.cK [q93 (.int .i64 (.ofNat m)) (tk 3)] 46 (fargs k) (Go.Ab.globHp gl0 12)) = r → r = true) → Gives 46 #[p.v, .int .i64 at_, .int .u8 k, .int .i64 n] w (.bool (below n m)) := fun m k hx =>
  field_of p at_ n (below n m) (kn1 _ (known93 p at_ n (below n m) (.int .i64 (.ofNat m)) (tk 3) m (@num_lit (tokV p at_ n (below n m)) m) (fun _ => rfl) (fun _ => rfl) (fun e => tok_vr p at_ n _ 3 _ rfl e))) (hx _ rfl) (fun e u h => bool_tok p at_ n _ e u h) w hw
 have falb : ∀ (t : Nat) (m : Int), below n m = false → tokF p at_ n false (t / 4) (t % 4) = .int .i64 m → ∀ k, (∀ r, resIs (.bool false) (Go.Proofs.YtmdcccegkamhaaaGreatDoor.cK [q93 (tk t) (.bool false)] 46 (fargs k) (Go.Ab.globHp gl0 12)) = r → r = true) → Gives 46 #[p.v, .int .i64 at_, .int .u8 k, .int .i64 n] w (.bool false) := fun t m hf ht k hx =>
  field_of p at_ n false (kn1 _ (known93 p at_ n false (tk t) (.bool false) m (num_tok p at_ n _ t m ht) (fun _ => rfl) (fun _ => rfl) (fun e => by rw [hf]; exact @VR.bool (tokV p at_ n false) e false))) (hx _ rfl) (fun e u h => @bool_lit (tokV p at_ n false) false e u h) w hw
 have curb : ∀ (k g : Nat), (g = 100 ∨ g = 101 ∨ g = 102) → (pcs k && cl4 (oH (S5 k)) g (Go.Ab.slot (oF (S5 k)) 65)) = true → (∀ r, resIs (.bool false) (Go.Proofs.YtmdcccegkamhaaaGreatDoor.cK [q93 (tk 9) (.bool false)] 46 (fargs k) (Go.Ab.globHp gl0 12)) = r → r = true) → Gives 46 #[p.v, .int .i64 at_, .int .u8 k, .int .i64 n] w (.bool (below n p.curs.n && curT D g n)) := fun k g hg hm hx => by
  cases hbl : below n p.curs.n with
  | false => exact falb 9 p.curs.n hbl rfl k hx
  | true =>
    obtain ⟨j, rfl, hj⟩ : ∃ j : Nat, n = j ∧ j < p.curs.n := by
     unfold below at hbl
     simp only [Bool.and_eq_true, decide_eq_true_eq] at hbl
     exact ⟨n.toNat, by omega, by omega⟩
    obtain ⟨x, hx2⟩ : ∃ x, D.curs[j]? = some x := ⟨_, List.getElem?_eq_getElem (by have := hp.curs.len; omega)⟩
    rw [Bool.and_eq_true] at hm
    have := field_cur hg hm.1 hm.2 p D at_ j hj x hx2 w hp hw
    rw [show curT D g (j : Int) = curOK g x by unfold curT curAt; rw [Int.toNat_natCast, hx2]]
    exact this
 unfold letters at hc
 simp only [List.mem_cons, List.not_mem_nil, or_false] at hc
 rcases hc with rfl | rfl | rfl | rfl | rfl | rfl | rfl | rfl | rfl | rfl | rfl | rfl | rfl | rfl | rfl | rfl | rfl | rfl
 · exact field_of p at_ n (n == 0) (kn1 _ (known96 p at_ n)) run45 (fun e u h => bool_tok p at_ n _ e u h) w hw
 · exact tokb 6 p.regs (fun _ => rfl) 114 fun r h => h ▸ run114
 · exact tokb 5 p.cons.n (fun _ => rfl) 107 fun r h => h ▸ run107
 · exact tokb 10 p.binds (fun _ => rfl) 98 fun r h => h ▸ run98
 · exact tokb 13 p.sorts.n (fun _ => rfl) 115 fun r h => h ▸ run115
 · exact tokb 17 p.tots.n (fun _ => rfl) 116 fun r h => h ▸ run116
 · exact tokb 9 p.curs.n (fun _ => rfl) 99 fun r h => h ▸ run99
 · exact litb 15 50 fun r h => h ▸ run50
 · exact litb 2 49 fun r h => h ▸ run49
 · exact litb 10 102 fun r h => h ▸ run102
 · exact litb 60 120 fun r h => h ▸ run120
 · exact field_of p at_ n (decide (at_ < n) && decide (n < p.code.n)) (kn1 _ (known97 p at_ n)) run106 (fun e u h => bool_tok p at_ n _ e u h) w hw
 · exact field_of p at_ n (decide (1 ≤ n) && decide (n ≤ at_)) (kn1 _ (known98 p at_ n)) run110 (fun e u h => bool_tok p at_ n _ e u h) w hw
 · exact field_of p at_ n (decide (1 ≤ n) && decide (n ≤ p.regs)) (kn1 _ (known99 p at_ n)) run109 (fun e u h => bool_tok p at_ n _ e u h) w hw
 · exact curb 105 100 (by simp) mids105 fun r h => h ▸ run105
 · exact curb 108 101 (by simp) mids108 fun r h => h ▸ run108
 · exact curb 119 102 (by simp) mids119 fun r h => h ▸ run119
 · have hs : fieldB p D at_ 113 n = (below n p.cons.n && (match D.cons[n.toNat]? with | some x => x.k == 2 | none => false)) := rfl
   rw [hs]
   cases hbl : below n p.cons.n with
   | false => exact falb 5 p.cons.n hbl rfl 113 fun r h => h ▸ run113
   | true =>
     obtain ⟨j, rfl, hj⟩ : ∃ j : Nat, n = j ∧ j < p.cons.n := by
      unfold below at hbl
      simp only [Bool.and_eq_true, decide_eq_true_eq] at hbl
      exact ⟨n.toNat, by omega, by omega⟩
     obtain ⟨x, hx2⟩ : ∃ x, D.cons[j]? = some x := ⟨_, List.getElem?_eq_getElem (by have := hp.cons.len; omega)⟩
     have hm := mids113
     rw [Bool.and_eq_true] at hm
     have := field_con hm.1 hm.2 p D at_ j hj x hx2 w hp hw
     rw [Int.toNat_natCast, hx2]
     exact this
end Go.Proofs.Vf
