/- The program's verify, flow and code, followed by hand: part 10. -/
import Derived.Test.YtmdcccegkamhaaaGreatDoorP9
import Derived.Maps.OwnSet
import Derived.Maps.OwnOps
import Derived.Laws.EntriesVeiled
set_option maxHeartbeats 4000000
set_option maxRecDepth 100000
set_option linter.unusedSectionVars false
set_option linter.unusedVariables false
set_option linter.unusedSimpArgs false
namespace Go.Proofs.Vf
open Go Go.Proofs Go.RowKit Go.Lib
open Go.Proofs.Vg (Lp inside insF insFrom)
attribute [local go_sem ↓] Go.wp_at_zero Go.wp_at_succ
def allFrom (f : Nat → Ins → Bool) : Nat → List Ins → Bool
 | _, [] => true
 | k, i :: r => f k i && allFrom f (k + 1) r
theorem allFrom_append (f : Nat → Ins → Bool) : ∀ (a b : List Ins) (k : Nat), allFrom f k (a ++ b) = (allFrom f k a && allFrom f (k + a.length) b)
 | [], b, k => by simp [allFrom]
 | i :: a, b, k => by
   simp only [List.cons_append, allFrom, List.length_cons]
   rw [allFrom_append f a b (k + 1), show k + 1 + a.length = k + (a.length + 1) by omega, Bool.and_assoc]
theorem allFrom_take (f : Nat → Ins → Bool) {code : List Ins} {k : Nat} {i : Ins} (h : code[k]? = some i) : allFrom f 0 (code.take (k + 1)) = (allFrom f 0 (code.take k) && f k i) := by
 have hlt := (List.getElem?_eq_some_iff.1 h).1
 rw [List.take_add_one, h, Option.toList_some, allFrom_append, List.length_take, Nat.min_eq_left (by omega), Nat.zero_add]
 simp only [allFrom, Bool.and_true]
theorem allFrom_mono (f : Nat → Ins → Bool) {code : List Ins} {k : Nat} (h : allFrom f 0 (code.take k) = false) : allFrom f 0 code = false := by
 have := allFrom_append f (code.take k) (code.drop k) 0
 rw [List.take_append_drop, h] at this
 simpa using this
def writeOK (l : List Lp) (k : Nat) (i : Ins) : Bool := !(i.o == 29 || i.o == 30) || (match insF l k with
 | [] => true
 | [j] => (match l[j]? with | some x => !decide (x.sor < 0) | none => true)
 | _ => false)
def writesF (code : List Ins) (l : List Lp) : Bool := allFrom (writeOK l) 0 code
theorem writes_any (p : Pg) (D : Dat) (W : World) (hp : Has W p D) (hc4 : D.code.length ≤ 4000) (s : Sl) (l : List Lp) (h : Lps W s l) :
 Gives 26 #[p.v, .slice s.a s.n s.c] W (.bool (writesF D.code l)) := by
 have HL0 := Lib.hid hp.code.len
 have HP := Lib.hid hp
 have H4 := Lib.hid hc4
 have HS := Lib.hid h
 have hins := fun j i (hj : D.code[j]? = some i) => hp.ins hj
 have HINS := Lib.hid hins
 obtain ⟨sa, sn, sc⟩ := s
 have hsl : sn ≤ 9223372036854775807 := h.lst.small
 have HSN : Hid (sn = l.length) := Lib.hid h.lst.len
 clear hp hc4 hins h
 obtain ⟨ver, regs, binds, names, cons, curs, sorts, tots, ⟨ca, cn, cc⟩⟩ := p
 have hcs : cn ≤ 9223372036854775807 := HP.out.code.small
 have HL : Hid (cn = D.code.length) := Lib.hid HL0.out
 clear HL0
 unfold Gives
 go_enter Tryz.func26, Tryz.ntmps26
 go_wp2
 go_loopg [11] cn (fun lft i wr => ∃ kk : Nat, kk + lft = cn ∧ i = .int .i64 kk ∧ Hid (Below W.heap.size W wr ∧ W.heap.size + 1 ≤ wr.heap.size ∧ allFrom (writeOK l) 0 (D.code.take kk) = true))
 case atStart => exact ⟨0, by omega, rfl, Lib.hid ⟨Below.one W _, by rw [heap_size_alloc]; omega, rfl⟩⟩
 case round =>
  obtain ⟨kk, hl, rfl, hst⟩ := hrel
  by_cases hlk : kk < cn
  · have hlt' : ((kk : Int) < (cn : Int)) = True := by simp; omega
    obtain ⟨i, hi2⟩ : ∃ i, D.code[kk]? = some i := ⟨_, List.getElem?_eq_getElem (by have := HL.out; omega)⟩
    obtain ⟨g, o, e1, hg, _, hd⟩ := HINS.out kk i hi2
    have e1 : ca = some ⟨g, o, none⟩ := e1
    subst e1
    obtain ⟨d0, d1, d2, d3, d4⟩ := hd wr hst.out.1
    have hA1 := allFrom_take (writeOK l) hi2
    rw [hst.out.2.2, Bool.true_and] at hA1
    obtain ⟨io, ia, ib, ic, id⟩ := i
    have hkk4 : kk < 4000 := by have := HL.out; have := H4.out; omega
    have rel : ∀ w, Below wr.heap.size wr w → allFrom (writeOK l) 0 (D.code.take (kk + 1)) = true → Hid (Below W.heap.size W w ∧ W.heap.size + 1 ≤ w.heap.size ∧ allFrom (writeOK l) 0 (D.code.take (kk + 1)) = true) := fun w hb hh =>
     Lib.hid ⟨hst.out.1.on hb, Nat.le_trans hst.out.2.1 hb.size, hh⟩
    have REL := Lib.hid rel
    have HI := Lib.hid hi2
    clear hd hi2 rel
    by_cases hW : (io == 29 || io == 30) = true
    · have hcall := fun w (hb : Below wr.heap.size wr w) => inside_any w ⟨sa, sn, sc⟩ l (HS.out.on (hst.out.1.on hb)) kk (by omega)
      have hwo : writeOK l kk ⟨io, ia, ib, ic, id⟩ = (match insF l kk with
       | [] => true
       | [j] => (match l[j]? with | some x => !decide (x.sor < 0) | none => true)
       | _ => false) := by unfold writeOK; simp only [hW]; simp
      rw [hwo] at hA1
      simp only [Bool.or_eq_true, beq_iff_eq] at hW
      have hcl := fun w hb => hcall w hb
      clear hcall
      have hwf : ∀ b, writeOK l kk ⟨io, ia, ib, ic, id⟩ = b → b = false → writesF D.code l = false := fun b h1 h2 => allFrom_mono (writeOK l) (k := kk + 1) (by rw [allFrom_take (writeOK l) HI.out, h1, h2]; simp)
      cases hin : insF l kk with
      | nil =>
        rw [hin] at hA1
        have HA := Lib.hid hA1
        have hc0 : ∀ w, Below wr.heap.size wr w → Calls Tryz.prog 11 #[.slice sa sn sc, .int .i64 kk] w fun e w' => (∃ a c, e = .returned (.slice a 0 c)) ∧ Below w.heap.size w w' := fun w hb => (hcl w hb).mono fun e w' ⟨⟨v, he, hv⟩, hb'⟩ => ⟨⟨v.a, v.c, by rw [he, show v.n = 0 from by rw [hv.len, hin]; rfl]⟩, hb'⟩
        have HC := Lib.hid hc0
        clear hcl hc0 hA1 hwf hwo hin
        rcases hW with rfl | rfl
        all_goals
         go_wp2_with (first
          | (go_at_call 11; with_reducible refine (HC.out _ (by with_reducible exact Below.one _ _)).mono ?_; rintro e w3 ⟨⟨va, vc, rfl⟩, hb3⟩))
         go_roundg (cn - kk - 1)
        all_goals first | omega | exact ⟨kk + 1, by omega, by first | rfl | go_num, REL.out _ ((Below.one wr _).on hb3) HA.out⟩
      | cons j js =>
        cases js with
        | nil =>
          have hjm : j ∈ insF l kk := by rw [hin]; exact .head _
          obtain ⟨_, x, hx, _⟩ := insFrom_mem kk l 0 j hjm
          rw [Nat.sub_zero] at hx
          obtain ⟨gl, ol, e2, hgl, hjl, hcx⟩ := Lps.cells HS.out.lst hx
          have e2 : sa = some ⟨gl, ol, none⟩ := e2
          subst e2
          have hjl : j < sn := hjl
          have hjl' : ((j : Int) < (sn : Int)) = True := by simp; omega
          have hwx : writeOK l kk ⟨io, ia, ib, ic, id⟩ = !decide (x.sor < 0) := by rw [hwo, hin]; simp only [hx]
          have hc1 : ∀ w, Below wr.heap.size wr w → Calls Tryz.prog 11 #[.slice (some ⟨gl, ol, none⟩) sn sc, .int .i64 kk] w fun e w' => (∃ g2 o2 c, e = .returned (.slice (some ⟨g2, o2, none⟩) 1 c) ∧ w'.cell? ⟨g2, o2, none⟩ = some (.int .i64 j) ∧ w'.cell? ⟨gl, ol + j * 6 + 3, none⟩ = some (.int .i64 x.sor)) ∧ Below w.heap.size w w' := fun w hb => (hcl w hb).mono fun e w' ⟨⟨v, he, hv⟩, hb'⟩ => by
           obtain ⟨g2, o2, e3, _, hc3⟩ := hv.at' 0 j (by rw [hin]; rfl)
           refine ⟨⟨g2, o2, v.c, by rw [he, e3, show v.n = 1 from by rw [hv.len, hin]; rfl], by simpa using hc3 0 (by omega), (hcx w' (hst.out.1.on (hb.on hb'))).2.2.2.1⟩, hb'⟩
          have HC := Lib.hid hc1
          have HWF := Lib.hid hwf
          have HWX := Lib.hid hwx
          rw [← hwo, hwx] at hA1
          have HA := Lib.hid hA1
          clear hcl hc1 hA1 hwf hwo hin hwx hcx hjm hx
          by_cases hs : x.sor < 0
          · have hsf : writesF D.code l = false := HWF.out _ HWX.out (by simp [hs])
            have HSF := Lib.hid hsf
            clear hsf
            rcases hW with rfl | rfl
            all_goals
             go_wp2_with (first
              | (go_at_call 11; with_reducible refine (HC.out _ (by with_reducible exact Below.one _ _)).mono ?_; rintro e w3 ⟨⟨g2, o2, vc, rfl, k1, k2⟩, hb3⟩))
             go_ret
             exact ⟨by rw [HSF.out]; rfl, hst.out.1.on ((Below.one wr _).on hb3)⟩
          · have hs2 : (x.sor < 0) = False := by simpa using hs
            have hA2 : allFrom (writeOK l) 0 (D.code.take (kk + 1)) = true := by rw [HA.out]; simpa using hs
            have HA2 := Lib.hid hA2
            clear hA2
            rcases hW with rfl | rfl
            all_goals
             go_wp2_with (first
              | (go_at_call 11; with_reducible refine (HC.out _ (by with_reducible exact Below.one _ _)).mono ?_; rintro e w3 ⟨⟨g2, o2, vc, rfl, k1, k2⟩, hb3⟩))
             go_roundg (cn - kk - 1)
            all_goals first | omega | exact ⟨kk + 1, by omega, by first | rfl | go_num, REL.out _ ((Below.one wr _).on hb3) HA2.out⟩
        | cons j2 js =>
          have hsf : writesF D.code l = false := hwf _ hwo (by rw [hin])
          have hc2 : ∀ w, Below wr.heap.size wr w → Calls Tryz.prog 11 #[.slice sa sn sc, .int .i64 kk] w fun e w' => (∃ a n c, e = .returned (.slice a n c) ∧ ((1 : Int) < (n : Int)) = True) ∧ Below w.heap.size w w' := fun w hb => (hcl w hb).mono fun e w' ⟨⟨v, he, hv⟩, hb'⟩ => ⟨⟨v.a, v.n, v.c, he, by rw [hv.len, hin]; simp; omega⟩, hb'⟩
          have HC := Lib.hid hc2
          have HSF := Lib.hid hsf
          clear hcl hc2 hA1 hwf hwo hin hsf
          rcases hW with rfl | rfl
          all_goals
           go_wp2_with (first
            | (go_at_call 11; with_reducible refine (HC.out _ (by with_reducible exact Below.one _ _)).mono ?_; rintro e w3 ⟨⟨va, n, vc, rfl, h1n⟩, hb3⟩))
           go_ret
           exact ⟨by rw [HSF.out]; rfl, hst.out.1.on ((Below.one wr _).on hb3)⟩
    · have hW2 : (io == 29) = false ∧ (io == 30) = false := by simpa [Bool.or_eq_false_iff] using hW
      have w29 := hW2.1
      have w30 := hW2.2
      have hn : writeOK l kk ⟨io, ia, ib, ic, id⟩ = true := by unfold writeOK; simp only [w29, w30]; rfl
      rw [hn] at hA1
      have HA := Lib.hid hA1
      have v29 : (io != 29) = true := by simpa using w29
      have v30 : (io != 30) = true := by simpa using w30
      clear hA1 hW hW2 hn
      go_wp2
      go_roundg (cn - kk - 1)
      case measure => omega
      case rel => exact ⟨kk + 1, by omega, by first | rfl | go_num, REL.out _ (Below.one wr _) HA.out⟩
  · have hlt' : ((kk : Int) < (cn : Int)) = False := by simp; omega
    have h1 := hst.out
    rw [List.take_of_length_le (by have := HL.out; omega)] at h1
    have HF := Lib.hid h1
    clear h1 hst
    go_wp2
    go_ret
    exact ⟨by rw [show writesF D.code l = true from HF.out.2.2]; rfl, HF.out.1⟩
end Go.Proofs.Vf
namespace Go.Proofs.Vf
open Go Go.Proofs Go.RowKit Go.Lib Go.Maps Go.ChangeMaps
def OwnM (w : World) (b n : Nat) (f : Int → Option Int) : Prop := ∃ D : DataW Unit, w.ownsMap Tryz.prog 3 (plainElem Tryz.prog 3) b n D ∧ ∀ x, (Lit.int .i64 x).wf = true → Maps.has D (.int .i64 x) = (f x).isSome ∧ D.atKey (.int .i64 x) (.lit (.int .i64 0)) = .lit (.int .i64 ((f x).getD 0))
def updO (f : Int → Option Int) (k v : Int) : Int → Option Int := fun j => if j = k then some v else f j
theorem law3 : Keyed Tryz.prog 3 := int_keyed Tryz.underlying3
theorem OwnM.made (w : World) : OwnM (w.alloc (.map #[] 0)) w.heap.size 0 (fun _ => none) := ⟨.map [], World.ownsMap_made _ _ _ _, fun _ _ => ⟨rfl, rfl⟩⟩
theorem OwnM.block {w w' : World} {b n : Nat} {f : Int → Option Int} (h : OwnM w b n f) (e : w'.heap[b]? = w.heap[b]?) : OwnM w' b n f := by
 obtain ⟨D, ⟨es, clock, hb, r⟩, hf⟩ := h
 exact ⟨D, ⟨es, clock, by rw [e]; exact hb, r⟩, hf⟩
theorem OwnM.lt {w : World} {b n : Nat} {f : Int → Option Int} (h : OwnM w b n f) : b < w.heap.size := by
 obtain ⟨D, ho, _⟩ := h
 exact ho.lt
theorem OwnM.on {w w' : World} {b n : Nat} {f : Int → Option Int} (h : OwnM w b n f) (hb : Below w.heap.size w w') : OwnM w' b n f := h.block (hb.block b h.lt)
theorem OwnM.mono {w : World} {b n n' : Nat} {f : Int → Option Int} (h : OwnM w b n f) (hn : n ≤ n') : OwnM w b n' f := by
 obtain ⟨D, ho, hf⟩ := h
 exact ⟨D, ho.mono hn, hf⟩
theorem zero3 (w : World) : (zeroValue 3).run Tryz.prog w = .ok (.int .i64 0) w := Tryz.zeroValue3 w
section
variable (w : World) {ops : Array Oper} {rest : List Oper} {o : Oper} {a : Act} {Q : Exit → Act → World → Prop}
theorem wp_get_ok (hg : o.guard = none) (m x : Operand) (hop : o.op = Op.lookup 55 m x true) (b n : Nat) (f : Int → Option Int) (hm : a.eval m = .map (some b)) (hown : OwnM w b n f) (k : Int) (hx : a.eval x = .int .i64 k) (hk : (Lit.int .i64 k).wf = true)
 (hK : wpList Tryz.prog ops Q rest (a.put o.dst (.tuple #[.int .i64 ((f k).getD 0), .bool (f k).isSome])) w) : wpList Tryz.prog ops Q (o :: rest) a w := by
 obtain ⟨D, ho, hf⟩ := hown
 refine wpList_lookup_own_ok_int w hg m x 55 hop 3 3 .i64 law3 Tryz.underlying55 Tryz.underlying3 (zero3 w) b n D hm ho _ _ hx (keyOf_int_mk Tryz.underlying3 hk) ?_
 intro c hat _
 rw [(hf k hk).2] at hat
 injection hat with h1
 injection h1 with _ h2
 rw [(hf k hk).1, ← h2]
 exact hK
theorem wp_get (hg : o.guard = none) (m x : Operand) (hop : o.op = Op.lookup 55 m x false) (b n : Nat) (f : Int → Option Int) (hm : a.eval m = .map (some b)) (hown : OwnM w b n f) (k : Int) (hx : a.eval x = .int .i64 k) (hk : (Lit.int .i64 k).wf = true)
 (hK : wpList Tryz.prog ops Q rest (a.put o.dst (.int .i64 ((f k).getD 0))) w) : wpList Tryz.prog ops Q (o :: rest) a w := by
 obtain ⟨D, ho, hf⟩ := hown
 refine wpList_lookup_own_int w hg m x 55 hop 3 3 .i64 law3 Tryz.underlying55 Tryz.underlying3 (zero3 w) b n D hm ho _ _ hx (keyOf_int_mk Tryz.underlying3 hk) ?_
 intro c hat _
 rw [(hf k hk).2] at hat
 injection hat with h1
 injection h1 with _ h2
 rw [← h2]
 exact hK
theorem wp_put (hg : o.guard = none) (m x v : Operand) (hop : o.op = Op.mapUpdate 55 m x v) (b n : Nat) (f : Int → Option Int) (hm : a.eval m = .map (some b)) (hown : OwnM w b n f) (hn : n < maxLen) (k u : Int) (hx : a.eval x = .int .i64 k) (hv : a.eval v = .int .i64 u) (hk : (Lit.int .i64 k).wf = true) (hu : (Lit.int .i64 u).wf = true)
 (hK : ∀ w', OwnM w' b (n + 1) (updO f k u) → w.grownBy w' (some b) → wpList Tryz.prog ops Q rest (a.put o.dst undef) w') : wpList Tryz.prog ops Q (o :: rest) a w := by
 obtain ⟨D, ho, hf⟩ := hown
 refine wpList_mapUpdate_own w hg m x v 55 hop 3 3 law3 Tryz.underlying55 _ b n D hm ho hn _ _ _ hx hv (keyOf_int_mk Tryz.underlying3 hk) (.lit (.int .i64 u)) [] (plainElem_int Tryz.underlying3 hu) ?_
 intro w' ho' hg'
 refine hK w' ⟨_, ho', fun j hj => ?_⟩ hg'
 unfold updO
 by_cases hjk : j = k
 · subst hjk
   rw [if_pos rfl]
   exact ⟨has_put_same ho.isMap (by first | trivial | simp [WideAt.IsKeyLit]) _, atKey_put_same ho.isMap (by first | trivial | simp [WideAt.IsKeyLit]) _ _⟩
 · rw [if_neg hjk]
   have hne : (Lit.int .i64 j) ≠ Lit.int .i64 k := fun h => hjk (by injection h)
   exact ⟨(has_put_other hne _).trans (hf j hj).1, (atKey_put_other hne _ _).trans (hf j hj).2⟩
end
end Go.Proofs.Vf
namespace Go.Proofs.Vf
open Go Go.Proofs Go.RowKit Go.Lib
open Go.Proofs.Vg (Lp inside insF insFrom)
attribute [local go_sem ↓] Go.wp_at_zero Go.wp_at_succ
def takenF (k : Nat) (b : Int) (x : Lp) : Bool := insideI k x && x.sor == b
theorem taken_any (k : Nat) (io ia ib ic id : Int) (x : Lp) (b2 bH bI : Nat) (W : World) (h2 : W.heap[b2]? = some (.cells #[.int .i64 k] 3))
 (hbH : W.heap[bH]? = some (.cells #[.func (.func 55) #[] #[.pointer (some ⟨b2, 0, none⟩)]] 80)) (hbI : W.heap[bI]? = some (.cells #[.int .u8 io, .int .i64 ia, .int .i64 ib, .int .i64 ic, .int .i64 id] 45)) :
 Gives 50 #[lpV x, .pointer (some ⟨bH, 0, none⟩), .pointer (some ⟨bI, 0, none⟩)] W (.bool (takenF k ib x)) := by
 obtain ⟨x1, x2, x3, x4, x5, x6⟩ := x
 have FbI : ∀ w, Below W.heap.size W w → w.cell? ⟨bI, 2, none⟩ = some (.int .i64 ib) := fun w hb => (blk_cell ((hb.block _ (Array.getElem?_eq_some_iff.1 hbI).1).trans hbI) 2).trans rfl
 have fbI1 := fun a => FbI _ (Below.one W a)
 have fbI2 := fun a b => FbI _ ((Below.one W a).new b)
 clear FbI
 have FbH : ∀ w, Below W.heap.size W w → w.cell? ⟨bH, 0, none⟩ = some (.func (.func 55) #[] #[.pointer (some ⟨b2, 0, none⟩)]) := fun w hb => (blk_cell ((hb.block _ (Array.getElem?_eq_some_iff.1 hbH).1).trans hbH) 0).trans rfl
 have fbH1 := fun a => FbH _ (Below.one W a)
 have fbH2 := fun a b => FbH _ ((Below.one W a).new b)
 clear FbH
 have hI2 := fun w (hb : Below W.heap.size W w) => in_exI k x1 x2 x3 x4 x5 x6 b2 w ((hb.block _ (Array.getElem?_eq_some_iff.1 h2).1).trans h2)
 have hspec : takenF k ib ⟨x1, x2, x3, x4, x5, x6⟩ = (insideI k ⟨x1, x2, x3, x4, x5, x6⟩ && x4 == ib) := rfl
 rw [hspec]
 clear hspec h2 hbH hbI
 generalize insideI k ⟨x1, x2, x3, x4, x5, x6⟩ = q at hI2 ⊢
 have HI2 := Lib.hid hI2
 clear hI2
 unfold Gives
 cases q
 · go_enter Tryz.func50, Tryz.ntmps50
   go_wp2_with (first
    | (go_at_call 55; with_reducible refine (HI2.out _ (by with_reducible repeat (first | exact Below.refl _ _ | refine Below.new ?_ _))).mono ?_
       rintro e w3 ⟨rfl, rfl⟩))
   go_ret
   exact ⟨by simp, (Below.one W _).new _⟩
 · go_enter Tryz.func50, Tryz.ntmps50
   go_wp2_with (first
    | (go_at_call 55; with_reducible refine (HI2.out _ (by with_reducible repeat (first | exact Below.refl _ _ | refine Below.new ?_ _))).mono ?_
       rintro e w3 ⟨rfl, rfl⟩))
   go_ret
   exact ⟨by simp, (Below.one W _).new _⟩
def sortMap : (Int → Option Int) → List Lp → Option (Int → Option Int)
 | f, [] => some f
 | f, x :: r => if x.sor < 0 then sortMap f r else if (f x.sor).isSome || decide (0 < x.depth) then none else sortMap (updO f x.sor x.fr) r
theorem sortMap_append : ∀ (a b : List Lp) (f : Int → Option Int), sortMap f (a ++ b) = (sortMap f a).bind fun g => sortMap g b
 | [], b, f => rfl
 | x :: a, b, f => by
   simp only [List.cons_append, sortMap]
   split
   · exact sortMap_append a b f
   · split
     · rfl
     · exact sortMap_append a b _
theorem sortMap_take {l : List Lp} {k : Nat} {x : Lp} {f g : Int → Option Int} (h : l[k]? = some x) (hg : sortMap f (l.take k) = some g) : sortMap f (l.take (k + 1)) = sortMap g [x] := by
 rw [List.take_add_one, h, Option.toList_some, sortMap_append, hg]; rfl
theorem sortMap_none {l : List Lp} {k : Nat} {f : Int → Option Int} (h : sortMap f (l.take k) = none) : sortMap f l = none := by
 have := sortMap_append (l.take k) (l.drop k) f
 rw [List.take_append_drop, h] at this
 exact this
def sortOK (l : List Lp) (f : Int → Option Int) (k : Nat) (i : Ins) : Bool :=
 if i.o = 23 then l.any (takenF k i.b) else if i.o = 20 then (match f i.a with | some fr => !decide (fr < (k : Int)) | none => true) else true
def sortersF (code : List Ins) (l : List Lp) : Bool := match sortMap (fun _ => none) l with
 | none => false
 | some f => allFrom (sortOK l f) 0 code
theorem sorters_any (p : Pg) (D : Dat) (W : World) (hp : Has W p D) (hc4 : D.code.length ≤ 4000) (hwc : ∀ i ∈ D.code, (Lit.int .i64 i.a).wf = true) (s : Sl) (l : List Lp) (h : Lst W s 6 lpC l) (hl4 : l.length ≤ 4000) (hwl : ∀ x ∈ l, (Lit.int .i64 x.sor).wf = true ∧ x.fr < 1048576) :
 Gives 23 #[p.v, .slice s.a s.n s.c] W (.bool (sortersF D.code l)) := by
 have hmf : ∀ (fn : Fn) (first cap : Array Value) (w : World), (Instr.makeFunc fn first cap).run Tryz.prog w = .ok (.func fn first cap) w := fun _ _ _ _ => rfl
 have hmm := @run_makeMap Tryz.prog
 have HL0 := Lib.hid hp.code.len
 have HP := Lib.hid hp
 have H4 := Lib.hid hc4
 have HWC := Lib.hid hwc
 have HWL := Lib.hid hwl
 have HLS := Lib.hid h
 have hins := fun j i (hj : D.code[j]? = some i) => hp.ins hj
 have HINS := Lib.hid hins
 obtain ⟨sa, sn, sc⟩ := s
 have hsl : sn ≤ 4000 := by have := h.len; have : sn = l.length := this; omega
 have HSN : Hid (sn = l.length) := Lib.hid h.len
 clear hp hc4 hwc hwl hins h hl4
 obtain ⟨ver, regs, binds, names, cons, curs, sorts, tots, ⟨ca, cn, cc⟩⟩ := p
 have hcs : cn ≤ 9223372036854775807 := HP.out.code.small
 have HL : Hid (cn = D.code.length) := Lib.hid HL0.out
 clear HL0
 have hbox : ∀ w, Below (W.heap.size + 1) (W.alloc (.cells (⟨ver, regs, binds, names, cons, curs, sorts, tots, ⟨ca, cn, cc⟩⟩ : Pg).cells 29)) w → Below W.heap.size W w ∧ (∀ j, w.cell? ⟨W.heap.size, j, none⟩ = (⟨ver, regs, binds, names, cons, curs, sorts, tots, ⟨ca, cn, cc⟩⟩ : Pg).cells[j]?) := fun w hb =>
  ⟨(Below.one W _).trans (hb.mono (by omega)), blk_cell ((hb.block _ (by omega)).trans (heap_alloc_new _ _))⟩
 have HO := Lib.hid hbox
 clear hbox
 unfold Gives
 go_enter Tryz.func23, Tryz.ntmps23
 go_wp2
 go_loopg [18] sn (fun lft i wr => ∃ kk : Nat, kk + lft = sn ∧ i = .int .i64 kk ∧ Hid (Below (W.heap.size + 1) (W.alloc (.cells (⟨ver, regs, binds, names, cons, curs, sorts, tots, ⟨ca, cn, cc⟩⟩ : Pg).cells 29)) wr ∧ W.heap.size + 2 ≤ wr.heap.size ∧ ∃ f, sortMap (fun _ => none) (l.take kk) = some f ∧ OwnM wr (W.heap.size + 1) kk f))
 case atStart =>
  refine ⟨0, by omega, rfl, Lib.hid ⟨by rw [← heap_size_alloc W (.cells (⟨ver, regs, binds, names, cons, curs, sorts, tots, ⟨ca, cn, cc⟩⟩ : Pg).cells 29)]; exact Below.one _ _, by rw [heap_size_alloc, heap_size_alloc]; omega, _, rfl, ?_⟩⟩
  have := OwnM.made (W.alloc (.cells (⟨ver, regs, binds, names, cons, curs, sorts, tots, ⟨ca, cn, cc⟩⟩ : Pg).cells 29))
  rw [heap_size_alloc] at this
  exact this
 case round =>
  obtain ⟨kk, hl, rfl, hst⟩ := hrel
  obtain ⟨f, hf, hown⟩ := hst.out.2.2
  by_cases hlk : kk < sn
  · have hlt' : ((kk : Int) < (sn : Int)) = True := by simp; omega
    obtain ⟨x, hx⟩ : ∃ x, l[kk]? = some x := ⟨_, List.getElem?_eq_getElem (by have := HSN.out; omega)⟩
    obtain ⟨gl, ol, e2, hgl, hjl, hcx⟩ := Lps.cells HLS.out hx
    have e2 : sa = some ⟨gl, ol, none⟩ := e2
    subst e2
    obtain ⟨d0, d1, d2, d3, d4, d5⟩ := hcx wr (HO.out _ hst.out.1).1
    obtain ⟨hsw, hfr⟩ := HWL.out x (List.mem_of_getElem? hx)
    have hst2 := sortMap_take hx hf
    have hfw : (Lit.int .i64 x.fr).wf = true := by
     simp [Lit.wf, IntKind.min, IntKind.max, IntKind.signed, IntKind.bits]
     omega
    obtain ⟨x1, x2, x3, x4, x5, x6⟩ := x
    have hM := fun o => (hown.on (Below.one wr o))
    have HM := Lib.hid hM
    have HST := Lib.hid hst2
    have HX := Lib.hid hx
    have HF := Lib.hid hf
    clear hcx hx hf hown hM hst2
    by_cases hneg : x4 < 0
    · have hneg' : (x4 < 0) = True := by simpa using hneg
      have hs1 : sortMap (fun _ => none) (l.take (kk + 1)) = some f := by
       rw [HST.out]; unfold sortMap; rw [if_pos hneg]; rfl
      have HS1 := Lib.hid hs1
      clear hs1
      go_wp2
      go_roundg (sn - kk - 1)
      case measure => omega
      case rel => exact ⟨kk + 1, by omega, by first | rfl | go_num, Lib.hid ⟨hst.out.1.trans ((Below.one wr _).mono (by have := hst.out.2.1; omega)), Nat.le_trans hst.out.2.1 (Below.one wr _).size, f, HS1.out, (HM.out _).mono (by omega)⟩⟩
    · have hneg' : (x4 < 0) = False := by simpa using hneg
      have hnew : sortMap (fun _ => none) (l.take (kk + 1)) = if (f x4).isSome || decide (0 < x5) then none else some (updO f x4 x1) := by
       rw [HST.out]; unfold sortMap; rw [if_neg hneg]; rfl
      have HNW := Lib.hid hnew
      clear hnew
      cases hfx : f x4 with
      | some fr0 =>
        go_wp2_with (first | (at_lookup; refine wp_get_ok _ rfl _ _ rfl (W.heap.size + 1) kk f rfl (HM.out _) x4 rfl hsw ?_; rw [hfx]))
        go_ret
        have hno : sortMap (fun _ => none) l = none := sortMap_none (k := kk + 1) (by rw [HNW.out, hfx]; rfl)
        exact ⟨by unfold sortersF; rw [hno]; rfl, (HO.out _ hst.out.1).1.on (Below.one wr _)⟩
      | none =>
        by_cases h5 : 0 < x5
        · have h5' : ((0 : Int) < (x5 : Int)) = True := by simp; omega
          have h5n : (0 < x5) = True := by simp; omega
          go_wp2_with (first | (at_lookup; refine wp_get_ok _ rfl _ _ rfl (W.heap.size + 1) kk f rfl (HM.out _) x4 rfl hsw ?_; rw [hfx]))
          go_ret
          have hno : sortMap (fun _ => none) l = none := sortMap_none (k := kk + 1) (by rw [HNW.out, hfx]; simp [h5])
          exact ⟨by unfold sortersF; rw [hno]; rfl, (HO.out _ hst.out.1).1.on (Below.one wr _)⟩
        · have h5z : x5 = 0 := by omega
          subst h5z
          have hs1 : sortMap (fun _ => none) (l.take (kk + 1)) = some (updO f x4 x1) := by rw [HNW.out, hfx]; rfl
          have HS1 := Lib.hid hs1
          clear hs1 h5
          go_wp2_with (first
           | (at_lookup; refine wp_get_ok _ rfl _ _ rfl (W.heap.size + 1) kk f rfl (HM.out _) x4 rfl hsw ?_; rw [hfx])
           | (at_mapUpdate; refine wp_put _ rfl _ _ _ rfl (W.heap.size + 1) kk f rfl (HM.out _) (by unfold maxLen; omega) x4 x1 rfl rfl hsw hfw ?_))
          intro w4 hown4 hgrow
          have hb4 : Below (W.heap.size + 1) (wr.alloc (.cells #[.int .i64 x1, .int .i64 x2, .int .i64 x3, .int .i64 x4, .int .i64 0, .int .i64 x6] 78)) w4 := (Below.refl _ _).grown hgrow (by rw [heap_size_alloc]; have := hst.out.2.1; omega) (fun q hq => by injection hq with hq; omega)
          have HB4 := Lib.hid hb4
          have HO4 := Lib.hid hown4
          clear hb4 hown4 hgrow
          go_wp2
          go_roundg (sn - kk - 1)
          case measure => omega
          case rel => exact ⟨kk + 1, by omega, by first | rfl | go_num, Lib.hid ⟨(hst.out.1.trans ((Below.one wr _).mono (by have := hst.out.2.1; omega))).trans HB4.out, by have := HB4.out.size; rw [heap_size_alloc] at this; have := hst.out.2.1; omega, _, HS1.out, HO4.out⟩⟩
  · have hlt' : ((kk : Int) < (sn : Int)) = False := by simp; omega
    have hfl : sortMap (fun _ => none) l = some f := by
     have h1 := hf
     rw [List.take_of_length_le (by have := HSN.out; omega)] at h1
     exact h1
    have hsp : sortersF D.code l = allFrom (sortOK l f) 0 D.code := by unfold sortersF; rw [hfl]
    have HSP := Lib.hid hsp
    have kb := (HO.out _ hst.out.1).2
    have HK := Lib.hid (And.intro hst.out.1 (And.intro hst.out.2.1 hown))
    clear hst hf hown hfl hsp
    go_wp2
    obtain ⟨w0, hw0⟩ : ∃ w0, w0 = wr := ⟨_, rfl⟩
    subst hw0
    go_loopg [47] cn (fun lft i wi => ∃ qq : Nat, qq + lft = cn ∧ i = .int .i64 qq ∧ Hid (Below w0.heap.size w0 wi ∧ allFrom (sortOK l f) 0 (D.code.take qq) = true))
    case atStart => exact ⟨0, by omega, rfl, Lib.hid ⟨Below.refl _ _, rfl⟩⟩
    case round =>
     obtain ⟨qq, hq, rfl, hin⟩ := hrel
     by_cases hlq : qq < cn
     · have hlq' : ((qq : Int) < (cn : Int)) = True := by simp; omega
       obtain ⟨i, hi2⟩ : ∃ i, D.code[qq]? = some i := ⟨_, List.getElem?_eq_getElem (by have := HL.out; omega)⟩
       obtain ⟨g, o, e1, hg, _, hd⟩ := HINS.out qq i hi2
       have e1 : ca = some ⟨g, o, none⟩ := e1
       subst e1
       have hbW : Below W.heap.size W wr := (HO.out _ HK.out.1).1.on hin.out.1
       obtain ⟨d0, d1, d2, d3, d4⟩ := hd wr hbW
       have hA1 := allFrom_take (sortOK l f) hi2
       rw [hin.out.2, Bool.true_and] at hA1
       have hia := HWC.out i (List.mem_of_getElem? hi2)
       have hq4 : qq < 4000 := by have := HL.out; have := H4.out; omega
       have hfail : sortOK l f qq i = false → sortersF D.code l = false := fun h1 => by rw [HSP.out]; exact allFrom_mono (sortOK l f) (k := qq + 1) (by rw [hA1, h1])
       obtain ⟨io, ia, ib, ic, id⟩ := i
       have HA := Lib.hid hA1
       have HFA := Lib.hid hfail
       have HI := Lib.hid hi2
       clear hd hA1 hfail hi2
       by_cases h23 : io = 23
       · subst h23
         have hcall : ∀ w, w = ((wr.alloc (.cells #[.int .u8 23, .int .i64 ia, .int .i64 ib, .int .i64 ic, .int .i64 id] 45)).alloc (.cells #[.int .i64 qq] 3)).alloc (.cells #[.func (.func 55) #[] #[.pointer (some ⟨wr.heap.size + 1, 0, none⟩)]] 80) →
          Calls Tryz.prog 49 #[.slice sa sn sc, .func (.func 50) #[] #[.pointer (some ⟨wr.heap.size + 1 + 1, 0, none⟩), .pointer (some ⟨wr.heap.size, 0, none⟩)]] w (fun e w' => e = .returned (.bool (l.any (takenF qq ib))) ∧ Below w.heap.size w w') := fun w hw => by
          have tb := three_blocks wr (.cells #[.int .u8 23, .int .i64 ia, .int .i64 ib, .int .i64 ic, .int .i64 id] 45) (.cells #[.int .i64 qq] 3) (.cells #[.func (.func 55) #[] #[.pointer (some ⟨wr.heap.size + 1, 0, none⟩)]] 80)
          rw [← hw] at tb
          have hbw : Below wr.heap.size wr w := by rw [hw]; exact ((Below.one wr _).new _).new _
          have up : ∀ w' b x, Below w.heap.size w w' → w.heap[b]? = some x → w'.heap[b]? = some x := fun w' b x hb hx => (hb.block _ (Array.getElem?_eq_some_iff.1 hx).1).trans hx
          exact has_lp_50 w ⟨sa, sn, sc⟩ l (HLS.out.on (hbW.on hbw)) _ _ (takenF qq ib) fun w' hb' x _ => taken_any qq 23 ia ib ic id x (wr.heap.size + 1) _ _ w' (up _ _ _ hb' tb.2.2.1) (up _ _ _ hb' tb.2.2.2) (up _ _ _ hb' tb.2.1)
         have hsv : sortOK l f qq ⟨23, ia, ib, ic, id⟩ = l.any (takenF qq ib) := rfl
         have HC := Lib.hid hcall
         have HSV := Lib.hid hsv
         clear hcall hsv
         generalize l.any (takenF qq ib) = r at HC HSV
         cases r
         · go_wp2_with (first
            | (go_at_call 30; with_reducible refine (mkin_I _ _).mono ?_; rintro e w2 ⟨rfl, rfl⟩)
            | (go_at_call 49; with_reducible refine (HC.out _ rfl).mono ?_; rintro e w5 ⟨rfl, hb5⟩))
           go_ret
           exact ⟨by rw [HFA.out HSV.out]; rfl, hbW.on ((((Below.one wr _).new _).new _).on hb5)⟩
         · go_wp2_with (first
            | (go_at_call 30; with_reducible refine (mkin_I _ _).mono ?_; rintro e w2 ⟨rfl, rfl⟩)
            | (go_at_call 49; with_reducible refine (HC.out _ rfl).mono ?_; rintro e w5 ⟨rfl, hb5⟩))
           go_roundg (cn - qq - 1)
           case measure => omega
           case rel => exact ⟨qq + 1, by omega, by first | rfl | go_num, Lib.hid ⟨hin.out.1.on ((((Below.one wr _).new _).new _).on hb5), by rw [HA.out, HSV.out]⟩⟩
       by_cases h20 : io = 20
       · subst h20
         have hM : ∀ a b c, OwnM (((wr.alloc a).alloc b).alloc c) (W.heap.size + 1) kk f := fun a b c => (HK.out.2.2.on (hin.out.1.on (((Below.one wr a).new b).new c)))
         have HM := Lib.hid hM
         have hsv : sortOK l f qq ⟨20, ia, ib, ic, id⟩ = (match f ia with | some fr => !decide (fr < (qq : Int)) | none => true) := rfl
         have HSV := Lib.hid hsv
         clear hM hsv
         cases hfx : f ia with
         | none =>
           go_wp2_with (first
            | (go_at_call 30; with_reducible refine (mkin_I _ _).mono ?_; rintro e w2 ⟨rfl, rfl⟩)
            | (at_lookup; refine wp_get_ok _ rfl _ _ rfl (W.heap.size + 1) kk f rfl (HM.out _ _ _) ia rfl hia ?_; rw [hfx]))
           go_roundg (cn - qq - 1)
           case measure => omega
           case rel => exact ⟨qq + 1, by omega, by first | rfl | go_num, Lib.hid ⟨hin.out.1.on (((Below.one wr _).new _).new _), by rw [HA.out, HSV.out, hfx]⟩⟩
         | some fr =>
           by_cases hgt : fr < (qq : Int)
           · go_wp2_with (first
              | (go_at_call 30; with_reducible refine (mkin_I _ _).mono ?_; rintro e w2 ⟨rfl, rfl⟩)
              | (at_lookup; refine wp_get_ok _ rfl _ _ rfl (W.heap.size + 1) kk f rfl (HM.out _ _ _) ia rfl hia ?_; rw [hfx]))
             go_ret
             exact ⟨by rw [HFA.out (by rw [HSV.out, hfx]; simp [hgt])]; rfl, hbW.on (((Below.one wr _).new _).new _)⟩
           · have hgt' : (fr < (qq : Int)) = False := by simpa using hgt
             go_wp2_with (first
              | (go_at_call 30; with_reducible refine (mkin_I _ _).mono ?_; rintro e w2 ⟨rfl, rfl⟩)
              | (at_lookup; refine wp_get_ok _ rfl _ _ rfl (W.heap.size + 1) kk f rfl (HM.out _ _ _) ia rfl hia ?_; rw [hfx]))
             go_roundg (cn - qq - 1)
             case measure => omega
             case rel => exact ⟨qq + 1, by omega, by first | rfl | go_num, Lib.hid ⟨hin.out.1.on (((Below.one wr _).new _).new _), by rw [HA.out, HSV.out, hfx]; simp [hgt']⟩⟩
       · have x23 : (io == 23) = false := by simpa using h23
         have x20 : (io == 20) = false := by simpa using h20
         have hok : allFrom (sortOK l f) 0 (D.code.take (qq + 1)) = true := by rw [HA.out]; unfold sortOK; rw [if_neg h23, if_neg h20]
         have HOK := Lib.hid hok
         clear hok h23 h20
         go_wp2_with (first | (go_at_call 30; with_reducible refine (mkin_I _ _).mono ?_; rintro e w2 ⟨rfl, rfl⟩))
         go_roundg (cn - qq - 1)
         case measure => omega
         case rel => exact ⟨qq + 1, by omega, by first | rfl | go_num, Lib.hid ⟨hin.out.1.on (((Below.one wr _).new _).new _), HOK.out⟩⟩
     · have hlq' : ((qq : Int) < (cn : Int)) = False := by simp; omega
       have h1 := hin.out.2
       rw [List.take_of_length_le (by have := HL.out; omega), ← HSP.out] at h1
       have HF := Lib.hid h1
       clear h1
       go_wp2
       go_ret
       exact ⟨by rw [HF.out]; rfl, (HO.out _ HK.out.1).1.on hin.out.1⟩
def loopsL (code : List Ins) : List Lp := nested (begs 0 code)
def loopsB (code : List Ins) : Bool := allOK code 0 code && decide (ends code = (begs 0 code).length) && nestB (begs 0 code) && sortersF code (loopsL code) && allFrom (fun k i => !(entersF k i (loopsL code) || busyF k i (loopsL code))) 0 code
theorem begs_zero : ∀ (l : List Ins) (k : Nat), ∀ x ∈ begs k l, x.depth = 0
 | [], _, _, h => by cases h
 | i :: l, k, x, h => by
   unfold begs at h
   split at h
   · rcases List.mem_cons.1 h with rfl | h
     · unfold loopX; split <;> rfl
     · exact begs_zero l (k + 1) x h
   · exact begs_zero l (k + 1) x h
theorem loopsL_mem {code : List Ins} {x : Lp} (h : x ∈ loopsL code) : ∃ y ∈ begs 0 code, x.fr = y.fr ∧ x.tt = y.tt ∧ x.cur = y.cur ∧ x.sor = y.sor := by
 obtain ⟨k, hk⟩ := List.getElem?_of_mem h
 have hk2 : k < (begs 0 code).length := by have := (List.getElem?_eq_some_iff.1 hk).1; unfold loopsL nested at this; rw [mid_len] at this; exact this
 have hy : (begs 0 code)[k]? = some (begs 0 code)[k] := List.getElem?_eq_getElem hk2
 unfold loopsL nested at hk
 rw [mid_get hy, if_pos hk2] at hk
 injection hk with hk
 subst hk
 exact ⟨_, List.mem_of_getElem? hy, dp_same _ _ _⟩
theorem loopsL_len (code : List Ins) : (loopsL code).length = (begs 0 code).length := by unfold loopsL nested; rw [mid_len]
theorem loopsL_get {code : List Ins} {k : Nat} {x : Lp} (h : (begs 0 code)[k]? = some x) : (loopsL code)[k]? = some (dp (begs 0 code) k x) := by
 have hk := (List.getElem?_eq_some_iff.1 h).1
 unfold loopsL nested
 rw [mid_get h, if_pos hk]
theorem loopsL_up (code : List Ins) : (loopsL code).Pairwise fun x y => x.fr < y.fr := by
 refine List.pairwise_iff_getElem.2 fun i j hi hj hij => ?_
 have hi' : i < (begs 0 code).length := by rw [← loopsL_len]; exact hi
 have hj' : j < (begs 0 code).length := by rw [← loopsL_len]; exact hj
 have e1 := (List.getElem?_eq_getElem hi).symm.trans (loopsL_get (List.getElem?_eq_getElem hi'))
 have e2 := (List.getElem?_eq_getElem hj).symm.trans (loopsL_get (List.getElem?_eq_getElem hj'))
 injection e1 with e1
 injection e2 with e2
 rw [e1, e2, (dp_same _ _ _).1, (dp_same _ _ _).1]
 exact List.pairwise_iff_getElem.1 (begs_up code 0) i j hi' hj' hij
theorem insFrom_same (at_ : Nat) : ∀ (a b : List Lp) (k : Nat), a.length = b.length → (∀ (j : Nat) (x y : Lp), a[j]? = some x → b[j]? = some y → x.fr = y.fr ∧ x.tt = y.tt) → insFrom at_ k a = insFrom at_ k b
 | [], [], _, _, _ => rfl
 | [], _ :: _, _, h, _ => by simp at h
 | _ :: _, [], _, h, _ => by simp at h
 | x :: a, y :: b, k, h, hs => by
   have h0 := hs 0 x y rfl rfl
   have ih := insFrom_same at_ a b (k + 1) (by simpa using h) fun j u v hu hv => hs (j + 1) u v (by simpa using hu) (by simpa using hv)
   unfold insFrom
   rw [ih, show inside at_ x = inside at_ y by unfold inside; rw [h0.1, h0.2]]
theorem loopsL_ins (code : List Ins) (at_ : Nat) : insF (loopsL code) at_ = insF (begs 0 code) at_ := by
 refine insFrom_same at_ _ _ 0 (loopsL_len code) fun j x y hx hy => ?_
 have := loopsL_get hy
 rw [hx] at this
 injection this with this
 subst this
 exact ⟨(dp_same _ _ _).1, (dp_same _ _ _).2.1⟩
theorem goodL_at {l : List Lp} {k : Nat} {x : Lp} (h : nestB l = true) (hx : l[k]? = some x) : (dp l k x).depth < 12 := by
 have hk := (List.getElem?_eq_some_iff.1 hx).1
 cases hg : goodL l (k + 1) with
 | false => have := goodL_mono (show k + 1 ≤ l.length by omega) hg
            unfold nestB at h; rw [h] at this; cases this
 | true =>
   unfold goodL at hg
   rw [hx] at hg
   simp only [Bool.and_eq_true, decide_eq_true_eq] at hg
   exact hg.2
theorem loops_deep {code : List Ins} (h : nestB (begs 0 code) = true) (at_ : Nat) : (insF (loopsL code) at_).length ≤ 12 := by
 rw [loopsL_ins]
 refine Go.Proofs.Vg.ins_le (begs_up code 0) (fun k => ?_) at_
 unfold Go.Proofs.Vg.depthOf
 split
 · rename_i x hx
   have h1 := goodL_at h hx
   have hk := (List.getElem?_eq_some_iff.1 hx).1
   rw [dp_depth _ _ _ (by omega), begs_zero code 0 x (List.mem_of_getElem? hx)] at h1
   omega
 · omega
theorem loops_low {code : List Ins} (hc : code.length ≤ 4000) : ∀ x ∈ loopsL code, x.fr < 4000 := by
 intro x hx
 obtain ⟨y, hy, e, _⟩ := loopsL_mem hx
 obtain ⟨_, i, hi, _⟩ := begs_mem code 0 y hy
 have := (List.getElem?_eq_some_iff.1 hi).1
 omega
theorem loops_sor {code : List Ins} (hw : ∀ i ∈ code, (Lit.int .i64 i.a).wf = true) : ∀ x ∈ loopsL code, (Lit.int .i64 x.sor).wf = true := by
 intro x hx
 obtain ⟨y, hy, _, _, _, e⟩ := loopsL_mem hx
 obtain ⟨_, i, hi, _, hy2⟩ := begs_mem code 0 y hy
 rw [e, hy2]
 unfold loopX
 split
 · exact hw i (List.mem_of_getElem? hi)
 · rfl
theorem loops_lps {w : World} {s : Sl} {code : List Ins} (hc : code.length ≤ 4000) (hn : nestB (begs 0 code) = true) (h : Lst w s 6 lpC (loopsL code)) : Lps w s (loopsL code) :=
 ⟨h, loopsL_up code, fun x hx => by have := loops_low hc x hx; omega, loops_deep hn⟩
theorem jumps_of {p : Pg} {D : Dat} (h : CheckP p D) (hl : p.code.n = D.code.length) : Jumps D := by
 intro k i hi hb
 obtain ⟨a, b, c, d, hs, _, h2, _⟩ := h.2.2.2.2 k i hi
 have hb' : b = 106 := by
  unfold isB at hb
  simp only [Bool.or_eq_true, beq_iff_eq] at hb
  rcases hb with (e | e) | e <;> rw [e] at hs <;> (simp [shapeL] at hs; exact hs.2.1.symm)
 subst hb'
 have h2 : fieldB p D k 106 i.b = true := h2
 simp [fieldB] at h2
 exact ⟨(i.b - 1).toNat, by omega, by omega, by omega⟩
noncomputable def loopsE (p : Pg) (D : Dat) : Int := if checkE p D = 0 then (if loopsB D.code then 0 else 141) else checkE p D
end Go.Proofs.Vf
