/- GenReads, by hand: part H9. -/
import Derived.Test.YtkpaphoeldcakaaDoorH8
import Derived.Deep.RegionHeld3
import Derived.IntWalk
import Derived.Deep.DeepCutAuto
namespace Go.Proofs.YtkpaphoeldcakaaDoor.Gr
open Go Go.Proofs Go.RowKit Go.Lib
/-- On the way: the maker has grown; the block b of the walk's own stands. -/
structure St (P : Int → Prop) (mb B : Nat) (m : Mk) (xs : List Con) (ys : List Ins) (b : Nat) (vals : Array Value) (w W : World) (m' : Mk) (xs' : List Con) (ys' : List Ins) : Prop where
  grow : Grow P m xs ys m' xs' ys'
  maker : MkAt W mb B m' xs' ys'
  fr : Fr w W (m.has mb) (m'.has mb)
  own : W.heap[b]? = some (.cells vals 33)
theorem St.below {P : Int → Prop} {mb B : Nat} {m m' : Mk} {xs xs' : List Con} {ys ys' : List Ins} {b : Nat} {vals : Array Value} {w W W' : World} (h : St P mb B m xs ys b vals w W m' xs' ys') (hb : Below W.heap.size W W') : St P mb B m xs ys b vals w W' m' xs' ys' :=
  ⟨h.grow, h.maker.below hb, h.fr.trans (Fr.of_below hb (Nat.le_refl _)), (hb.block b (Array.getElem?_eq_some_iff.1 h.own).1).trans h.own⟩
theorem St.on {P : Int → Prop} {mb B : Nat} {m m1 m2 : Mk} {xs xs1 xs2 : List Con} {ys ys1 ys2 : List Ins} {b : Nat} {vals : Array Value} {w W W' : World} (h : St P mb B m xs ys b vals w W m1 xs1 ys1)
    (hg : Grow P m1 xs1 ys1 m2 xs2 ys2) (hm : MkAt W' mb B m2 xs2 ys2) (hf : Fr W W' (m1.has mb) (m2.has mb)) : St P mb B m xs ys b vals w W' m2 xs2 ys2 :=
  ⟨h.grow.trans hg, hm, h.fr.trans hf, h.maker.stand hf h.own (by decide) (by decide) (by decide)⟩
/-- A register that was asked for, once nothing has failed. -/
def Has (m : Mk) (P : Int → Prop) (r : Int) : Prop := m.bad = 0 → P r ∧ r < m.regs
theorem Has.on {P Q : Int → Prop} {m1 m2 : Mk} {xs1 xs2 : List Con} {ys1 ys2 : List Ins} {r : Int} (h : Has m1 P r) (hg : Grow Q m1 xs1 ys1 m2 xs2 ys2) : Has m2 P r := fun hb => by
  obtain ⟨a, b, _⟩ := hg.good hb
  have := h a
  exact ⟨this.1, by omega⟩
/-- need, on the way. -/
theorem St.need {P : Int → Prop} {mb B : Nat} {m m1 : Mk} {xs xs1 : List Con} {ys ys1 : List Ins} {b : Nat} {vals : Array Value} {w W : World} (h : St P mb B m xs ys b vals w W m1 xs1 ys1) (r : Int) (hr : -9223372036854775808 ≤ r) (hP : m1.bad = 0 → P r) :
    Calls Tryd.prog 26 #[mp mb, .int .i64 r] W fun e w' => ∃ q, e = .returned (.int .i64 q) ∧ ∃ m2, St P mb B m xs ys b vals w w' m2 xs1 ys1 ∧ Has m2 P q ∧ Grow P m1 xs1 ys1 m2 xs1 ys1 ∧ (m2.bad = 0 → q = r ∧ r < 250) := by
  refine (need_any mb B m1 xs1 ys1 r W h.maker).mono ?_
  rintro e w' ⟨rfl, hm, hf⟩
  obtain ⟨hg, hh⟩ := needed_grow P m1 xs1 ys1 r hr
  refine ⟨_, rfl, _, h.on hg hm hf, fun hb => ?_, hg, fun hb => ?_⟩
  · obtain ⟨h1, h2⟩ := hh hb
    rw [if_neg (by omega)]
    exact ⟨hP (hg.good hb).1, h2⟩
  · obtain ⟨h1, h2⟩ := hh hb
    rw [if_neg (by omega)]
    exact ⟨rfl, h1⟩
theorem St.put {P : Int → Prop} {mb B : Nat} {m m1 : Mk} {xs xs1 : List Con} {ys ys1 : List Ins} {b : Nat} {vals : Array Value} {w W : World} (h : St P mb B m xs ys b vals w W m1 xs1 ys1) (o a b' c d : Int) (ho : okOp o) (hP : Has m1 P a) :
    Calls Tryd.prog 28 #[mp mb, .agg #[.int .u8 o, .int .i64 a, .int .i64 b', .int .i64 c, .int .i64 d]] W fun e w' => e = .returned (.tuple #[]) ∧ ∃ m2 ys2, St P mb B m xs ys b vals w w' m2 xs1 ys2 ∧ Grow P m1 xs1 ys1 m2 xs1 ys2 := by
  refine (put_any mb B m1 xs1 ys1 ⟨o, a, b', c, d⟩ W h.maker).mono ?_
  rintro e w' ⟨rfl, m2, ys2, hp, hm, hf⟩
  have hg := hp.grow xs1 ho (fun hb => (hP hb).1) (fun hb => (hP hb).2)
  exact ⟨rfl, m2, ys2, h.on hg hm hf, hg⟩
theorem St.cst {P : Int → Prop} {mb B : Nat} {m m1 : Mk} {xs xs1 : List Con} {ys ys1 : List Ins} {b : Nat} {vals : Array Value} {w W : World} (h : St P mb B m xs ys b vals w W m1 xs1 ys1) (k n : Int) (s : ByteArray) :
    Calls Tryd.prog 19 #[mp mb, .agg #[.int .u8 k, .int .i64 n, .string s]] W fun e w' => (∃ c : Int, e = .returned (.int .i64 c)) ∧ ∃ m2 xs2, St P mb B m xs ys b vals w w' m2 xs2 ys1 ∧ Grow P m1 xs1 ys1 m2 xs2 ys1 := by
  refine (constant_any mb B m1 xs1 ys1 ⟨k, n, s⟩ W h.maker).mono ?_
  rintro e w' ⟨hc, m2, xs2, hp, hm, hf⟩
  have hg : Grow P m1 xs1 ys1 m2 xs2 ys1 := hp.grow ys1
  exact ⟨hc, m2, xs2, h.on hg hm hf, hg⟩
theorem St.fin {P : Int → Prop} {mb B : Nat} {m m1 : Mk} {xs xs1 : List Con} {ys ys1 : List Ins} {b : Nat} {vals : Array Value} {w W : World} (h : St P mb B m xs ys b vals w W m1 xs1 ys1) : Fin P mb B m xs ys w W := ⟨m1, xs1, ys1, h.grow, h.maker, h.fr⟩
theorem St.start {mb B : Nat} {m : Mk} {xs : List Con} {ys : List Ins} {w : World} (P : Int → Prop) (h : MkAt w mb B m xs ys) (vals : Array Value) : St P mb B m xs ys w.heap.size vals w (w.alloc (.cells vals 33)) m xs ys := by
  have hb : Below w.heap.size w (w.alloc (.cells vals 33)) := (Below.refl _ w).alloc (Nat.le_refl _) _
  exact ⟨Grow.refl _ _ _ _, h.below hb, Fr.of_below hb (Nat.le_refl _), heap_alloc_new w _⟩
theorem wrap_ge (x : Int) : -9223372036854775808 ≤ wrap64 x := by unfold wrap64; omega
theorem wrap_id {x : Int} (h : -9223372036854775808 ≤ x) (h2 : x < 9223372036854775808) : wrap64 x = x := by unfold wrap64; omega

attribute [local go_sem ↓] Go.wp_at_zero Go.wp_at_succ
set_option maxHeartbeats 2000000 in
set_option maxRecDepth 100000 in
theorem in_any (P : Int → Prop) {tb : Obj} (hS : Tells tb 31 15) (mb B : Nat) (m : Mk) (xs : List Con) (ys : List Ins) (ev : Ev) (tt free : Int) (w : World) (h : MkAt w mb B m xs ys) (hto : Has m P tt) (hkn : ev.kids.n ≤ 1000000)
    (hf : m.bad = 0 → 0 ≤ free ∧ free + ev.kids.n ≤ 250 ∧ P (free + ev.kids.n) ∧ P (free + ev.kids.n + 1)) (hw : TOK tb w) :
    Calls Tryd.prog 33 #[mp mb, ev.v, .int .i64 tt, .int .i64 free] w fun e w' => e = .returned (.tuple #[]) ∧ Fin P mb B m xs ys w w' := by
  obtain ⟨S, hS1⟩ : ∃ S, IntKind.i64.wrap (free + (ev.kids.n : Int)) = S := ⟨_, rfl⟩
  obtain ⟨O, hO1⟩ : ∃ O, IntKind.i64.wrap (S + 1) = O := ⟨_, rfl⟩
  have hS2 : wrap64 (free + (ev.kids.n : Int)) = S := (IntWalk.i64_left _).symm.trans hS1
  have hO2 : wrap64 (S + 1) = O := (IntWalk.i64_left _).symm.trans hO1
  have hSg : -9223372036854775808 ≤ S := hS2 ▸ wrap_ge _
  have hOg : -9223372036854775808 ≤ O := hO2 ▸ wrap_ge _
  have hPS : m.bad = 0 → P S := fun hb => by
    obtain ⟨h1, h2, h3, h4⟩ := hf hb
    rw [← hS2, wrap_id (by omega) (by omega)]; exact h3
  have hPO : m.bad = 0 → P O := fun hb => by
    obtain ⟨h1, h2, h3, h4⟩ := hf hb
    rw [← hO2, ← hS2, wrap_id (x := free + _) (by omega) (by omega), wrap_id (by omega) (by omega)]; exact h4
  have hst := St.start P h ev.cells
  have c0 := blk_cell hst.own
  have hwt : TOK tb (w.alloc (.cells ev.cells 33)) := hw.on ((Below.refl _ w).alloc (Nat.le_refl _) _) hw.lt
  have HF := Lib.hid hf
  have HS := Lib.hid hS2
  have HO := Lib.hid hO2
  clear hf
  go_enter Tryd.func33, Tryd.ntmps33
  go_upto_region 2 with (first | (go_at_call 30; refine (number_sign hS _ _ hwt).mono ?_; rintro e w2 ⟨⟨r, rfl⟩, hb2⟩; replace hst := hst.below hb2; replace hwt := hwt.on hb2 hwt.lt; have c1 := blk_cell hst.own))
  have hstd := hst.below (Below.refl _ _).drew
  go_cut [10, 11] (fun s10 s11 wx => ∃ q1 q2 m3, s10 = .int .i64 q1 ∧ s11 = .int .i64 q2 ∧ St P mb B m xs ys w.heap.size ev.cells w wx m3 xs ys ∧ Has m3 P q1 ∧ Has m3 P q2)
  case first =>
    go_region_with
      (first
        | (go_at_call_of 26 (Value.int IntKind.i64 S); refine (hstd.need S hSg hPS).mono ?_; rintro e w3 ⟨q1, rfl, m2, hst2, hq1, hg2, hr2⟩; have c2 := blk_cell hst2.own)
        | (go_at_call_of 26 (Value.int IntKind.i64 O); refine (hst2.need O hOg (fun hb => hPO (hg2.good hb).1)).mono ?_; rintro e w4 ⟨q2, rfl, m3, hst3, hq2, hg3, hr3⟩; have c3 := blk_cell hst3.own))
    all_goals (go_wp2_with fail)
    all_goals go_meet
    all_goals exact ⟨q1, q2, m3, rfl, rfl, hst3, hq1.on hg3, hq2⟩
  case rest =>
    obtain ⟨q1, q2, m3, rfl, rfl, hst3, hq1, hq2⟩ := hcut
    clear hS1 hO1 hSg hOg hPS hPO hstd hst c0 c1
    go_wp2_with (first
      | (go_at_call 19; refine (hst3.cst _ _ _).mono ?_; rintro e w4 ⟨⟨c, rfl⟩, m4, xs4, hst4, hg4⟩)
      | (go_at_call 28; refine (hst4.put _ _ _ _ _ (.inl rfl) (hq1.on hg4)).mono ?_; rintro e w5 ⟨rfl, m5, ys5, hst5, hg5⟩))
    have hg5a := hg4.trans hg5
    have hq1 := hq1.on hg5a
    have hq2 := hq2.on hg5a
    go_loopg [12] (ev.kids.n + 1) (fun lft i W => ∃ (k : Nat) (m6 : Mk) (xs6 : List Con) (ys6 : List Ins), (k + lft = ev.kids.n + 1 ∨ lft = ev.kids.n + 1) ∧ 1 ≤ k ∧ i = .int .i64 k ∧ St P mb B m xs ys w.heap.size ev.cells w W m6 xs6 ys6 ∧ Has m6 P q1 ∧ Has m6 P q2)
    case atStart => exact ⟨1, _, _, _, .inr rfl, by omega, rfl, hst5, hq1, hq2⟩
    case round =>
      obtain ⟨k, m6, xs6, ys6, hl, hk1, rfl, hst6, hp1, hp2⟩ := hrel
      have c6 := blk_cell hst6.own
      clear hst3 hst4 hst5 hq1 hq2 hg4 hg5 hg5a
      by_cases hlt : k < ev.kids.n
      · have hlt' : ((k : Int) < (ev.kids.n : Int)) = True := by simp; omega
        go_wp2_with (first
          | (go_at_call_of 28 (Value.int IntKind.i64 q1); refine (hst7.put _ _ _ _ _ (by unfold okOp; omega) (hp1.on hg7)).mono ?_; rintro e w8 ⟨rfl, m8, ys8, hst8, hg8⟩)
          | (go_at_call 28; refine (hst6.put _ _ _ _ _ (by unfold okOp; omega) hp2).mono ?_; rintro e w7 ⟨rfl, m7, ys7, hst7, hg7⟩))
        go_roundg (ev.kids.n - k)
        case measure => omega
        case rel => exact ⟨k + 1, _, _, _, .inl (by omega), by omega, by first | rfl | go_num, hst8, (hp1.on hg7).on hg8, (hp2.on hg7).on hg8⟩
      · have hlt' : ((k : Int) < (ev.kids.n : Int)) = False := by simp; omega
        have hto6 := hto.on hst6.grow
        by_cases hn : ev.n = 1
        · have hd : (ev.n == 1) = true := by simp [hn]
          clear hn
          go_wp2_with (first
            | (go_at_call 28; refine (hst6.put _ _ _ _ _ (by unfold okOp; omega) hto6).mono ?_; rintro e w7 ⟨rfl, m7, ys7, hst7, hg7⟩))
          refine bodyPost_ret (results_none rfl _ _ _) rfl ?_
          exact ⟨rfl, hst7.fin⟩
        · have hd : (ev.n == 1) = false := by simp [hn]
          clear hn
          go_wp2_with (first
            | (go_at_call 28; refine (hst6.put _ _ _ _ _ (by unfold okOp; omega) hto6).mono ?_; rintro e w7 ⟨rfl, m7, ys7, hst7, hg7⟩))
          refine bodyPost_end (results_none rfl _ _ _) rfl ?_
          exact ⟨rfl, hst7.fin⟩
end Go.Proofs.YtkpaphoeldcakaaDoor.Gr
