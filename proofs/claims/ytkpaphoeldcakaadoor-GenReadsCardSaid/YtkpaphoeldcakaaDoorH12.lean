/- GenReads, by hand: part H12. -/
import Derived.Test.YtkpaphoeldcakaaDoorH11
namespace Go.Proofs.YtkpaphoeldcakaaDoor.Gr
open Go Go.Proofs Go.RowKit Go.Lib
attribute [local go_sem ↓] Go.wp_at_zero Go.wp_at_succ
theorem wrap_in {x : Int} (h : -9223372036854775808 ≤ x) (h2 : x < 9223372036854775808) : IntKind.i64.wrap x = x := (IntWalk.i64_left _).trans (wrap_id h h2)
theorem wrap_low (x : Int) : -9223372036854775808 ≤ IntKind.i64.wrap x := by rw [IntWalk.i64_left]; exact wrap_ge x
set_option maxHeartbeats 4000000 in
set_option maxRecDepth 100000 in
theorem expr_kids (P : Int → Prop) (B : Nat) (src : Sl) (W0 : World) (f : Nat) (hIH : ExprOK P B src W0 f) {tb : Obj} (hS : Tells tb 31 15) (hF : Tells tb 32 10) (hT0 : TOK tb W0) (hB0 : 0 < B) (hsrc : Src W0 B src) (mb : Nat) (m : Mk) (xs : List Con) (ys : List Ins) (k : Int) (s t : ByteArray) (en ea : Int) (g o n c : Nat) (tt free : Int) (w : World)
    (h : MkAt w mb B m xs ys) (hms : m.src = src) (hbw : Below B W0 w) (hb0 : m.bad = 0) (hn : 0 < n) (hn2 : n ≤ 1000000) (hq : k = 13 → 0 ≤ ea ∧ ea < src.n) (hg : g < B)
    (hT : ∀ i, i < n → ∃ e', At6 W0 g (o + i * 6) e' ∧ Tr W0 B (Part src.n) f e')
    (hP : P tt) (htg : -9223372036854775808 ≤ tt) (hfP : tt < 250 → 0 ≤ free ∧ free < 9223372036854775808 ∧ ∀ r, free ≤ r → P r) :
    Calls Tryd.prog 16 #[mp mb, (⟨k, s, t, en, ea, ⟨some ⟨g, o, none⟩, n, c⟩⟩ : Ev).v, .int .i64 tt, .int .i64 free] w fun e w' => e = .returned (.tuple #[]) ∧ Fin P mb B m xs ys w w' := by
  have hd : (m.bad == 0) = true := by simp [hb0]
  have hst := St.start P h (⟨k, s, t, en, ea, ⟨some ⟨g, o, none⟩, n, c⟩⟩ : Ev).cells
  have c1 := blk_cell hst.maker.at_
  have HQ := Lib.hid hq
  have HB := Lib.hid hb0
  have HP := Lib.hid hP
  have HT := Lib.hid hT
  have HF := Lib.hid hfP
  have hn0 : ((n : Int) == 0) = false := by simp; omega
  have HM := Lib.hid hms
  have HN := Lib.hid hn
  clear hb0 hq hP hT hfP hms hn
  go_enter Tryd.func16, Tryd.ntmps16
  go_upto_block 0 with (first
    | (go_at_call 26
       refine (hst.need tt htg (fun _ => HP.out)).mono ?_
       rintro e w2 ⟨q1, rfl, m2, hst2, hq1, hg2, hr2⟩
       have c2 := blk_cell hst2.own
       have hp1 : Has m2 P tt := fun hb => by have h1 := hq1 hb; rw [(hr2 hb).1] at h1; exact h1
       have ht2 : Hid (m2.bad = 0 → tt < 250) := Lib.hid fun hb => (hr2 hb).2))
  go_cut [29] (fun s29 wx => ∃ m6 xs6 ys6, St P mb B m xs ys w.heap.size (⟨k, s, t, en, ea, ⟨some ⟨g, o, none⟩, n, c⟩⟩ : Ev).cells w wx m6 xs6 ys6 ∧ Has m6 P tt ∧ (m6.bad = 0 → tt < 250 ∧ free + n ≤ 250))
  case first =>
    go_wp2_with fail
    go_loopg [29] n (fun lft i W => ∃ (kk : Nat) (m6 : Mk) (xs6 : List Con) (ys6 : List Ins), kk + lft = n ∧ i = .int .i64 kk ∧ St P mb B m xs ys w.heap.size (⟨k, s, t, en, ea, ⟨some ⟨g, o, none⟩, n, c⟩⟩ : Ev).cells w W m6 xs6 ys6 ∧ Has m6 P tt ∧ Hid (m6.bad = 0 → tt < 250 ∧ (kk = 0 ∨ free + kk ≤ 250)))
    case atStart => exact ⟨0, _, _, _, by omega, rfl, hst2, hp1, Lib.hid fun hb => ⟨ht2.out hb, .inl rfl⟩⟩
    case round =>
      obtain ⟨kk, m6, xs6, ys6, hl, rfl, hst6, hp6, hk6⟩ := hrel
      by_cases hlt : kk < n
      · have hlt' : ((kk : Int) < (n : Int)) = True := by simp; omega
        obtain ⟨e', h6, htr⟩ := HT.out kk hlt
        have hbwr : Below B W0 wr := hbw.trans (h.fr_below hst6.fr)
        have d := h6.on hbwr hg
        obtain ⟨k', s', t', n', a', ⟨ka, kn, kc⟩⟩ := e'
        have d0 : wr.cell? ⟨g, o + kk * 6, none⟩ = some (.int .u8 k') := d.c0
        have d1 : wr.cell? ⟨g, o + kk * 6 + 1, none⟩ = some (.string s') := d.c1
        have d2 : wr.cell? ⟨g, o + kk * 6 + 2, none⟩ = some (.string t') := d.c2
        have d3 : wr.cell? ⟨g, o + kk * 6 + 3, none⟩ = some (.int .i64 n') := d.c3
        have d4 : wr.cell? ⟨g, o + kk * 6 + 4, none⟩ = some (.int .i64 a') := d.c4
        have d5 : wr.cell? ⟨g, o + kk * 6 + 5, none⟩ = some (.slice ka kn kc) := d.c5
        have hgw : g < wr.heap.size := World.block_lt_of_cell? _ _ d0
        have hne : g ≠ wr.heap.size := by omega
        have hal : ∀ o, Below wr.heap.size wr (wr.alloc o).drew := fun o => ((Below.refl _ _).alloc (Nat.le_refl _) o).drew
        obtain ⟨E, hE⟩ : ∃ E : Array Value, E = #[.int .u8 k', .string s', .string t', .int .i64 n', .int .i64 a', .slice ka kn kc] := ⟨_, rfl⟩
        have e6 : ∀ o j, (wr.alloc o).cell? ⟨w.heap.size, j, none⟩ = _ := fun o j => blk_cell (hst6.below (hal o)).own j
        obtain ⟨R, hR⟩ : ∃ R, IntKind.i64.wrap (free + (kk : Int)) = R := ⟨_, rfl⟩
        obtain ⟨F2, hF2⟩ : ∃ F2, IntKind.i64.wrap (free + (n : Int)) = F2 := ⟨_, rfl⟩
        have hRg : -9223372036854775808 ≤ R := hR ▸ wrap_low _
        have HR : Hid (m6.bad = 0 → R = free + kk ∧ 0 ≤ free) := Lib.hid fun hb => by
          obtain ⟨h1, h2⟩ := hk6.out hb
          obtain ⟨h3, h4, _⟩ := HF.out h1
          rw [← hR]; exact ⟨wrap_in (by omega) (by rcases h2 with h0 | h0 <;> omega), h3⟩
        have hRP : m6.bad = 0 → P R := fun hb => by rw [(HR.out hb).1]; exact (HF.out (hk6.out hb).1).2.2 _ (by omega)
        have HF2 : Hid (0 ≤ free → free < 250 → F2 = free + n) := Lib.hid fun h0 hb => by rw [← hF2]; exact wrap_in (by omega) (by omega)
        have hkid := hst6.below (hal (.cells #[.int .u8 k', .string s', .string t', .int .i64 n', .int .i64 a', .slice ka kn kc] 33))
        have hk1 : ((wr.alloc (.cells #[.int .u8 k', .string s', .string t', .int .i64 n', .int .i64 a', .slice ka kn kc] 33)).drew).heap[wr.heap.size]? = some (.cells #[.int .u8 k', .string s', .string t', .int .i64 n', .int .i64 a', .slice ka kn kc] 33) := heap_alloc_new wr _
        have HRP := Lib.hid hRP
        have HK1 := Lib.hid hk1
        clear hRP hk1 d hE E
        go_upto_block 1 with (fail)
        go_cut [46] (fun s46 wx => ∃ m7 xs7 ys7, St P mb B m xs ys w.heap.size (⟨k, s, t, en, ea, ⟨some ⟨g, o, none⟩, n, c⟩⟩ : Ev).cells w wx m7 xs7 ys7 ∧ Has m7 P tt ∧ Hid (m7.bad = 0 → tt < 250 ∧ free + kk < 250))
        case first =>
          go_wp2_with (fail)
          go_region_with (first
            | (go_at_call 26
               refine (hkid.need2 R hRg HRP.out HK1.out).mono ?_
               rintro e w3 ⟨q3, rfl, m3, hst3, hq3, hg3, hr3, hk3⟩
               have c3 := blk_cell hst3.own
               have c4 := blk_cell hk3)
            | (go_at_call 16
               refine (hIH _ htr mb m3 xs6 ys6 q3 F2 _ hst3.maker ((hg3.same.2.2.2.2.2.2.1).trans ((hst6.grow.same.2.2.2.2.2.2.1).trans HM.out)) (hbw.trans (h.fr_below hst3.fr))
                 (fun hb => ⟨(hq3 hb).1, by rw [(hr3 hb).1]; exact hRg⟩)
                 (fun hb _ => by
                   obtain ⟨h1, h4⟩ := HR.out (hg3.good hb).1
                   have h2 := (hr3 hb).2
                   have h3 := HF2.out h4 (by omega)
                   exact ⟨by omega, by omega, fun r hr => (HF.out (hk6.out (hg3.good hb).1).1).2.2 r (by omega)⟩)).mono ?_
               rintro e w4 ⟨rfl, m7, xs7, ys7, hg7, hm7, hf7⟩))
          all_goals (go_wp2_with fail)
          all_goals go_meet
          all_goals exact ⟨m7, xs7, ys7, hst3.on hg7 hm7 hf7, (hp6.on hg3).on hg7, Lib.hid fun hb => by
            have h0 := (hg7.good hb).1
            have h1 := HR.out (hg3.good h0).1
            have h2 := (hr3 h0).2
            exact ⟨(hk6.out (hg3.good h0).1).1, by omega⟩⟩
        case rest =>
          obtain ⟨m7, xs7, ys7, hst7, hp7, hk7⟩ := hcut
          clear hkid hst6 hp6 e6 d0 d1 d2 d3 d4 d5 hR hF2
          go_wp2_with (fail)
          go_roundg (n - kk - 1)
          case measure => omega
          case rel => exact ⟨kk + 1, m7, xs7, ys7, by omega, by first | rfl | go_num, hst7, hp7, Lib.hid fun hb => ⟨(hk7.out hb).1, .inr (by have := hk7.out hb; omega)⟩⟩
      · have hlt' : ((kk : Int) < (n : Int)) = False := by simp; omega
        go_wp2_with fail
        go_meet
        exact ⟨m6, xs6, ys6, hst6, hp6, fun hb => ⟨(hk6.out hb).1, by have := hk6.out hb; have := HN.out; omega⟩⟩
  case rest =>
    obtain ⟨m6, xs6, ys6, hst6, hp6, hk6⟩ := hcut
    have c6 := blk_cell hst6.own
    have htw : TOK tb wc := hT0.on (hbw.trans (h.fr_below hst6.fr)) hB0
    have HK := Lib.hid hk6
    clear hk6 hst hst2 hg2 hr2 hq1 hp1 c1 c2
    have put : ∀ (W : World), Below wc.heap.size wc W → ∀ (o' b' c' d' : Int), okOp o' → Calls Tryd.prog 28 #[mp mb, .agg #[.int .u8 o', .int .i64 tt, .int .i64 b', .int .i64 c', .int .i64 d']] W fun e w' => e = .returned (.tuple #[]) ∧ Fin P mb B m xs ys w w' := by
      intro W hb o' b' c' d' ho
      refine ((hst6.below hb).put o' tt b' c' d' ho hp6).mono ?_
      rintro e w' ⟨rfl, m2, ys2, hs, _⟩
      exact ⟨rfl, hs.fin⟩
    have PUT := Lib.hid put
    clear put
    by_cases k7 : k = 7
    · subst k7
      by_cases h1 : n = 1
      · subst h1
        go_wp2_with (first
          | (go_at_call 29; refine (flag_any _ _).mono ?_; rintro e w7 ⟨⟨r7, rfl⟩, rfl⟩)
          | (go_at_call 28; refine (PUT.out _ (Below.refl _ _) _ _ _ _ (by unfold okOp; omega)).mono ?_; rintro e w8 ⟨rfl, hfin⟩))
        refine bodyPost_ret (results_none rfl _ _ _) rfl ?_
        exact ⟨rfl, hfin⟩
      · have hd1 : ((n : Int) == 1) = false := by simp; omega
        clear h1
        go_wp2_with (first
          | (go_at_call 30; refine (number_sign hS _ _ htw).mono ?_; rintro e w7 ⟨⟨r7, rfl⟩, hb7⟩)
          | (go_at_call 28; refine (PUT.out _ hb7 _ _ _ _ (by unfold okOp; omega)).mono ?_; rintro e w8 ⟨rfl, hfin⟩))
        refine bodyPost_end (results_none rfl _ _ _) rfl ?_
        exact ⟨rfl, hfin⟩
    by_cases k8 : k = 8
    · subst k8
      go_wp2_with (first
        | (go_at_call 28; refine (PUT.out _ (Below.refl _ _) _ _ _ _ (by unfold okOp; omega)).mono ?_; rintro e w8 ⟨rfl, hfin⟩))
      refine bodyPost_end (results_none rfl _ _ _) rfl ?_
      exact ⟨rfl, hfin⟩
    by_cases k11 : k = 11
    · subst k11
      go_wp2_with (first
        | (go_at_call 29; refine (flag_any _ _).mono ?_; rintro e w7 ⟨⟨r7, rfl⟩, rfl⟩)
        | (go_at_call 28; refine (PUT.out _ (Below.refl _ _) _ _ _ _ (by unfold okOp; omega)).mono ?_; rintro e w8 ⟨rfl, hfin⟩))
      refine bodyPost_end (results_none rfl _ _ _) rfl ?_
      exact ⟨rfl, hfin⟩
    by_cases k10 : k = 10
    · subst k10
      go_wp2_with (fail)
      go_region_with (first
        | (go_at_call 30; refine (number_func hF _ _ (show TOK tb wc.drew from htw)).mono ?_; rintro e w7 ⟨⟨r7, rfl⟩, hb7⟩; have c7 := blk_cell (hst6.below ((Below.refl _ _).drew.trans (hb7.mono (Nat.le_refl _)))).own)
        | (go_at_call 28; refine (PUT.out _ ((Below.refl _ _).drew.trans (hb7.mono (Nat.le_refl _))) _ _ _ _ (by unfold okOp; omega)).mono ?_; rintro e w8 ⟨rfl, hfin⟩))
      all_goals go_wp2
      all_goals refine bodyPost_end (results_none rfl _ _ _) rfl ?_
      all_goals exact ⟨rfl, hfin⟩
    by_cases k9 : k = 9
    · subst k9
      go_wp2_with (first
        | (go_at_call 33
           refine (in_any P hS mb B m6 xs6 ys6 ⟨9, s, t, en, ea, ⟨some ⟨g, o, none⟩, n, c⟩⟩ tt free _ hst6.maker hp6 hn2 (fun hb => by
             obtain ⟨h1, h2⟩ := HK.out hb
             obtain ⟨h3, _, h4⟩ := HF.out h1
             exact ⟨h3, h2, h4 _ (by simp; omega), h4 _ (by simp; omega)⟩) htw).mono ?_
           rintro e w8 ⟨rfl, m8, xs8, ys8, hg8, hm8, hf8⟩))
      refine bodyPost_end (results_none rfl _ _ _) rfl ?_
      exact ⟨rfl, _, _, _, hst6.grow.trans hg8, hm8, hst6.fr.trans hf8⟩
    have e7 : (k == 7) = false := by simp [k7]
    have e8 : (k == 8) = false := by simp [k8]
    have e9 : (k == 9) = false := by simp [k9]
    have e10 : (k == 10) = false := by simp [k10]
    have e11 : (k == 11) = false := by simp [k11]
    clear k7 k8 k9 k10 k11
    have hms6 : m6.src = src := (hst6.grow.same.2.2.2.2.2.2.1).trans HM.out
    have hs6 : Src wc B m6.src := by rw [hms6]; exact hsrc.on (hbw.trans (h.fr_below hst6.fr))
    have hq6 : k = 13 → 0 ≤ ea ∧ ea < m6.src.n := by rw [hms6]; exact HQ.out
    have HQ6 := Lib.hid hq6
    clear hq6 hms6
    go_wp2_with (first
      | (go_at_call 27
         refine (leaf_all P mb B m6 xs6 ys6 ⟨k, s, t, en, ea, ⟨some ⟨g, o, none⟩, n, c⟩⟩ tt _ hst6.maker HP.out (fun hb => (hp6 hb).2) hs6 HQ6.out).mono ?_
         rintro e w8 ⟨rfl, m8, xs8, ys8, hg8, hm8, hf8⟩))
    refine bodyPost_end (results_none rfl _ _ _) rfl ?_
    exact ⟨rfl, _, _, _, hst6.grow.trans hg8, hm8, hst6.fr.trans hf8⟩
/-- An expression of any tree is put as it should. -/
theorem expr_ok (P : Int → Prop) (B : Nat) (src : Sl) (W0 : World) {tb : Obj} (hS : Tells tb 31 15) (hF : Tells tb 32 10) (hT0 : TOK tb W0) (hB0 : 0 < B) (hsrc : Src W0 B src) : ∀ f, ExprOK P B src W0 f
  | 0 => fun _ h => h.elim
  | f + 1 => fun ev ht mb m xs ys tt free w h hms hbw hto hfr => by
    by_cases hb0 : m.bad = 0
    · obtain ⟨hP, htg⟩ := hto hb0
      obtain ⟨⟨hq, hn2⟩, hT⟩ := ht
      by_cases hn : ev.kids.n = 0
      · exact expr_leaf P mb B m xs ys ev tt free w h hb0 hn (hms ▸ hsrc.on hbw) (hms ▸ hq) hP htg
      · obtain ⟨g, o, _, h1, h2, _, _⟩ := hT 0 (by omega)
        obtain ⟨k, s, t, en, ea, ⟨ka, n, c⟩⟩ := ev
        simp only at h1 hn hn2 hT hq
        subst h1
        refine expr_kids P B src W0 f (expr_ok P B src W0 hS hF hT0 hB0 hsrc f) hS hF hT0 hB0 hsrc mb m xs ys k s t en ea g o n c tt free w h hms hbw hb0 (by omega) hn2 hq h2 (fun i hi => ?_) hP htg (hfr hb0)
        obtain ⟨g', o', e', k1, _, k3, k4⟩ := hT i hi
        injection k1 with k1
        injection k1 with k5 k6
        subst k5 k6
        exact ⟨e', k3, k4⟩
    · exact expr_off P mb B m xs ys ev tt free w h hb0
end Go.Proofs.YtkpaphoeldcakaaDoor.Gr

