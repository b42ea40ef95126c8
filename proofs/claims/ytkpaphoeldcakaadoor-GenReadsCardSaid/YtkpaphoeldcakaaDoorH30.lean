/- GenReads, by hand: part H30. -/
import Derived.Test.YtkpaphoeldcakaaDoorH29
namespace Go.Proofs.YtkpaphoeldcakaaDoor.Gr
open Go Go.Proofs Go.RowKit Go.Lib
attribute [local go_sem ↓] Go.wp_at_zero Go.wp_at_succ
set_option maxHeartbeats 4000000 in
set_option maxRecDepth 100000 in
theorem law6_d (W w3 : World) (f : Nat) (ev : Ev) (q : Pl) (tt free : Int) (xs cs : List Con) (ys zs : List Ins) (X : Nat) (ver regs binds : Int) (names curs sorts tots : Sl) (ca : Option Addr) (nc cc : Nat) (da : Option Addr) (nd dc : Nat) (pregs : Int) (pca : Option Addr) (pnc pcc : Nat) (pda : Option Addr) (pnd pdc : Nat) (B : Nat) (w : World) (h0 : Hid (Lw W w3 (⟨ver, pregs, binds, names, ⟨pca, pnc, pcc⟩, curs, sorts, tots, ⟨pda, pnd, pdc⟩⟩ : Pg) ev q tt free X (⟨ver, regs, binds, names, ⟨ca, nc, cc⟩, curs, sorts, tots, ⟨da, nd, dc⟩⟩ : Pg) w)) (hm : Hid (Mad w3 (⟨ver, pregs, binds, names, ⟨pca, pnc, pcc⟩, curs, sorts, tots, ⟨pda, pnd, pdc⟩⟩ : Pg) (⟨ver, regs, binds, names, ⟨ca, nc, cc⟩, curs, sorts, tots, ⟨da, nd, dc⟩⟩ : Pg) tt free B xs cs ys zs)) (hin : Hid (In W f (⟨ver, pregs, binds, names, ⟨pca, pnc, pcc⟩, curs, sorts, tots, ⟨pda, pnd, pdc⟩⟩ : Pg) ev q free xs ys))
    (hA : Hid (∀ w, Below W.heap.size W w → Calls Tryd.prog 6 #[] w fun e w' => e = .returned (.bool true) ∧ w'.os = w.os ∧ w'.output = w.output ∧ ∀ i, i < w.heap.size → w'.heap[i]? = w.heap[i]?)) (b4 s6 u7 u8 u9 u10 u11 u12 u13 u14 u15 u16 u17 u18 u19 u20 u21 u22 u23 u24 u25 u26 u27 u28 u29 u30 u31 u32 u33 u34 u35 u36 u37 u38 u39 u40 u41 u42 u43 u44 u45 u46 u47 u48 u49 u50 u51 u52 u53 u54 u55 u56 u57 u58 u59 u60 u61 u62 u63 u64 u65 u66 u67 u68 u69 u70 u71 u72 u73 u74 u75 u76 u77 u78 u79 u80 u81 u82 u83 u84 u85 u86 u87 u88 u89 u90 u91 u92 u93 u94 u95 u96 u97 u98 u99 u100 u101 u102 u103 u104 u105 u106 u107 u108 u109 u110 u111 u112 u113 u114 u115 u116 u117 u118 u119 u120 u121 u122 u123 u124 u125 u126 u127 : Value) :
    Code.wp Tryd.prog (lsuf 6) (bodyPost Tryd.prog Tryd.f3 fun e w' => Law W e w') ⟨#[(⟨ver, pregs, binds, names, ⟨pca, pnc, pcc⟩, curs, sorts, tots, ⟨pda, pnd, pdc⟩⟩ : Pg).v, jv ev q tt free, .pointer (some ⟨W.heap.size, 0, none⟩), .pointer (some ⟨W.heap.size + 1, 0, none⟩), b4, .pointer (some ⟨X, 0, none⟩), s6, u7, u8, u9, u10, u11, u12, u13, u14, u15, u16, u17, u18, u19, u20, u21, u22, u23, u24, u25, u26, u27, u28, u29, u30, u31, u32, u33, u34, u35, u36, u37, u38, u39, u40, u41, u42, u43, u44, u45, u46, u47, u48, u49, u50, u51, u52, u53, u54, u55, u56, u57, u58, u59, u60, u61, u62, u63, u64, u65, u66, u67, u68, u69, u70, u71, u72, u73, u74, u75, u76, u77, u78, u79, u80, u81, u82, u83, u84, u85, u86, u87, u88, u89, u90, u91, u92, u93, u94, u95, u96, u97, u98, u99, u100, u101, u102, u103, u104, u105, u106, u107, u108, u109, u110, u111, u112, u113, u114, u115, u116, u117, u118, u119, u120, u121, u122, u123, u124, u125, u126, u127], []⟩ w := by
  have cb0 := blk_cell h0.out.b0
  have cb2 := blk_cell h0.out.b2
  have hlX : X < w.heap.size := (Array.getElem?_eq_some_iff.1 h0.out.b2).1
  have hlS : W.heap.size < w.heap.size := (Array.getElem?_eq_some_iff.1 h0.out.b0).1
  obtain ⟨hcp, hcc⟩ := con_pair h0.out.base h0.out.up hm.out.done.con hm.out.done.cn hin.out.hx hm.out.hxn
  have hcc1 : nc ≤ cc := hcc
  obtain ⟨hip, hdc⟩ := ins_pair h0.out.base h0.out.up hm.out.done.ins hm.out.done.yn hin.out.hy hm.out.hyn
  have hdc1 : nd ≤ dc := hdc
  have k1 : pnc ≤ nc := by have h1 : nc = (xs ++ cs).length := hm.out.done.cn; have h2 : pnc = xs.length := hm.out.hxn; rw [List.length_append] at h1; omega
  have k2 : pnd ≤ nd := by have h1 : nd = (ys ++ zs).length := hm.out.done.yn; have h2 : pnd = ys.length := hm.out.hyn; rw [List.length_append] at h1; omega
  have hc1 : pnc ≤ cc := by omega
  have hc2 : pnd ≤ dc := by omega
  have HCP := Lib.hid hcp
  have HIP := Lib.hid hip
  have hkeep : ∀ w', Below w.heap.size w w' → (∀ j, w'.cell? ⟨W.heap.size, j, none⟩ = (⟨ver, pregs, binds, names, ⟨pca, pnc, pcc⟩, curs, sorts, tots, ⟨pda, pnd, pdc⟩⟩ : Pg).cells[j]?) ∧ (∀ j, w'.cell? ⟨X, j, none⟩ = (⟨ver, regs, binds, names, ⟨ca, nc, cc⟩, curs, sorts, tots, ⟨da, nd, dc⟩⟩ : Pg).cells[j]?) := fun w' hb =>
    ⟨fun j => (hb.cell (p := ⟨W.heap.size, j, none⟩) hlS).trans (cb0 j), fun j => (hb.cell (p := ⟨X, j, none⟩) hlX).trans (cb2 j)⟩
  have HK := Lib.hid hkeep
  clear hcp hip hkeep k1 k2 hcc hdc hcc1 hdc1
  conv => arg 2; whnf
  go_upto_region 26 with (fail)
  go_cut [9] from 105 (fun s9 wx => ∃ Y, s9 = .pointer (some ⟨Y, 0, none⟩) ∧ Hid (wx.heap[Y]? = some (.cells (⟨ver, pregs, binds, names, ⟨ca, pnc, cc⟩, curs, sorts, tots, ⟨da, pnd, dc⟩⟩ : Pg).cells 29) ∧ Lw W w3 (⟨ver, pregs, binds, names, ⟨pca, pnc, pcc⟩, curs, sorts, tots, ⟨pda, pnd, pdc⟩⟩ : Pg) ev q tt free X (⟨ver, regs, binds, names, ⟨ca, nc, cc⟩, curs, sorts, tots, ⟨da, nd, dc⟩⟩ : Pg) wx))
  case first =>
    go_region_held3 (fun w' => (∀ j, w'.cell? ⟨W.heap.size, j, none⟩ = (⟨ver, pregs, binds, names, ⟨pca, pnc, pcc⟩, curs, sorts, tots, ⟨pda, pnd, pdc⟩⟩ : Pg).cells[j]?) ∧ (∀ j, w'.cell? ⟨X, j, none⟩ = (⟨ver, regs, binds, names, ⟨ca, nc, cc⟩, curs, sorts, tots, ⟨da, nd, dc⟩⟩ : Pg).cells[j]?))
      (exact HK.out _ (by
        repeat (first
          | exact Below.refl _ _
          | refine Below.drew ?_
          | refine Below.alloc ?_ (by simp) _
          | refine Below.setCell ?_ (by simp) _)))
      (first | fail)
    all_goals (go_wp2_with fail)
    all_goals go_meet
    all_goals exact ⟨w.heap.size, rfl, Lib.hid ⟨heap_alloc_new w _, h0.out.on (((Below.refl _ w).alloc (Nat.le_refl _) _).drew)⟩⟩
  case rest =>
    obtain ⟨Y, rfl, hy⟩ := hcut
    have cy := blk_cell hy.out.1
    have cz := blk_cell hy.out.2.b0
    clear cb0 cb2
    have hsame : SameIn wc names curs sorts tots ca pca pnc da pda pnd := by
      have hb := hy.out.2.base
      have hi := hin.out
      have up : Below w3.heap.size w3 wc := hy.out.2.up
      have cl : ∀ g o v, g < W.heap.size → W.cell? ⟨g, o, none⟩ = some v → wc.cell? ⟨g, o, none⟩ = some v := fun g o v hg h => (hb.cell (p := ⟨g, o, none⟩) hg).trans h
      refine ⟨fun i h => ?_, fun i h => ?_, fun i h => ?_, fun i h => ?_, (con_pair hb up hm.out.done.con hm.out.done.cn hi.hx hm.out.hxn).1, (ins_pair hb up hm.out.done.ins hm.out.done.yn hi.hy hm.out.hyn).1, hi.r1.n1, hi.r1.n3, hi.r1.n4, hi.r1.n5, hi.r1.n2, by have h1 : nd = (ys ++ zs).length := hm.out.done.yn; have h2 : pnd = ys.length := hm.out.hyn; have h3 : (ys ++ zs).length ≤ 5000 := hm.out.done.yn2; rw [List.length_append] at h3; omega⟩
      · obtain ⟨g, o, h1, h2, x, h3⟩ := hi.names i h; exact ⟨g, o, h1, Nat.lt_of_lt_of_le h2 hb.size, x, cl _ _ _ h2 h3⟩
      · obtain ⟨g, o, h1, h2, x, b, c, h3, h4, h5⟩ := hi.curs i h; exact ⟨g, o, h1, Nat.lt_of_lt_of_le h2 hb.size, x, b, c, cl _ _ _ h2 h3, cl _ _ _ h2 h4, cl _ _ _ h2 h5⟩
      · obtain ⟨g, o, h1, h2, a, n, c, x, b, h3, h4, h5, h6, h7⟩ := hi.sorts i h
        refine ⟨g, o, h1, Nat.lt_of_lt_of_le h2 hb.size, a, n, c, x, b, cl _ _ _ h2 h3, cl _ _ _ h2 h4, cl _ _ _ h2 h5, h6, fun j hj => ?_⟩
        obtain ⟨g', o', k1, k2, y, k3⟩ := h7 j hj
        exact ⟨g', o', k1, Nat.lt_of_lt_of_le k2 hb.size, y, cl _ _ _ k2 k3⟩
      · obtain ⟨g, o, h1, h2, x, b, h3, h4⟩ := hi.tots i h; exact ⟨g, o, h1, Nat.lt_of_lt_of_le h2 hb.size, x, b, cl _ _ _ h2 h3, cl _ _ _ h2 h4⟩
    have HS := Lib.hid hsame
    clear hsame
    rename (∀ (a : Act) (w : World), Code.wp _ _ _ a w → _) => hK
    refine hK _ _ ?_
    clear hK
    go_wp2_with (first
      | (go_at_call 8
         refine (same_any ver pregs binds names curs sorts tots ca pca pnc cc pcc da pda pnd dc pdc wc HS.out).mono ?_
         rintro e w5 ⟨rfl, hb5⟩)
      | (go_at_call 6
         refine (hA.out _ (hy.out.2.base.trans (hb5.mono hy.out.2.base.size))).mono ?_
         rintro e w6 ⟨rfl, ho1, ho2, hc6⟩))
    all_goals go_ret
    all_goals exact Law.of (hy.out.2.base.trans (hb5.mono hy.out.2.base.size)) ho1 ho2 hc6
end Go.Proofs.YtkpaphoeldcakaaDoor.Gr
