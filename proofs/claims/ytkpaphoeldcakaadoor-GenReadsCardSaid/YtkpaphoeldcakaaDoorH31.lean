/- GenReads, by hand: part H31. -/
import Derived.Test.YtkpaphoeldcakaaDoorH30
namespace Go.Proofs.YtkpaphoeldcakaaDoor.Gr
open Go Go.Proofs Go.RowKit Go.Lib
attribute [local go_sem ↓] Go.wp_at_zero Go.wp_at_succ
set_option maxHeartbeats 8000000 in
set_option maxRecDepth 100000 in
theorem law4 (W w3 : World) (f : Nat) (ev : Ev) (q : Pl) (tt free : Int) (xs cs : List Con) (ys zs : List Ins) (X : Nat) (ver regs binds : Int) (names curs sorts tots : Sl) (ca : Option Addr) (nc cc : Nat) (da : Option Addr) (nd dc : Nat) (pregs : Int) (pca : Option Addr) (pnc pcc : Nat) (pda : Option Addr) (pnd pdc : Nat) (B : Nat) (h0 : Hid (Lw W w3 (⟨ver, pregs, binds, names, ⟨pca, pnc, pcc⟩, curs, sorts, tots, ⟨pda, pnd, pdc⟩⟩ : Pg) ev q tt free X (⟨ver, regs, binds, names, ⟨ca, nc, cc⟩, curs, sorts, tots, ⟨da, nd, dc⟩⟩ : Pg) w3)) (hm : Hid (Mad w3 (⟨ver, pregs, binds, names, ⟨pca, pnc, pcc⟩, curs, sorts, tots, ⟨pda, pnd, pdc⟩⟩ : Pg) (⟨ver, regs, binds, names, ⟨ca, nc, cc⟩, curs, sorts, tots, ⟨da, nd, dc⟩⟩ : Pg) tt free B xs cs ys zs)) (hin : Hid (In W f (⟨ver, pregs, binds, names, ⟨pca, pnc, pcc⟩, curs, sorts, tots, ⟨pda, pnd, pdc⟩⟩ : Pg) ev q free xs ys)) (hA : Hid (∀ w, Below W.heap.size W w → Calls Tryd.prog 6 #[] w fun e w' => e = .returned (.bool true) ∧ w'.os = w.os ∧ w'.output = w.output ∧ ∀ i, i < w.heap.size → w'.heap[i]? = w.heap[i]?)) (b4 u7 u8 u9 u10 u11 u12 u13 u14 u15 u16 u17 u18 u19 u20 u21 u22 u23 u24 u25 u26 u27 u28 u29 u30 u31 u32 u33 u34 u35 u36 u37 u38 u39 u40 u41 u42 u43 u44 u45 u46 u47 u48 u49 u50 u51 u52 u53 u54 u55 u56 u57 u58 u59 u60 u61 u62 u63 u64 u65 u66 u67 u68 u69 u70 u71 u72 u73 u74 u75 u76 u77 u78 u79 u80 u81 u82 u83 u84 u85 u86 u87 u88 u89 u90 u91 u92 u93 u94 u95 u96 u97 u98 u99 u100 u101 u102 u103 u104 u105 u106 u107 u108 u109 u110 u111 u112 u113 u114 u115 u116 u117 u118 u119 u120 u121 u122 u123 u124 u125 u126 u127 : Value) :
    Code.wp Tryd.prog (lsuf 4) (bodyPost Tryd.prog Tryd.f3 fun e w' => Law W e w') ⟨#[(⟨ver, pregs, binds, names, ⟨pca, pnc, pcc⟩, curs, sorts, tots, ⟨pda, pnd, pdc⟩⟩ : Pg).v, jv ev q tt free, .pointer (some ⟨W.heap.size, 0, none⟩), .pointer (some ⟨W.heap.size + 1, 0, none⟩), b4, .pointer (some ⟨X, 0, none⟩), .int .i64 0, u7, u8, u9, u10, u11, u12, u13, u14, u15, u16, u17, u18, u19, u20, u21, u22, u23, u24, u25, u26, u27, u28, u29, u30, u31, u32, u33, u34, u35, u36, u37, u38, u39, u40, u41, u42, u43, u44, u45, u46, u47, u48, u49, u50, u51, u52, u53, u54, u55, u56, u57, u58, u59, u60, u61, u62, u63, u64, u65, u66, u67, u68, u69, u70, u71, u72, u73, u74, u75, u76, u77, u78, u79, u80, u81, u82, u83, u84, u85, u86, u87, u88, u89, u90, u91, u92, u93, u94, u95, u96, u97, u98, u99, u100, u101, u102, u103, u104, u105, u106, u107, u108, u109, u110, u111, u112, u113, u114, u115, u116, u117, u118, u119, u120, u121, u122, u123, u124, u125, u126, u127], []⟩ w3 := by
  conv => arg 2; whnf
  have c0 := blk_cell h0.out.b0
  have c1 := blk_cell h0.out.b1
  have c2 := blk_cell h0.out.b2
  have n1 : (nc : Nat) = (xs ++ cs).length := hm.out.done.cn
  have n2 : (nd : Nat) = (ys ++ zs).length := hm.out.done.yn
  have m1 : pnc = xs.length := hm.out.hxn
  have m2 : pnd = ys.length := hm.out.hyn
  obtain ⟨hdc, hz⟩ := zs_at hm.out.done.ins n2 m2
  have hz5 : (ys ++ zs).length ≤ 5000 := hm.out.done.yn2
  rw [List.length_append] at n1 n2 hz5
  have r1 : pregs ≤ regs := hm.out.done.regs
  have r2 : regs ≤ max pregs 250 := hm.out.done.regs2
  obtain ⟨A, hA1⟩ : ∃ A, (if dc = pnd then da else Option.map (fun x => x.add (pnd * 5)) da) = A := ⟨_, rfl⟩
  rw [hA1] at hz
  have hnd : nd = pnd + zs.length := by omega
  have HZ := Lib.hid hz
  clear hz
  subst hnd
  have hd1 : (((pnd + zs.length : Nat) : Int) < (pnd : Int)) = False := by simp; omega
  have hd2 : ((nc : Int) < (pnc : Int)) = False := by simp; omega
  have hd3 : (regs < pregs) = False := by simp; omega
  have hd4 : (max pregs 250 < regs) = False := by simp; omega
  have hd5 : ((pnd : Int) + (zs.length : Int) < (pnd : Int)) = False := by simp; omega
  have HR := Lib.hid hm.out.done.right
  clear n1 n2 m1 m2 r1 r2
  go_upto_block 0 with (fail)
  go_cut [4, 6] from 7 (fun s4 s6 wx => Hid (Lw W w3 (⟨ver, pregs, binds, names, ⟨pca, pnc, pcc⟩, curs, sorts, tots, ⟨pda, pnd, pdc⟩⟩ : Pg) ev q tt free X (⟨ver, regs, binds, names, ⟨ca, nc, cc⟩, curs, sorts, tots, ⟨da, pnd + zs.length, dc⟩⟩ : Pg) wx))
  case first =>
    go_wp2_with (fail)
    go_loopg [68] zs.length (fun lft i wr => ∃ (kk : Nat), kk + lft = zs.length ∧ i = .int .i64 kk ∧ Hid (Lw W w3 (⟨ver, pregs, binds, names, ⟨pca, pnc, pcc⟩, curs, sorts, tots, ⟨pda, pnd, pdc⟩⟩ : Pg) ev q tt free X (⟨ver, regs, binds, names, ⟨ca, nc, cc⟩, curs, sorts, tots, ⟨da, pnd + zs.length, dc⟩⟩ : Pg) wr))
    case atStart => exact ⟨0, by omega, rfl, h0⟩
    case round =>
      obtain ⟨kk, hl, rfl, ht⟩ := hrel
      by_cases hlk : kk < zs.length
      · have hlt : ((kk : Int) < (zs.length : Int)) = True := by simp; omega
        obtain ⟨z, hz⟩ : ∃ z, zs[kk]? = some z := ⟨_, List.getElem?_eq_getElem hlk⟩
        obtain ⟨g, o, e1, hg, x0, x1, x2, x3, x4⟩ := HZ.out kk z hz
        obtain ⟨hop, hzp, hzr⟩ := HR.out z (List.mem_of_getElem? hz)
        obtain ⟨zo, za, zb, zc, zd⟩ := z
        dsimp only at x0 x1 x2 x3 x4 hop hzp hzr
        subst e1
        have d0 := (ht.out.up.cell (p := ⟨g, o + kk * 5, none⟩) hg).trans x0
        have d1 := (ht.out.up.cell (p := ⟨g, o + kk * 5 + 1, none⟩) hg).trans x1
        have d2 := (ht.out.up.cell (p := ⟨g, o + kk * 5 + 2, none⟩) hg).trans x2
        have d3 := (ht.out.up.cell (p := ⟨g, o + kk * 5 + 3, none⟩) hg).trans x3
        have d4 := (ht.out.up.cell (p := ⟨g, o + kk * 5 + 4, none⟩) hg).trans x4
        have hal : ∀ o', Below wr.heap.size wr (wr.alloc o') := fun o' => (Below.refl _ wr).alloc (Nat.le_refl _) o'
        have k1 : ∀ o' j, (wr.alloc o').cell? ⟨W.heap.size + 1, j, none⟩ = (jcells ev q tt free)[j]? := fun o' j => blk_cell ((ht.out.on (hal o')).b1) j
        have k2 : ∀ o' j, (wr.alloc o').cell? ⟨X, j, none⟩ = _ := fun o' j => blk_cell ((ht.out.on (hal o')).b2) j
        have hr6 : (regs ≤ za) = False := by simp; exact hzr
        have HAL := Lib.hid hal
        clear x0 x1 x2 x3 x4 hz hal c0 c1 c2 hd1 hd2 hd3 hd4 hd5
        by_cases hz2 : za = tt
        · have hr7 : (regs ≤ tt) = False := by rw [← hz2]; exact hr6
          clear hzp hzr
          rcases hop with rfl | rfl | rfl | rfl | rfl | rfl | rfl | rfl | rfl
          all_goals
            go_wp2
            go_roundg (zs.length - kk - 1)
            case measure => omega
            case rel => exact ⟨kk + 1, by omega, by first | rfl | go_num, Lib.hid (ht.out.on (HAL.out _))⟩
        · have hd6 : (za != tt) = true := by simp [hz2]
          have hd7 : (za < free) = False := by
            simp
            exact hzp.resolve_left hz2
          clear hzp hzr
          rcases hop with rfl | rfl | rfl | rfl | rfl | rfl | rfl | rfl | rfl
          all_goals
            go_wp2
            go_roundg (zs.length - kk - 1)
            case measure => omega
            case rel => exact ⟨kk + 1, by omega, by first | rfl | go_num, Lib.hid (ht.out.on (HAL.out _))⟩
      · have hlt : ((kk : Int) < (zs.length : Int)) = False := by simp; omega
        go_wp2_with (fail)
        go_meet
        exact ht
  case rest =>
    rename (∀ (a : Act) (w : World), Code.wp _ _ _ a w → _) => hK
    refine hK _ _ ?_
    exact law6_d W w3 f ev q tt free xs cs ys zs X ver regs binds names curs sorts tots ca nc cc da _ dc pregs pca pnc pcc pda pnd pdc B wc hcut hm hin hA _ _ _ _ _ _ _ _ _ _ _ _ _ _ _ _ _ _ _ _ _ _ _ _ _ _ _ _ _ _ _ _ _ _ _ _ _ _ _ _ _ _ _ _ _ _ _ _ _ _ _ _ _ _ _ _ _ _ _ _ _ _ _ _ _ _ _ _ _ _ _ _ _ _ _ _ _ _ _ _ _ _ _ _ _ _ _ _ _ _ _ _ _ _ _ _ _ _ _ _ _ _ _ _ _ _ _ _ _ _ _ _ _ _ _ _ _ _ _ _ _ _ _
end Go.Proofs.YtkpaphoeldcakaaDoor.Gr
