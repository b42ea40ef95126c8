/- GenReads, by hand: part H32. -/
import Derived.Test.YtkpaphoeldcakaaDoorH31
namespace Go.Proofs.YtkpaphoeldcakaaDoor.Gr
open Go Go.Proofs Go.RowKit Go.Lib
attribute [local go_sem ↓] Go.wp_at_zero Go.wp_at_succ
theorem mad_alloc {w : World} {p p2 : Pg} {tt free : Int} {B : Nat} {xs cs : List Con} {ys zs : List Ins} (o : Obj) (h : Done (fun r => r = tt ∨ free ≤ r) p xs ys B w p2 cs zs) (hx : p.cons.n = xs.length) (hy : p.code.n = ys.length) : Mad (w.alloc o) p p2 tt free B xs cs ys zs :=
  ⟨⟨h.ver, h.binds, h.names, h.curs, h.sorts, h.tots, h.regs, h.regs2, h.con.alloc _, h.ins.alloc _, h.cn, h.yn, h.cn2, h.yn2, h.right⟩, hx, hy⟩
theorem law4' (W : World) (f : Nat) (p : Pg) (ev : Ev) (q : Pl) (tt free : Int) (xs cs : List Con) (ys zs : List Ins) (X : Nat) (p2 : Pg) (B : Nat) (w3 : World) (h0 : Hid (Lw W w3 p ev q tt free X p2 w3)) (hm : Hid (Mad w3 p p2 tt free B xs cs ys zs)) (hin : Hid (In W f p ev q free xs ys))
    (hA : Hid (∀ w, Below W.heap.size W w → Calls Tryd.prog 6 #[] w fun e w' => e = .returned (.bool true) ∧ w'.os = w.os ∧ w'.output = w.output ∧ ∀ i, i < w.heap.size → w'.heap[i]? = w.heap[i]?)) (b4 u7 u8 u9 u10 u11 u12 u13 u14 u15 u16 u17 u18 u19 u20 u21 u22 u23 u24 u25 u26 u27 u28 u29 u30 u31 u32 u33 u34 u35 u36 u37 u38 u39 u40 u41 u42 u43 u44 u45 u46 u47 u48 u49 u50 u51 u52 u53 u54 u55 u56 u57 u58 u59 u60 u61 u62 u63 u64 u65 u66 u67 u68 u69 u70 u71 u72 u73 u74 u75 u76 u77 u78 u79 u80 u81 u82 u83 u84 u85 u86 u87 u88 u89 u90 u91 u92 u93 u94 u95 u96 u97 u98 u99 u100 u101 u102 u103 u104 u105 u106 u107 u108 u109 u110 u111 u112 u113 u114 u115 u116 u117 u118 u119 u120 u121 u122 u123 u124 u125 u126 u127 : Value) :
    Code.wp Tryd.prog (lsuf 4) (bodyPost Tryd.prog Tryd.f3 fun e w' => Law W e w') ⟨#[p.v, jv ev q tt free, .pointer (some ⟨W.heap.size, 0, none⟩), .pointer (some ⟨W.heap.size + 1, 0, none⟩), b4, .pointer (some ⟨X, 0, none⟩), .int .i64 0, u7, u8, u9, u10, u11, u12, u13, u14, u15, u16, u17, u18, u19, u20, u21, u22, u23, u24, u25, u26, u27, u28, u29, u30, u31, u32, u33, u34, u35, u36, u37, u38, u39, u40, u41, u42, u43, u44, u45, u46, u47, u48, u49, u50, u51, u52, u53, u54, u55, u56, u57, u58, u59, u60, u61, u62, u63, u64, u65, u66, u67, u68, u69, u70, u71, u72, u73, u74, u75, u76, u77, u78, u79, u80, u81, u82, u83, u84, u85, u86, u87, u88, u89, u90, u91, u92, u93, u94, u95, u96, u97, u98, u99, u100, u101, u102, u103, u104, u105, u106, u107, u108, u109, u110, u111, u112, u113, u114, u115, u116, u117, u118, u119, u120, u121, u122, u123, u124, u125, u126, u127], []⟩ w3 := by
  obtain ⟨ver, pregs, binds, names, ⟨pca, pnc, pcc⟩, curs, sorts, tots, ⟨pda, pnd, pdc⟩⟩ := p
  obtain ⟨v2, regs, b2, n2, ⟨ca, nc, cc⟩, cu2, so2, to2, ⟨da, nd, dc⟩⟩ := p2
  have hd := hm.out.done
  obtain rfl : v2 = ver := hd.ver
  obtain rfl : b2 = binds := hd.binds
  obtain rfl : n2 = names := hd.names
  obtain rfl : cu2 = curs := hd.curs
  obtain rfl : so2 = sorts := hd.sorts
  obtain rfl : to2 = tots := hd.tots
  exact law4 W w3 f ev q tt free xs cs ys zs X v2 regs b2 n2 cu2 so2 to2 ca nc cc da nd dc pregs pca pnc pcc pda pnd pdc B h0 hm hin hA b4 u7 u8 u9 u10 u11 u12 u13 u14 u15 u16 u17 u18 u19 u20 u21 u22 u23 u24 u25 u26 u27 u28 u29 u30 u31 u32 u33 u34 u35 u36 u37 u38 u39 u40 u41 u42 u43 u44 u45 u46 u47 u48 u49 u50 u51 u52 u53 u54 u55 u56 u57 u58 u59 u60 u61 u62 u63 u64 u65 u66 u67 u68 u69 u70 u71 u72 u73 u74 u75 u76 u77 u78 u79 u80 u81 u82 u83 u84 u85 u86 u87 u88 u89 u90 u91 u92 u93 u94 u95 u96 u97 u98 u99 u100 u101 u102 u103 u104 u105 u106 u107 u108 u109 u110 u111 u112 u113 u114 u115 u116 u117 u118 u119 u120 u121 u122 u123 u124 u125 u126 u127
set_option maxHeartbeats 4000000 in
set_option maxRecDepth 100000 in
theorem law_any {tb : Obj} (hS : Tells tb 31 15) (hF : Tells tb 32 10) (f : Nat) (p : Pg) (ev : Ev) (q : Pl) (tt free : Int) (xs : List Con) (ys : List Ins) (W : World) (hin : In W f p ev q free xs ys) (hT : TOK tb W)
    (hA : ∀ w, Below W.heap.size W w → Calls Tryd.prog 6 #[] w fun e w' => e = .returned (.bool true) ∧ w'.os = w.os ∧ w'.output = w.output ∧ ∀ i, i < w.heap.size → w'.heap[i]? = w.heap[i]?) :
    Calls Tryd.prog 3 #[p.v, jv ev q tt free] W fun e w' => Law W e w' := by
  obtain ⟨W2, hW2⟩ : ∃ W2, W2 = (W.alloc (.cells p.cells 29)).alloc (.cells (jcells ev q tt free) 38) := ⟨_, rfl⟩
  have s1 : ∀ o, (W.alloc o).heap.size = W.heap.size + 1 := fun o => heap_size_alloc W o
  have hb : Below W.heap.size W W2 := by
    subst hW2
    exact ((Below.refl _ W).alloc (Nat.le_refl _) _).alloc (by rw [s1]; omega) _
  have hz : W2.heap.size = W.heap.size + 2 := by subst hW2; rw [heap_size_alloc, s1]
  have f1 : W2.heap[W.heap.size]? = some (.cells p.cells 29) := by
    subst hW2
    rw [Below.heap_alloc _ _ _ (by rw [s1]; omega)]; exact heap_alloc_new W _
  have f2 : W2.heap[W.heap.size + 1]? = some (.cells (jcells ev q tt free) 38) := by
    subst hW2
    have := heap_alloc_new (W.alloc (.cells p.cells 29)) (.cells (jcells ev q tt free) 38)
    rw [s1] at this; exact this
  have ht2 := (hin.tree.on hb).raise (B' := W2.heap.size) hb.size
  have hr2 : Read1 W2 W2.heap.size p := by
    have cl : ∀ g o v, g < W.heap.size → W.cell? ⟨g, o, none⟩ = some v → W2.cell? ⟨g, o, none⟩ = some v := fun g o v hg h => (hb.cell (p := ⟨g, o, none⟩) hg).trans h
    have hp := hin.r1
    refine ⟨fun i hi => ?_, fun i hi => ?_, fun i hi => ?_, fun i hi => ?_, fun i hi => ?_, hp.n1, hp.n2, hp.n3, hp.n4, hp.n5⟩
    · obtain ⟨g, o, h1, h2, x, h3⟩ := hp.names i hi; exact ⟨g, o, h1, by omega, x, cl _ _ _ h2 h3⟩
    · obtain ⟨g, o, h1, h2, x, h3⟩ := hp.cons i hi; exact ⟨g, o, h1, by omega, x, cl _ _ _ h2 h3⟩
    · obtain ⟨g, o, h1, h2, x, h3⟩ := hp.curs i hi; exact ⟨g, o, h1, by omega, x, cl _ _ _ h2 h3⟩
    · obtain ⟨g, o, h1, h2, x, y, z, h3⟩ := hp.sorts i hi; exact ⟨g, o, h1, by omega, x, y, z, cl _ _ _ h2 h3⟩
    · obtain ⟨g, o, h1, h2, x, h3⟩ := hp.tots i hi; exact ⟨g, o, h1, by omega, x, cl _ _ _ h2 h3⟩
  have hG : ∀ w, w = W2 → Calls Tryd.prog 5 #[p.v, jv ev q tt free] w fun e w' => GreatP W2 p f ev e ∧ Below W2.heap.size W2 w' := fun w hw => by
    rw [hw]; exact great_any W2.heap.size f p ev q tt free W2 (Nat.le_refl _) hr2 ht2
  have hE : ∀ w, Below W2.heap.size W2 w → p.code.n ≤ 5000 → p.cons.n ≤ 1100 → Tr W2 W2.heap.size Sm f ev → Calls Tryd.prog 7 #[p.v, ev.v, q.v, .int .i64 tt, .int .i64 free] w fun e w' => Exd (fun r => r = tt ∨ free ≤ r) p xs ys w e w' := by
    intro w hb2 h1 h2 h3
    have hbw := hb.trans (hb2.mono hb.size)
    exact expr_top _ hS hF p ev q tt free xs ys w f ((hin.tree.on hbw).raise hbw.size) (((h3.on hb2).raise hb2.size).mono fun e h => h) ((hin.src.on hbw).raise hbw.size) (hin.hx.on hbw (Nat.le_refl _)) hin.hxn (hin.hxn ▸ h2) (hin.hy.on hbw (Nat.le_refl _)) hin.hyn (hin.hyn ▸ h1) (.inl rfl) (fun r h => .inr h) hin.hfree (hT.on hbw hT.lt)
  have HE := Lib.hid hW2
  have HG := Lib.hid hG
  have HX := Lib.hid hE
  have HZ := Lib.hid hz
  have F1 := Lib.hid f1
  have F2 := Lib.hid f2
  have HA := Lib.hid hA
  have HIN := Lib.hid hin
  have HBB := Lib.hid hb
  clear hW2 hG hE hz f1 f2 hr2 ht2 s1 hA hin hb
  go_enter Tryd.func3, Tryd.ntmps3
  go_upto_region 4 with (first
    | (go_at_call 5
       refine (HG.out _ HE.out.symm).mono ?_
       rintro e w1 ⟨⟨b, rfl, hgr⟩, hb1⟩
       have c1 := blk_cell ((hb1.block W.heap.size (by rw [HZ.out]; omega)).trans F1.out)
       have c2 := blk_cell ((hb1.block (W.heap.size + 1) (by rw [HZ.out]; omega)).trans F2.out))
    | (go_at_call 6
       refine (HA.out _ (HBB.out.trans (hb1.mono HBB.out.size))).mono ?_
       rintro e w2 ⟨rfl, ho, ho2, hc⟩)
    | (go_at_call 7
       have hbf : b = false := by first | assumption | simpa using ‹¬ b = true› | (cases b <;> simp_all)
       refine (HX.out _ hb1 (hgr hbf).1 (hgr hbf).2.1 (hgr hbf).2.2).mono ?_
       rintro e w2 ⟨p2, r, rfl, hb2, hd⟩
       have hlow : W.heap.size + 2 ≤ w1.heap.size := by have := hb1.size; rw [HZ.out] at this; exact this
       have g1 := (hb2.block W.heap.size (by omega)).trans ((hb1.block W.heap.size (by rw [HZ.out]; omega)).trans F1.out)
       have g2 := (hb2.block (W.heap.size + 1) (by omega)).trans ((hb1.block (W.heap.size + 1) (by rw [HZ.out]; omega)).trans F2.out)))
  · go_ret
    exact Law.of (HBB.out.trans (hb1.mono HBB.out.size)) ho ho2 hc
  · have hbase := (HBB.out.trans (hb1.mono HBB.out.size)).trans (hb2.mono (HBB.out.trans (hb1.mono HBB.out.size)).size)
    have hbase2 := hbase.alloc hbase.size (.cells p2.cells 29)
    by_cases hr0 : r = 0
    · subst hr0
      obtain ⟨cs, zs, hdn⟩ := hd rfl
      have hxn := HIN.out.hxn
      have hyn := HIN.out.hyn
      have hlw : Lw W (w2.alloc (.cells p2.cells 29)) p ev q tt free w2.heap.size p2 (w2.alloc (.cells p2.cells 29)) := by
        have l1 := (Array.getElem?_eq_some_iff.1 g1).1
        have l2 := (Array.getElem?_eq_some_iff.1 g2).1
        exact ⟨hbase2, Below.refl _ _, (Below.heap_alloc _ _ _ l1).trans g1, (Below.heap_alloc _ _ _ l2).trans g2, heap_alloc_new _ _, by omega, by rw [heap_size_alloc]; omega⟩
      have hmd := mad_alloc (.cells p2.cells 29) hdn hxn hyn
      have HLW := Lib.hid hlw
      have HMD := Lib.hid hmd
      have HDN := Lib.hid hdn
      clear hlw hmd hdn hxn hyn hd
      go_upto_if 28 with (fail)
      go_cut [4] from 7 (fun s4 wx => wx = w2.alloc (.cells p2.cells 29))
      case first =>
        go_wp2_with fail
        go_meet
        exact rfl
      case rest =>
        subst hcut
        rename (∀ (a : Act) (w : World), Code.wp _ _ _ a w → _) => hK
        refine hK _ _ ?_
        clear hK
        exact law4' W f p ev q tt free xs cs ys zs w2.heap.size p2 w1.heap.size _ HLW HMD HIN HA _ _ _ _ _ _ _ _ _ _ _ _ _ _ _ _ _ _ _ _ _ _ _ _ _ _ _ _ _ _ _ _ _ _ _ _ _ _ _ _ _ _ _ _ _ _ _ _ _ _ _ _ _ _ _ _ _ _ _ _ _ _ _ _ _ _ _ _ _ _ _ _ _ _ _ _ _ _ _ _ _ _ _ _ _ _ _ _ _ _ _ _ _ _ _ _ _ _ _ _ _ _ _ _ _ _ _ _ _ _ _ _ _ _ _ _ _ _ _ _ _ _
    · have hd0 : (r == 0) = false := by simp [hr0]
      clear hr0 hd
      go_wp2_with (first
        | (go_at_call 6
           refine (HA.out _ hbase2).mono ?_
           rintro e w5 ⟨rfl, ho, ho2, hc⟩))
      go_ret
      exact Law.of hbase2 ho ho2 hc
end Go.Proofs.YtkpaphoeldcakaaDoor.Gr
