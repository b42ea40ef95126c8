/- An executable reading of the model's code on named blocks, and the proof that what it comes to is what the model does, in any order that is free: part 3. -/
import Derived.Test.YtmdcccegkamhaaaGreatDoorAbL2
import Derived.Lib.AppendZeros
import Derived.Orders
set_option linter.unusedSectionVars false
set_option linter.unusedVariables false
set_option linter.unusedSimpArgs false
namespace Go.Ab
variable [Val]
open Go
variable {C : Cx}
theorem HR.readC {e : Emb} {h : Hp} {w : World} (hr : HR e h w) {b g o m : Nat} {x : Loc} {l : List AV} (hx : e b g = some x) (hlo : x.lo ≤ o) (hv : h.readN b g o m = .ok l) :
 ∃ l' : List Value, (∀ j v, l'[j]? = some v → w.cell? ((⟨x.r, o - x.base, none⟩ : Addr).add j) = some v) ∧ VRL e l l' ∧ (∀ v ∈ l, v.isCell = true) ∧ l.length = m ∧
  ∀ i u, l[i]? = some u → ∃ blk, h.get b = some blk ∧ blk.read1 g (o + i) = some u := by
 obtain ⟨blk, hget, hbr⟩ := hr.at' b g x hx
 unfold Hp.readN at hv
 rw [hget] at hv
 have hv := Res.of_ok hv
 obtain ⟨hlen, hat⟩ := readN_get hv
 cases hb : w.heap[x.r]? with
 | none => rw [hb] at hbr; cases hbr
 | some ob =>
 rw [hb] at hbr
 cases hbr with
 | map es es' clock l a _ _ _ _ _ => subst a; cases hv
 | sit s pos a _ => subst a; cases hv
 | iter m0 since0 seen0 step0 a _ => subst a; cases hv
 | lp q0 fn0 tm0 df0 a => subst a; cases hv
 | busy o0 a => subst a; cases hv
 | dfr a => subst a; cases hv
 | cells c t fr q =>
  have key : ∀ i v, l[i]? = some v → v.isCell = true ∧ ∃ v', c[o - x.base + i]? = some v' ∧ VR e v v' := by
   intro i v hi
   obtain ⟨h1, v', h2, h3⟩ := q.at' (o + i) v (by omega) (hat i v hi)
   refine ⟨h1, v', ?_, h3⟩
   have := q.lo
   rw [← h2]; congr 1; omega
  let l' : List Value := (List.range m).map fun i => (c[o - x.base + i]?).getD undef
  have hl' : ∀ (i : Nat) (v : AV), l[i]? = some v → ∃ v', l'[i]? = some v' ∧ VR e v v' := by
   intro i v hi
   obtain ⟨_, v', h2, h3⟩ := key i v hi
   have him : i < m := by rw [← hlen]; exact (List.getElem?_eq_some_iff.1 hi).1
   exact ⟨v', by simp [l', him, h2], h3⟩
  refine ⟨l', fun j v hj => ?_, VRL.of_get (by simp [l', hlen]) hl', ?_, hlen, fun i u hi => ⟨blk, hget, hat i u hi⟩⟩
  · have hjm : j < m := by
     have := (List.getElem?_eq_some_iff.1 hj).1; simpa [l'] using this
    rw [Addr.add_mk]
    have hjl : j < l.length := by omega
    obtain ⟨_, v', h2, _⟩ := key j l[j] (List.getElem?_eq_getElem hjl)
    have : l'[j]? = some v' := by simp [l', hjm, h2]
    rw [this] at hj; cases hj
    simp [World.cell?, hb, h2]
  · intro v hvm
    obtain ⟨i, hi⟩ := List.mem_iff_getElem?.1 hvm
    exact (key i v hi).1
theorem cell_heap {w w' : World} (h : w'.heap = w.heap) (a : Addr) : w'.cell? a = w.cell? a := by unfold World.cell?; rw [h]
def SrcKind (C : Cx) (str : Bool) (size : Nat) (u : TypeId) : Prop := (str = true ∧ C.P.underlying u = some .string ∧ size = 1) ∨ (str = false ∧ ∃ el, C.P.underlying u = some (.slice el))
theorem src_sim {str : Bool} {size : Nat} {u : TypeId} (hkind : SrcKind C str size u) {e : Emb} {xv : AV} {x' : Value} (hv : VR e xv x') {h h' : Hp} {w : World} (hr : HR e h w) {k : Nat → (Nat → Res (List AV)) → R2} {v : AV} (hx : srcOf str size xv h k = .ok v h') :
 ∃ m cells, k m cells = .ok v h' ∧ (∀ w', (Builtin.lenOf x').run C.P w' = .ok m w') ∧ (∀ w', (Builtin.firstCells size 0 x').run C.P w' = .ok #[] w') ∧ ∀ q vs, q ≤ m → cells q = .ok vs →
  ∃ vs' : List Value, VRL e vs vs' ∧ (∀ u ∈ vs, u.isCell = true) ∧ vs.length = q * size ∧ ∀ w', w'.heap = w.heap → (Builtin.firstCells size q x').run C.P w' = .ok vs'.toArray w' := by
 rcases hkind with ⟨rfl, _, rfl⟩ | ⟨rfl, _⟩
 · have hx : xv.onStr R2.no (fun n a => k n fun m => (bytesA m a).bd Res.ok) = .ok v h' := hx
   obtain ⟨s0, rfl, hx⟩ := hv.strR hx
   refine ⟨_, _, hx, fun w' => rfl, fun w' => ?_, fun q vs hq hvs => ?_⟩
   · simp only [Builtin.firstCells, Sem.run_pure]
     congr 1
     apply Array.toList_inj.1
     rw [Array.toList_map, Lib.extract_data]
     simp
   rw [size_list] at hq
   rw [bytesA_eq _ _ hq, Bx.bd_mk] at hvs
   cases hvs
   refine ⟨_, u8_VRL e (s0.data.toList.take q), ?_, by rw [List.length_map, List.length_take]; omega, fun w' _ => ?_⟩
   · intro u hu
     obtain ⟨b, _, rfl⟩ := List.mem_map.1 hu
     rfl
   · simp only [Builtin.firstCells, Sem.run_pure]
     congr 1
     apply Array.toList_inj.1
     rw [Array.toList_map, Lib.extract_data]
     simp
 · have hx : xv.onSl R2.no (k 0 fun _ => .ok []) (fun b g o n _ => k n fun m => h.readN b g o (Nat.mul m size)) = .ok v h' := hx
   rcases hv.slR hx with ⟨rfl, hx⟩ | ⟨b, g, o, n, cc, cap, y, ad, p1, p2, p3, p4, _, _, rfl, had, hx⟩
   · refine ⟨_, _, hx, fun w' => rfl, fun w' => by simp [Builtin.firstCells], fun q vs hq hvs => ?_⟩
     cases hvs
     have : q = 0 := by omega
     subst this
     exact ⟨[], .nil, (fun u hu => by cases hu), by simp, fun w' _ => by simp [Builtin.firstCells]⟩
   · refine ⟨_, _, hx, fun w' => rfl, fun w' => by simp [Builtin.firstCells, loadCells, loadCellsFrom], fun q vs hq hvs => ?_⟩
     obtain ⟨l', h1, h2, h3, h4, _⟩ := hr.readC p1 p3 hvs
     refine ⟨l', h2, h3, h4, fun w' hw => ?_⟩
     rcases had with rfl | ⟨rfl, _⟩
     · exact run_firstCells_some w' size q _ _ _ l' (by rw [h2.length]; exact h4) (fun j u hj => by rw [cell_heap hw]; exact h1 j u hj)
     · have hq0 : q = 0 := by omega
       subst hq0
       have : l' = [] := List.eq_nil_of_length_eq_zero (by have := h2.length; have h4' : vs.length = 0 * size := h4; omega)
       subst this
       simp [Builtin.firstCells, loadCells, loadCellsFrom]
theorem cells_one {e : Emb} {vs : List AV} {vs' : List Value} (h : VRL e vs vs') (hc : ∀ u ∈ vs, u.isCell = true) : ∀ u ∈ vs', u.oneCell' = true := by
 intro v' hv'
 obtain ⟨i, hi⟩ := List.mem_iff_getElem?.1 hv'
 have hlen := h.length
 have hi2 : i < vs.length := by
  rcases List.getElem?_eq_some_iff.1 hi with ⟨h1, _⟩; omega
 obtain ⟨u, hu, hvr⟩ := h.get (List.getElem?_eq_getElem hi2)
 rw [hi] at hu; cases hu
 exact hvr.oneCell (hc _ (List.getElem_mem hi2))
section
variable {c : CallT} {f : Fr} {h h' : Hp} {v : AV} {e : Emb} {a : Act} {w : World} {ts : List TypeId} {l : List Operand} {s : List Sx} {co : CO} {ty : TypeId}
theorem copy_sim {str : Bool} {size : Nat} {sd sx : Sx} {d x : Value} {t u el : TypeId} {i : TypeInfo} {ts : List TypeId} {rest : List Value} (hr : HR e h w) (hu : C.P.underlying t = some (.slice el)) (hi : C.P.info? el = some i) (his : i.size = size) (hk : SrcKind C str size u)
 (hvd : VR e (ev f sd) d) (hvx : VR e (ev f sx) x) (hx : xO (.cpy str size sd sx) c f h = .ok v h') : BOK C (Builtin.copy_ (t :: u :: ts).toArray ty (d :: x :: rest).toArray) e h w v h' := by
 have hx : srcOf str size (ev f sx) h (fun m cells => (ev f sd).onSl R2.no (.ok (.int .i64 0) h) fun b g o n _ =>
  ifb (Nat.beq (Nat.min m n) 0) (.ok (.int .i64 0) h) ((cells (Nat.min m n)).bd2 fun vs => (h.write b g o vs).bd2 fun h => .ok (.int .i64 (.ofNat (Nat.min m n))) h)) = .ok v h' := hx
 obtain ⟨m, cells, hx, hlen, h0, hcells⟩ := src_sim hk hvx hr hx
 rcases hvd.slR hx with ⟨rfl, hx⟩ | ⟨b, g, o, n, cc, cap, y, ad, p1, p2, p3, p4, _, _, rfl, had, hx⟩
 · cases hx
   exact .here hr (v' := .int .i64 0) (by simp [Builtin.copy_, run_und hu, run_siz hi, his, hlen, h0, goInt]) (.int _ _)
 · cases hz : Nat.beq (Nat.min m n) 0 with
   | true =>
    rw [hz] at hx
    cases hx
    have hz := beq_iff.1 hz
    exact .here hr (v' := .int .i64 0) (by simp [Builtin.copy_, run_und hu, run_siz hi, his, hlen, hz, h0, goInt, storeCells]) (.int _ _)
   | false =>
    rw [hz] at hx
    have hx : (cells (Nat.min m n)).bd2 (fun vs => (h.write b g o vs).bd2 fun h => .ok (.int .i64 (.ofNat (Nat.min m n))) h) = .ok v h' := hx
    obtain ⟨vs, hvs, hx⟩ := Res.bd2_eq_ok hx
    obtain ⟨h2, hw, hx⟩ := Res.bd2_eq_ok hx
    cases hx
    obtain ⟨vs', k1, k2, k3, k4⟩ := hcells _ vs (Nat.min_le_left m n) hvs
    have had : ad = ⟨y.r, o - y.base, none⟩ := had.resolve_right (fun hh => by
     have h0 : Nat.min m n = 0 := by rw [hh.1]; exact Nat.min_zero m
     rw [beq_iff.2 h0] at hz; cases hz)
    subst had
    obtain ⟨w', w1, w2⟩ := hr.write C.P p1 p3 hw k1 k2
    refine ⟨.int .i64 (.ofNat (Nat.min m n)), e, w', ?_, w2, .int _ _⟩
    simp [Builtin.copy_, run_und hu, run_siz hi, his, hlen, k4 w rfl, w1, goInt]
theorem zeroCells_copies (z : Array Value) (n : Nat) : (Builtin.zeroCells z n).toList = copies n z.toList := by
 have h : Builtin.zeroCells z n = (Array.range (n * z.size)).map fun i => z[i % z.size]! := rfl
 rw [h, zeros_array z n (n * z.size) rfl]
theorem b_clear (hg : GR C e) (hf : FR e f a) (hr : HR e h w) (hs : sxL C l = some s) (h1 : mkBuiltin C .clear ts s = some co) (hx : xO co c f h = .ok v h') : BOK C (Builtin.clear_ ts.toArray ty (l.map a.eval).toArray) e h w v h' := by
 cases ts with
 | nil => cases h1
 | cons t ts => cases s with
  | nil => cases h1
  | cons sa s =>
   obtain ⟨x, l, rfl, sa1, hs⟩ := sxL_one hs
   have hv := sx_VR hg hf sa1
   simp only [mkBuiltin] at h1
   cases hu : C.P.underlying t with
   | none => rw [hu] at h1; cases h1
   | some d =>
    rw [hu] at h1
    cases d <;> try (cases h1; done)
    case slice el =>
     simp only at h1
     cases hsz : szOf C el with
     | none => rw [hsz] at h1; cases h1
     | some k0 => cases hz : zeroOf C el with
      | none => rw [hsz, hz] at h1; cases h1
      | some z =>
       rw [hsz, hz] at h1
       simp only at h1
       by_cases hc : z.cells.length = k0
       · rw [if_pos hc] at h1
         cases h1
         obtain ⟨zi, zv, i1, i2, i3, i4⟩ := zeroOf_spec hz
         obtain ⟨j2, j3⟩ := zero_cells (conv_VR e zv z i3) i4
         have hx : (ev f sa).onSl R2.no (.ok undefA h) (fun b g o n _ => ifb (Nat.beq n 0) (.ok undefA h) ((forceL z.cells).bd fun z => (zerosR n z).bd fun vs => (h.write b g o vs).hp)) = .ok v h' := hx
         rcases hv.slR hx with ⟨s1, hx⟩ | ⟨b, g, o, n, cc, cap, y, ad, p1, p2, p3, p4, _, _, s1, had, hx⟩
         · cases hx
           exact .here hr (v' := .tuple #[]) (by simp [Builtin.clear_, run_und hu, s1]) (undef_VR e)
         · cases hn : Nat.beq n 0 with
           | true =>
            rw [hn] at hx
            cases hx
            have hn := beq_iff.1 hn
            subst hn
            exact .here hr (v' := .tuple #[]) (by simp [Builtin.clear_, run_und hu, s1]) (undef_VR e)
           | false =>
            rw [hn, ifb_false, forceL_eq, Bx.bd_mk, zerosR_eq, Bx.bd_mk] at hx
            have hn0 : n ≠ 0 := fun hh => by rw [beq_iff.2 hh] at hn; cases hn
            have had : ad = ⟨y.r, o - y.base, none⟩ := had.resolve_right (fun hh => hn0 hh.1)
            subst had
            obtain ⟨hw, rfl⟩ := Res.hp_eq_ok hx
            obtain ⟨w', w1, w2⟩ := hr.write C.P p1 p3 hw (copies_VRL j2 n) (zerosA_cell j3 n)
            refine ⟨.tuple #[], e, w', ?_, w2, undef_VR e⟩
            obtain ⟨n, rfl⟩ : ∃ m, n = m + 1 := ⟨n - 1, by omega⟩
            simp only [Builtin.clear_, List.map_cons, List.getElem?_toArray, List.getElem?_cons_zero, Sem.run_bind, run_und hu, s1, Result.andThen_ok, run_zero i1 i2, zeroCells_copies, w1, Sem.run_pure]
       · rw [if_neg hc] at h1; cases h1
theorem b_copy (hg : GR C e) (hf : FR e f a) (hr : HR e h w) (hs : sxL C l = some s) (h1 : mkBuiltin C .copy ts s = some co) (hx : xO co c f h = .ok v h') : BOK C (Builtin.copy_ ts.toArray ty (l.map a.eval).toArray) e h w v h' := by
 cases ts with
 | nil => cases h1
 | cons t ts => cases ts with
  | nil => cases h1
  | cons u ts => cases s with
   | nil => cases h1
   | cons sd s => cases s with
    | nil => cases h1
    | cons sx s =>
     obtain ⟨x, l, rfl, sa1, hs⟩ := sxL_one hs
     obtain ⟨y, l, rfl, sa2, hs⟩ := sxL_one hs
     simp only [mkBuiltin] at h1
     cases hu : C.P.underlying t with
     | none => rw [hu] at h1; cases h1
     | some d => cases hu2 : C.P.underlying u with
      | none => rw [hu, hu2] at h1; cases d <;> cases h1
      | some d2 =>
       rw [hu, hu2] at h1
       cases d <;> try (cases h1; done)
       case slice el =>
        cases d2 <;> try (cases h1; done)
        case slice el2 =>
         simp only at h1
         cases hsz : szOf C el with
         | none => rw [hsz] at h1; cases h1
         | some n => cases n with
          | zero => rw [hsz] at h1; cases h1
          | succ n =>
           rw [hsz] at h1
           cases h1
           obtain ⟨i, i1, i2⟩ := szOf_spec hsz
           exact copy_sim hr hu i1 i2 (.inr ⟨rfl, el2, hu2⟩) (sx_VR hg hf sa1) (sx_VR hg hf sa2) hx
        case string =>
         simp only at h1
         cases hsz : szOf C el with
         | none => rw [hsz] at h1; cases h1
         | some n =>
          rw [hsz] at h1
          by_cases hn : n = 1
          · subst hn
            cases h1
            obtain ⟨i, i1, i2⟩ := szOf_spec hsz
            exact copy_sim hr hu i1 i2 (.inl ⟨rfl, hu2, rfl⟩) (sx_VR hg hf sa1) (sx_VR hg hf sa2) hx
          · exfalso
            revert h1
            split
            · rename_i heq; cases heq; exact absurd rfl hn
            · intro h1; cases h1
end
theorem gset_some {g : Nat} {vs : List AV} {t : Tr Cl} {o j : Nat} {c : Cl} (h : getP (path j) (gset g vs t o).out = some c) :
 (o ≤ j ∧ j < o + vs.length ∧ vs[j - o]? = some c.v ∧ c.s = g) ∨ (¬ (o ≤ j ∧ j < o + vs.length) ∧ getP (path j) t = some c) := by
 rw [gset_get] at h
 by_cases hi : o ≤ j ∧ j < o + vs.length
 · rw [dif_pos hi] at h
   cases h
   exact .inl ⟨hi.1, hi.2, by rw [List.getElem?_eq_getElem], rfl⟩
 · rw [dif_neg hi] at h
   exact .inr ⟨hi, h⟩
theorem gcell_some {t : Tr Cl} {n g i : Nat} {v : AV} (h : gcell t n g i = some v) : i < n ∧ ∃ c, getP (path i) t = some c ∧ c.s ≤ g ∧ c.v = v := by
 unfold gcell at h
 cases h1 : Nat.ble (Nat.succ i) n with
 | false => rw [h1] at h; cases h
 | true =>
  rw [h1] at h
  cases h2 : getP (path i) t with
  | none => rw [h2] at h; cases h
  | some c =>
   rw [h2] at h
   have h : ifb (Nat.ble c.s g) (some c.v) none = some v := h
   cases h3 : Nat.ble c.s g with
   | false => rw [h3] at h; cases h
   | true => rw [h3] at h; cases h; exact ⟨ble_iff.1 h1, c, rfl, ble_iff.1 h3, rfl⟩
theorem gcell_of {t : Tr Cl} {n g i : Nat} {c : Cl} (h1 : i < n) (h2 : getP (path i) t = some c) (h3 : c.s ≤ g) : gcell t n g i = some c.v := by
 unfold gcell
 rw [show Nat.ble (Nat.succ i) n = true from ble_iff.2 h1, h2]
 show ifb (Nat.ble c.s g) (some c.v) none = _
 rw [show Nat.ble c.s g = true from ble_iff.2 h3]; rfl
theorem Blk.grow_spec {b : Blk} {s : Nat} {vs : List AV} {k : Blk → Nat → R2} {v : AV} {h' : Hp} (hx : b.grow s vs k = .ok v h') :
 ∃ b' G, k b' G = .ok v h' ∧ b.isCells ∧ b'.isCells ∧ b'.gen = G ∧ b.gen < G ∧ b'.fz = b.fz ∧ b.fz < 2 ∧ b'.known G = s + vs.length ∧ (∀ g', g' ≠ G → b'.known g' = 0) ∧
  (∀ i v, b'.read1 G i = some v → i < s + vs.length ∧ (s ≤ i → vs[i - s]? = some v) ∧ (i < s → ∀ g u, b.read1 g i = some u → v = u)) ∧
  (∀ g', g' ≤ b.gen → ∀ i v, b'.read1 g' i = some v → b.read1 g' i = some v ∧ ¬ (s ≤ i ∧ i < s + vs.length)) := by
 have kn : ∀ (t : Tr Cl) (n G fz g' : Nat), g' ≠ G → Blk.known (.grown t n G fz) g' = 0 := by
  intro t n G fz g' hg
  show ifb (Nat.beq g' G) n 0 = 0
  cases hb : Nat.beq g' G with
  | false => rfl
  | true => exact absurd (beq_iff.1 hb) hg
 have kn2 : ∀ (t : Tr Cl) (n G fz : Nat), Blk.known (.grown t n G fz) G = n := by
  intro t n G fz
  show ifb (Nat.beq G G) n 0 = n
  rw [show Nat.beq G G = true from beq_iff.2 rfl]; rfl
 have rd : ∀ (t : Tr Cl) (n G fz g' i : Nat), Blk.read1 (.grown t n G fz) g' i = gcell t n g' i := fun _ _ _ _ _ _ => rfl
 cases b with
 | map es => exact (no_ok (w := "append") hx).elim
 | sit n a p => exact (no_ok (w := "append") hx).elim
 | lp q => exact (no_ok (w := "append") hx).elim
 | flat l fz =>
  have hx : ifb (Nat.ble 2 fz) (.no "append: frozen") ((trOf l).bd fun t => (gset 1 vs t s).bd fun t => natF (Nat.add s (lenA vs)) fun n => k (.grown t n 1 fz) 1) = .ok v h' := hx
  cases hf : Nat.ble 2 fz with
  | true => rw [hf] at hx; exact (no_ok hx).elim
  | false =>
   rw [hf] at hx
   have hf2 : fz < 2 := by
    rcases Nat.lt_or_ge fz 2 with h | h
    · exact h
    · rw [ble_iff.2 h] at hf; cases hf
   unfold trOf at hx
   rw [ifb_false, gset_eq 0, Bx.bd_mk, gset_eq, Bx.bd_mk, natF_eq] at hx
   have tr0 : ∀ i c, getP (path i) (gset 0 l .e 0).out = some c → l[i]? = some c.v ∧ c.s = 0 := by
    intro i c hc
    rcases gset_some hc with ⟨_, _, h3, h4⟩ | ⟨_, h2⟩
    · exact ⟨by simpa using h3, h4⟩
    · rw [getP_e] at h2; cases h2
   refine ⟨_, 1, hx, trivial, trivial, rfl, Nat.zero_lt_one, rfl, hf2, by rw [kn2, lenA_eq]; rfl, fun g' hg => kn _ _ _ _ _ hg, ?_, ?_⟩
   · intro i v hv
     rw [rd] at hv
     obtain ⟨h1, c, h2, h3, rfl⟩ := gcell_some hv
     rw [lenA_eq] at h1
     refine ⟨h1, fun hsi => ?_, fun his g u hu => ?_⟩
     · rcases gset_some h2 with ⟨_, _, h4, _⟩ | ⟨h4, _⟩
       · exact h4
       · exact absurd ⟨hsi, h1⟩ h4
     · rcases gset_some h2 with ⟨h4, _⟩ | ⟨_, h4⟩
       · omega
       · have h5 := (tr0 i c h4).1
         have hu : ifb (Nat.beq g 0) (nthA l i) none = some u := hu
         cases hg : Nat.beq g 0 with
         | false => rw [hg] at hu; cases hu
         | true =>
          rw [hg, ifb_true, nthA_eq, h5] at hu
          cases hu; rfl
   · intro g' hg' i v hv
     have hg0 : g' = 0 := Nat.le_zero.1 hg'
     subst hg0
     rw [rd] at hv
     obtain ⟨h1, c, h2, h3, rfl⟩ := gcell_some hv
     rcases gset_some h2 with ⟨_, _, _, h4⟩ | ⟨h4, h5⟩
     · omega
     · refine ⟨?_, h4⟩
       show ifb (Nat.beq 0 0) (nthA l i) none = _
       rw [show Nat.beq 0 0 = true from rfl, ifb_true, nthA_eq]
       exact (tr0 i c h5).1
 | grown t n g0 fz =>
  have hx : ifb (or (Nat.ble 2 fz) (not (Nat.ble s n))) (.no "append: frozen") ((gset (Nat.succ g0) vs t s).bd fun t => natF (Nat.add s (lenA vs)) fun n => k (.grown t n (Nat.succ g0) fz) (Nat.succ g0)) = .ok v h' := hx
  cases hf : Nat.ble 2 fz with
  | true => rw [hf] at hx; exact (no_ok hx).elim
  | false => cases hsn : Nat.ble s n with
   | false => rw [hf, hsn] at hx; exact (no_ok hx).elim
   | true =>
    rw [hf, hsn] at hx
    have hsn := ble_iff.1 hsn
    have hf2 : fz < 2 := by
     rcases Nat.lt_or_ge fz 2 with h | h
     · exact h
     · rw [ble_iff.2 h] at hf; cases hf
    have hx : (gset (Nat.succ g0) vs t s).bd (fun t => natF (Nat.add s (lenA vs)) fun n => k (.grown t n (Nat.succ g0) fz) (Nat.succ g0)) = .ok v h' := hx
    rw [gset_eq, Bx.bd_mk, natF_eq] at hx
    refine ⟨_, Nat.succ g0, hx, trivial, trivial, rfl, Nat.lt_succ_self _, rfl, hf2, by rw [kn2, lenA_eq]; rfl, fun g' hg => kn _ _ _ _ _ hg, ?_, ?_⟩
    · intro i v hv
      rw [rd] at hv
      obtain ⟨h1, c, h2, h3, rfl⟩ := gcell_some hv
      rw [lenA_eq] at h1
      refine ⟨h1, fun hsi => ?_, fun his g u hu => ?_⟩
      · rcases gset_some h2 with ⟨_, _, h4, _⟩ | ⟨h4, _⟩
        · exact h4
        · exact absurd ⟨hsi, h1⟩ h4
      · rcases gset_some h2 with ⟨h4, _⟩ | ⟨_, h4⟩
        · omega
        · rw [rd] at hu
          obtain ⟨_, c2, h5, _, rfl⟩ := gcell_some hu
          rw [h4] at h5; cases h5; rfl
    · intro g' hg' i v hv
      have hg' : g' ≤ g0 := hg'
      rw [rd] at hv
      obtain ⟨h1, c, h2, h3, rfl⟩ := gcell_some hv
      rw [lenA_eq] at h1
      rcases gset_some h2 with ⟨_, _, _, h4⟩ | ⟨h4, h5⟩
      · omega
      · refine ⟨?_, h4⟩
        rw [rd]
        refine gcell_of ?_ h5 h3
        have h1 : i < s + vs.length := h1
        omega
theorem HR.regen {e : Emb} {h : Hp} {w w' : World} (hr : HR e h w) {b G : Nat} {blk blk' : Blk} {y : Loc} {c' : Array Value} {t' : TypeId} {fr' : Nat × Nat} (hget : h.get b = some blk) (hcells : blk.isCells) (hgen : blk.gen < G) (hfz2 : blk.fz < 2)
 (hnew : BRc e blk' G y c' fr') (hobj : w'.heap[y.r]? = some (.cells c' t' fr'))
 (hold : ∀ g' x' c t fr, e b g' = some x' → w.heap[x'.r]? = some (.cells c t fr) → BRc e blk g' x' c fr → ∃ c2 t2, w'.heap[x'.r]? = some (.cells c2 t2 fr) ∧ BRc e blk' g' x' c2 fr)
 (hsame : ∀ r, r < w.heap.size → (∀ g' x', e b g' = some x' → x'.r ≠ r) → w'.heap[r]? = w.heap[r]?)
 (hy : (∃ g0 x0, e b g0 = some x0 ∧ x0.r = y.r ∧ x0.base = y.base) ∨ w.heap.size ≤ y.r) (hsz : w.heap.size ≤ w'.heap.size) (hos : w'.os = w.os) (hout : w'.output = w.output) (hsome : ∃ g0 x0, e b g0 = some x0) (hok : h.okw b = true) :
 ∃ e', e' b G = some y ∧ Ext e h w e' ⟨setT blk' (path b) h.t, h.n, h.lk⟩ w' := by
 have hno : e b G = none := by
  cases hx : e b G with
  | none => rfl
  | some x =>
   obtain ⟨blk2, h1, h2⟩ := hr.at' b G x hx
   rw [hget] at h1; cases h1
   generalize w.heap[x.r]? = ob at h2
   cases h2 with
   | cells c t fr q => have := q.gen; omega
   | map _ _ _ _ hm _ _ _ _ _ => subst hm; exact hcells.elim
   | sit _ _ hm _ => subst hm; exact hcells.elim
   | iter _ _ _ _ hm _ => subst hm; exact hcells.elim
   | lp q0 fn0 tm0 df0 hm => subst hm; exact hcells.elim
   | busy o0 hm => subst hm; exact hcells.elim
   | dfr hm => subst hm; exact hcells.elim
 obtain ⟨gs, xs, hxs⟩ := hsome
 have hbn := (hr.lt b gs xs hxs).2
 have hylt : y.r < w'.heap.size := (Array.getElem?_eq_some_iff.1 hobj).1
 let e' : Emb := fun b2 g => if b2 = b ∧ g = G then some y else e b2 g
 have hle : e.le e' := fun b2 g z hz => by
  show (if b2 = b ∧ g = G then some y else e b2 g) = some z
  by_cases hc : b2 = b ∧ g = G
  · rw [hc.1, hc.2, hno] at hz; cases hz
  · rw [if_neg hc]; exact hz
 have hnew' : e' b G = some y := by simp [e']
 have hcase : ∀ b2 g z, e' b2 g = some z → (b2 = b ∧ g = G ∧ z = y) ∨ e b2 g = some z := fun b2 g z hz => by
  by_cases hc : b2 = b ∧ g = G
  · have : e' b2 g = some y := by show (if b2 = b ∧ g = G then some y else e b2 g) = some y; rw [if_pos hc]
    rw [this] at hz; cases hz; exact .inl ⟨hc.1, hc.2, rfl⟩
  · have : e' b2 g = e b2 g := by show (if b2 = b ∧ g = G then some y else e b2 g) = _; rw [if_neg hc]
    rw [this] at hz; exact .inr hz
 refine ⟨e', hnew', hle, ⟨?_, ?_, ?_⟩, ?_, ?_, ?_, ?_, ?_, Nat.le_refl _, hsz, hos, hout, rfl⟩
 · intro b1 g1 z1 b2 g2 z2 h1 h2 hrr
   have one : ∀ b2 g2 z2, e b2 g2 = some z2 → z2.r = y.r → b2 = b ∧ z2.base = y.base := by
    intro b2 g2 z2 h2 hrr
    rcases hy with ⟨g0, x0, h0, h3, h4⟩ | hy
    · have := hr.inj _ _ _ _ _ _ h2 h0 (hrr.trans h3.symm)
      exact ⟨this.1, this.2.trans h4⟩
    · have := (hr.lt _ _ _ h2).1; omega
   rcases hcase _ _ _ h1 with ⟨a1, a2, a3⟩ | a1 <;> rcases hcase _ _ _ h2 with ⟨b1', b2', b3'⟩ | b1'
   · subst a3; subst b3'; exact ⟨a1.trans b1'.symm, rfl⟩
   · subst a3
     have := one _ _ _ b1' hrr.symm
     exact ⟨a1.trans this.1.symm, this.2.symm⟩
   · subst b3'
     have := one _ _ _ a1 hrr
     exact ⟨this.1.trans b1'.symm, this.2⟩
   · exact hr.inj _ _ _ _ _ _ a1 b1' hrr
 · intro b2 g z hz
   rcases hcase _ _ _ hz with ⟨a1, a2, a3⟩ | a1
   · subst a3; subst a1; exact ⟨hylt, hbn⟩
   · have := hr.lt _ _ _ a1; exact ⟨by omega, this.2⟩
 · intro b2 g z hz
   rcases hcase _ _ _ hz with ⟨a1, a2, a3⟩ | a1
   · subst a1; subst a2; subst a3
     refine ⟨blk', by rw [Hp.get_set _ _ h.n, if_pos rfl], ?_⟩
     rw [hobj]
     exact .cells _ _ _ (hnew.mono hle)
   · obtain ⟨blk2, g1, g2⟩ := hr.at' _ _ _ a1
     by_cases hb : b2 = b
     · subst hb
       rw [hget] at g1; cases g1
       refine ⟨blk', by rw [Hp.get_set _ _ h.n, if_pos rfl], ?_⟩
       cases hob : w.heap[z.r]? with
       | none => rw [hob] at g2; cases g2
       | some ob =>
        rw [hob] at g2
        cases g2 with
        | map _ _ _ _ hm _ _ _ _ _ => subst hm; exact hcells.elim
        | sit _ _ hm _ => subst hm; exact hcells.elim
        | iter _ _ _ _ hm _ => subst hm; exact hcells.elim
        | lp q0 fn0 tm0 df0 hm => subst hm; exact hcells.elim
        | busy o0 hm => subst hm; exact hcells.elim
        | dfr hm => subst hm; exact hcells.elim
        | cells c t fr q =>
         obtain ⟨c2, t2, h3, h4⟩ := hold g z c t fr a1 hob q
         rw [h3]
         exact .cells _ _ _ (h4.mono hle)
     · refine ⟨blk2, by rw [Hp.get_set _ _ h.n, if_neg hb]; exact g1, ?_⟩
       rw [hsame z.r (hr.lt _ _ _ a1).1 fun g' x' hx' hrr => hb (hr.inj _ _ _ _ _ _ a1 hx' hrr.symm).1]
       exact g2.mono hle
 · intro b2 g z hz
   rcases hcase _ _ _ hz with ⟨a1, _, _⟩ | a1
   · subst a1; exact .inl ⟨gs, xs, hxs⟩
   · exact .inl ⟨g, z, a1⟩
 · intro b2 g z hz
   rcases hcase _ _ _ hz with ⟨a1, a2, a3⟩ | a1
   · subst a3; subst a1
     rcases hy with ⟨g0, x0, h0, h3, _⟩ | hy
     · exact .inl ⟨g0, x0, h0, h3⟩
     · exact .inr hy
   · exact .inl ⟨g, z, a1, rfl⟩
 · intro r hrl hro
   refine hsame r hrl fun g' x' hx' hrr => ?_
   rcases (hro b g' x' hx' hrr).2 with ⟨l, hl⟩ | hl
   · rw [hget] at hl; cases hl.1; exact (Blk.kept_no hl.2 hfz2).elim
   · rw [hok] at hl; cases hl
 · intro b2 _ hn
   rw [Hp.get_set _ _ h.n, if_neg]
   intro hb; subst hb; rw [hn gs] at hxs; cases hxs
 · intro b2 ⟨_, hl⟩
   rw [Hp.get_set _ _ h.n, if_neg]
   intro hb; subst hb
   rcases hl with ⟨l, hl⟩ | hl
   · rw [hget] at hl; cases hl.1; exact (Blk.kept_no hl.2 hfz2).elim
   · rw [hok] at hl; cases hl
end Go.Ab
namespace Go.Ab
variable [Val]
open Go
variable {C : Cx}
theorem app_two (ts : List TypeId) (rest : List Value) (t u ty : TypeId) (s x : Value) : Builtin.append_ (t :: u :: ts).toArray ty (s :: x :: rest).toArray = Builtin.append_ #[t, u] ty #[s, x] := by
 unfold Builtin.append_
 simp
theorem run_append_room' {P : Program} {w w' : World} {t tx ty el : TypeId} {i : TypeInfo} (ht : P.underlying t = some (.slice el)) (hi : P.info? el = some i) {r off sLen sCap n : Nat} {x : Value} {news : List Value} (hs : Src P i.size tx x n news w)
 (hroom : sLen + n ≤ sCap) (hst : (storeCells ⟨r, off + sLen * i.size, none⟩ news).run P w = .ok () w') :
 (Builtin.append_ #[t, tx] ty #[.slice (some ⟨r, off, none⟩) sLen sCap, x]).run P w = .ok (.slice (some ⟨r, off, none⟩) (sLen + n) sCap) w' := by
 rcases hs.kind with ⟨e', hk⟩ | hk <;> simp [Builtin.append_, run_underlying ht, run_underlying hk, sizeOf, typeInfo, hi, hs.len, hroom, hs.cells, Addr.add_mk, hst]
theorem roomy_le {bytes n m : Nat} (h : roomy bytes n m = true) : (2 * (n + m) + 1024) * (bytes + 1) ≤ 1073741824 := by
 unfold roomy at h
 have h := Nat.le_of_ble_eq_true h
 simpa [maxMem] using h
theorem roomy_fits {bytes n m cap : Nat} (h : roomy bytes n m = true) (hc : cap < n + m) : ((n + m : Nat) : Int) ≤ 9223372036854775807 ∧ Builtin.nextslicecap (n + m) cap * bytes ≤ 281474976710656 := by
 have h1 := roomy_le h
 have h2 : (2 * (n + m) + 1024) * 1 ≤ (2 * (n + m) + 1024) * (bytes + 1) := Nat.mul_le_mul_left _ (by omega)
 have h3 : (n + m) * bytes ≤ (2 * (n + m) + 1024) * (bytes + 1) := Nat.mul_le_mul (by omega) (by omega)
 have h4 : (n + m) * bytes ≤ 140737488355328 := Nat.le_trans (Nat.le_trans h3 h1) (by decide)
 refine ⟨?_, growslice_fits hc h4⟩
 rw [Nat.mul_one] at h2
 have h5 := Nat.le_trans h2 h1
 omega
section
variable {c : CallT} {f : Fr} {h h' : Hp} {v : AV} {e : Emb} {a : Act} {w : World} {s : List Sx} {co : CO} {ty : TypeId}
structure AppI (C : Cx) (e : Emb) (h : Hp) (w : World) (t u el : TypeId) (i : TypeInfo) (z : Value) (size m : Nat) (x : Value) (vs : List AV) (vs' : List Value) : Prop where
 hr : HR e h w
 hu : C.P.underlying t = some (.slice el)
 hi : C.P.info? el = some i
 hz : i.zero = some z
 his : i.size = size
 hzs : z.cells.size = size
 hpos : 0 < size
 src : Src C.P i.size u x m vs' w
 vr : VRL e vs vs'
 cell : ∀ u ∈ vs, u.isCell = true
theorem AppI.len {t u el i z size m x vs vs'} (p : AppI C e h w t u el i z size m x vs vs') : vs.length = m * size := by
 have := p.vr.length
 have h2 := p.src.newsLen
 rw [p.his] at h2; omega
theorem AppI.inn {t u el i z size m x vs vs'} (p : AppI C e h w t u el i z size m x vs vs') {b g o n cc cap : Nat} {y : Loc} (p1 : e b g = some y) (p2 : y.base ≤ y.lo) (p3 : y.lo ≤ o) (p5 : cc % 2 = 1 → cap = cc / 2) (p6 : cc % 2 = 0 → o - y.base + cap * (cc / 2) = y.sz)
 (hroom : n + m ≤ cap) (hx : appIn size b g o n m cc vs h = .ok v h') : BOK C (Builtin.append_ #[t, u] ty #[.slice (some ⟨y.r, o - y.base, none⟩) n cap, x]) e h w v h' := by
 unfold appIn at hx
 obtain ⟨h2, hw, hx⟩ := Res.bd2_eq_ok hx
 cases hx
 have hlo : y.lo ≤ Nat.add o (Nat.mul n size) := Nat.le_trans p3 (Nat.le_add_right _ _)
 obtain ⟨w', w1, w2⟩ := p.hr.write C.P p1 hlo hw p.vr p.cell
 refine ⟨_, e, w', run_append_room' p.hu p.hi p.src hroom (w' := w') ?_, w2, .sl b g o (n + m) cc cap y p1 p2 p3 hroom p5 p6⟩
 rw [p.his]
 have : Nat.add o (Nat.mul n size) - y.base = o - y.base + n * size := by
  show o + n * size - y.base = _; omega
 rw [← this]; exact w1
theorem AppI.new {t u el i z size m x vs vs'} (p : AppI C e h w t u el i z size m x vs vs') {base : Option Addr} {n cap : Nat} {old : List AV} {olds : List Value} (ho : VRL e old olds) (hol : old.length = n * size)
 (hold : (Builtin.firstCells i.size n (.slice base n cap)).run C.P w.drew = .ok olds.toArray w.drew) {bytes : Nat} (hby : i.bytes = bytes) (hroom : roomy bytes n m = true) (hg : cap < n + m) :
 (Builtin.append_ #[t, u] ty #[.slice base n cap, x]).run C.P w = .ok (.slice (some ⟨w.heap.size, 0, none⟩) (n + m) (grownCap w (n + m) cap el))
  (w.drew.alloc (.cells ((olds ++ vs').toArray ++ Builtin.zeroCells z.cells (grownCap w (n + m) cap el - (n + m))) el)) ∧
  ((olds ++ vs').toArray ++ Builtin.zeroCells z.cells (grownCap w (n + m) cap el - (n + m))).size = grownCap w (n + m) cap el * size ∧ (olds ++ vs').length = (n + m) * size := by
 obtain ⟨h1, h2⟩ := roomy_fits hroom hg
 rw [← hby] at h2
 have hrun := run_append_grow_src (P := C.P) w t u ty el i z p.hu p.hi p.hz base n cap olds hold x m vs' p.src hg h1 h2
 have hlen : (olds ++ vs').length = (n + m) * size := by
  rw [List.length_append, ho.length, hol, p.vr.length, p.len, Nat.add_mul]
 refine ⟨hrun, ?_, hlen⟩
 have hge := grownCap_ge w (n + m) cap el
 rw [Array.size_append, List.size_toArray, hlen, size_zeroCells, p.hzs, ← Nat.add_mul, Nat.add_sub_cancel' hge]
theorem AppI.newFlat {t u el i z size m x vs vs'} (p : AppI C e h w t u el i z size m x vs vs') {base : Option Addr} {n cap : Nat} {old : List AV} {olds : List Value} (ho : VRL e old olds) (hoc : ∀ u ∈ old, u.isCell = true) (hol : old.length = n * size)
 (hold : (Builtin.firstCells i.size n (.slice base n cap)).run C.P w.drew = .ok olds.toArray w.drew) {bytes : Nat} (hby : i.bytes = bytes) (hroom : roomy bytes n m = true) (hg : cap < n + m)
 (hx : R2.new h (.flat (old ++ vs) 0) (fun b => .sl b 0 0 (n + m) (2 * size)) = .ok v h') : BOK C (Builtin.append_ #[t, u] ty #[.slice base n cap, x]) e h w v h' := by
 obtain ⟨rfl, rfl⟩ := R2.new_ok hx
 obtain ⟨r1, r2, r3⟩ := p.new (ty := ty) ho hol hold hby hroom hg
 have hrd : HR e h w.drew := p.hr.of_heap rfl
 obtain ⟨e', n1, n2⟩ := new_flat hrd (ho.append p.vr) (fun u hu => (List.mem_append.1 hu).elim (hoc u) (p.cell u)) (rest := (Builtin.zeroCells z.cells (grownCap w (n + m) cap el - (n + m))).toList) el 0 (0, 0) (fun i _ => by simp) (fun _ i => by simp)
 have harr : ((olds ++ vs') ++ (Builtin.zeroCells z.cells (grownCap w (n + m) cap el - (n + m))).toList).toArray = (olds ++ vs').toArray ++ Builtin.zeroCells z.cells (grownCap w (n + m) cap el - (n + m)) := by
  apply Array.toList_inj.1; simp
 rw [harr] at n2
 refine ⟨_, e', _, r1, (Ext.drew (w' := w.drew) p.hr rfl rfl rfl).trans n2, ?_⟩
 have hge := grownCap_ge w (n + m) cap el
 have := VR.sl (e := e') h.n 0 0 (n + m) (2 * size) (grownCap w (n + m) cap el) _ n1 (Nat.le_refl _) (Nat.le_refl _) hge (fun hh => by omega) (fun _ => by
  rw [show 2 * size / 2 = size by omega]
  simp only [Array.size_append, List.size_toArray] at r2
  simp only [Array.length_toList]
  omega)
 exact this
theorem AppI.grow {t u el i z size m x vs vs'} (p : AppI C e h w t u el i z size m x vs vs') {b g o n cap : Nat} {y : Loc} {blk : Blk} {ad : Addr} (had : ad = ⟨y.r, o - y.base, none⟩ ∨ (n = 0 ∧ cap = 0)) (hm0 : m ≠ 0) (p1 : e b g = some y) (p2 : y.base ≤ y.lo) (p3 : y.lo ≤ o) (p6 : o - y.base + cap * size = y.sz)
 {bytes : Nat} (hby : i.bytes = bytes) (hroom : roomy bytes n m = true) {old : List AV} (hold : h.readN b g o (Nat.mul n size) = .ok old) (hget : h.get b = some blk)
 (hx : blk.grow (Nat.add o (Nat.mul n size)) vs (fun y g' => R2.put h b y (.sl b g' o (Nat.add n m) (Nat.mul 2 size))) = .ok v h') : BOK C (Builtin.append_ #[t, u] ty #[.slice (some ad) n cap, x]) e h w v h' := by
 obtain ⟨blk', G, hx, s1, s2, s3, s4, s5, s6, s7, s8, s9, s10⟩ := Blk.grow_spec hx
 obtain ⟨rfl, rfl, hok⟩ := R2.put_ok hx
 obtain ⟨olds, o1, o2, o3, o4, o5⟩ := p.hr.readC p1 p3 hold
 have hol : old.length = n * size := o4
 have hs : Nat.add o (Nat.mul n size) = o + n * size := rfl
 rw [hs] at s7 s9 s10
 have hlen := p.len
 have hvlen := p.vr.length
 obtain ⟨blk2, hget2, hbr⟩ := p.hr.at' b g y p1
 rw [hget] at hget2; cases hget2
 cases hob : w.heap[y.r]? with
 | none => rw [hob] at hbr; cases hbr
 | some ob =>
 rw [hob] at hbr
 cases hbr with
 | map _ _ _ _ hm _ _ _ _ _ => subst hm; exact s1.elim
 | sit _ _ hm _ => subst hm; exact s1.elim
 | iter _ _ _ _ hm _ => subst hm; exact s1.elim
 | lp q0 fn0 tm0 df0 hm => subst hm; exact s1.elim
 | busy o0 hm => subst hm; exact s1.elim
 | dfr hm => subst hm; exact s1.elim
 | cells c t0 fr q =>
 have hoat : ∀ i, o ≤ i → i < o + n * size → ∃ u u', old[i - o]? = some u ∧ blk.read1 g i = some u ∧ c[i - y.base]? = some u' ∧ olds[i - o]? = some u' ∧ VR e u u' ∧ u.isCell = true := by
  intro i hi1 hi2
  have hlt : i - o < old.length := by omega
  have h1 := List.getElem?_eq_getElem hlt
  obtain ⟨blk3, h2, h3⟩ := o5 (i - o) _ h1
  rw [hget] at h2; cases h2
  rw [show o + (i - o) = i by omega] at h3
  obtain ⟨h4, u', h5, h6⟩ := q.at' i _ (by omega) h3
  obtain ⟨u2, h7, h8⟩ := o2.get h1
  have h9 := o1 (i - o) u2 h7
  rw [Addr.add_mk] at h9
  have hci : c[o - y.base + (i - o)]? = some u2 := by simpa [World.cell?, hob] using h9
  rw [show o - y.base + (i - o) = i - y.base by omega] at hci
  exact ⟨_, u2, h1, h3, hci, h7, h8, h4⟩
 by_cases hroom2 : n + m ≤ cap
 ·
  have had : ad = ⟨y.r, o - y.base, none⟩ := had.resolve_right (fun hh => by omega)
  subst had
  have hle : (n + m) * size ≤ cap * size := Nat.mul_le_mul_right _ hroom2
  rw [Nat.add_mul] at hle
  have hsz := q.sz
  obtain ⟨w', st, st2, st3, sto, stp, c', c1, c2, c3⟩ := run_storeCellsG C.P y.r (o - y.base + n * size) t0 fr vs' 0 c w hob (by omega) (q.fz2 (by omega)) (cells_one p.vr p.cell)
  simp only [Nat.add_zero] at st c3
  have hnew : BRc e blk' G ⟨y.r, y.base, o, y.sz⟩ c' fr := by
   refine ⟨s2, by show y.base ≤ o; omega, by show c'.size = y.sz; rw [c2]; exact hsz, by rw [s3]; exact Nat.le_refl _, ?_, ?_, by rw [s5, c2]; exact q.fz2, by rw [s5]; exact q.fz0⟩
   · rw [s7]; show _ ≤ y.base + c'.size; rw [c2]; omega
   · intro i u hi hu
     have hi : o ≤ i := hi
     obtain ⟨t1, t2, t3⟩ := s9 i u hu
     show u.isCell = true ∧ ∃ v', c'[i - y.base]? = some v' ∧ VR e u v'
     rw [c3]
     by_cases his : o + n * size ≤ i
     · have h1 := t2 his
       obtain ⟨u', h2, h3⟩ := p.vr.get h1
       refine ⟨p.cell u (List.mem_of_getElem? h1), u', ?_, h3⟩
       rw [if_pos (by omega), ← h2, show i - y.base - (o - y.base + n * size) = i - (o + n * size) by omega]
     · obtain ⟨u0, u', g1, g2, g3, _, g5, g6⟩ := hoat i hi (by omega)
       have := t3 (by omega) g u0 g2
       subst this
       refine ⟨g6, u', ?_, g5⟩
       rw [if_neg (by omega)]; exact g3
  obtain ⟨e', n1, n2⟩ := p.hr.regen (G := G) (blk' := blk') (y := ⟨y.r, y.base, o, y.sz⟩) (w' := w') hget s1 s4 s6 hnew c1
   (fun g' x' cx tx fx hx' hcx qx => by
    by_cases hrr : x'.r = y.r
    · rw [hrr, hob] at hcx; cases hcx
      have hb0 := (p.hr.inj _ _ _ _ _ _ hx' p1 hrr).2
      refine ⟨c', t0, by rw [hrr]; exact c1, s2, qx.lo, by rw [c2]; exact qx.sz, by rw [s3]; have := qx.gen; omega, ?_, ?_, by rw [s5, c2]; exact qx.fz2, by rw [s5]; exact qx.fz0⟩
      · rw [s8 g' (by have := qx.gen; omega)]; exact Nat.zero_le _
      · intro i u hi hu
        obtain ⟨h1, h2⟩ := s10 g' qx.gen i u hu
        have hlo' := qx.lo
        rw [c3, if_neg (by omega)]
        exact qx.at' i u hi h1
    · refine ⟨cx, tx, by rw [st3 _ hrr]; exact hcx, s2, qx.lo, qx.sz, by rw [s3]; have := qx.gen; omega, ?_, ?_, by rw [s5]; exact qx.fz2, by rw [s5]; exact qx.fz0⟩
      · rw [s8 g' (by have := qx.gen; omega)]; exact Nat.zero_le _
      · intro i u hi hu
        exact qx.at' i u hi (s10 g' qx.gen i u hu).1)
   (fun r _ hne => st3 r fun hrr => hne g y p1 hrr.symm) (.inl ⟨g, y, p1, rfl, rfl⟩) (by omega) sto stp ⟨g, y, p1⟩ hok
  refine ⟨_, e', w', run_append_room' p.hu p.hi p.src hroom2 (w' := w') (by rw [p.his]; exact st), n2, ?_⟩
  exact VR.sl b G o (n + m) (2 * size) cap ⟨y.r, y.base, o, y.sz⟩ n1 (by show y.base ≤ o; omega) (Nat.le_refl _) hroom2 (fun hh => by omega) (fun _ => by
   rw [show 2 * size / 2 = size by omega]; exact p6)
 ·
  have hg : cap < n + m := by omega
  have hfc : (Builtin.firstCells i.size n (.slice (some ad) n cap)).run C.P w.drew = .ok olds.toArray w.drew := by
   rw [p.his]
   rcases had with rfl | ⟨rfl, _⟩
   case inr =>
    have : olds = [] := List.eq_nil_of_length_eq_zero (by have := o2.length; omega)
    rw [this]
    simp [Builtin.firstCells, loadCells, loadCellsFrom]
   exact run_firstCells_some w.drew size n _ n cap olds (by rw [o2.length]; exact hol) (fun j u hj => by rw [World.cell?_drew]; exact o1 j u hj)
  obtain ⟨r1, r2, r3⟩ := p.new (ty := ty) o2 hol hfc hby hroom hg
  generalize hcc : (olds ++ vs').toArray ++ Builtin.zeroCells z.cells (grownCap w (n + m) cap el - (n + m)) = c' at r1 r2
  generalize hnc : grownCap w (n + m) cap el = nc at r1 r2
  have hge : n + m ≤ nc := hnc ▸ grownCap_ge w (n + m) cap el
  have hle : (n + m) * size ≤ nc * size := Nat.mul_le_mul_right _ hge
  rw [Nat.add_mul] at hle r3
  have hcat : ∀ j, j < (olds ++ vs').length → c'[j]? = (olds ++ vs')[j]? := by
   intro j hj
   rw [← hcc, Array.getElem?_append_left (by simpa using hj)]
   simp
  have hnew : BRc e blk' G ⟨w.heap.size, o, o, c'.size⟩ c' (0, 0) := by
   refine ⟨s2, Nat.le_refl _, rfl, by rw [s3]; exact Nat.le_refl _, ?_, ?_, fun _ i _ => by simp, fun _ i => by simp⟩
   · rw [s7]; show _ ≤ o + c'.size; omega
   · intro i u hi hu
     have hi : o ≤ i := hi
     obtain ⟨t1, t2, t3⟩ := s9 i u hu
     show u.isCell = true ∧ ∃ v', c'[i - o]? = some v' ∧ VR e u v'
     have hol2 := o2.length
     rw [hcat (i - o) (by omega)]
     by_cases his : o + n * size ≤ i
     · have h1 := t2 his
       obtain ⟨u', h2, h3⟩ := p.vr.get h1
       refine ⟨p.cell u (List.mem_of_getElem? h1), u', ?_, h3⟩
       rw [List.getElem?_append_right (by omega), ← h2, show i - o - olds.length = i - (o + n * size) by omega]
     · obtain ⟨u0, u', g1, g2, _, g4, g5, g6⟩ := hoat i hi (by omega)
       have := t3 (by omega) g u0 g2
       subst this
       refine ⟨g6, u', ?_, g5⟩
       rw [List.getElem?_append_left (by omega)]; exact g4
  obtain ⟨e', n1, n2⟩ := p.hr.regen (G := G) (blk' := blk') (y := ⟨w.heap.size, o, o, c'.size⟩) (w' := w.drew.alloc (.cells c' el)) hget s1 s4 s6 hnew (heap_alloc_new w.drew _)
   (fun g' x' cx tx fx hx' hcx qx => by
    refine ⟨cx, tx, by rw [heap_alloc_old _ _ _ (show x'.r < w.drew.heap.size from (p.hr.lt _ _ _ hx').1)]; exact hcx, s2, qx.lo, qx.sz, by rw [s3]; have := qx.gen; omega, ?_, ?_, by rw [s5]; exact qx.fz2, by rw [s5]; exact qx.fz0⟩
    · rw [s8 g' (by have := qx.gen; omega)]; exact Nat.zero_le _
    · intro i u hi hu
      exact qx.at' i u hi (s10 g' qx.gen i u hu).1)
   (fun r hrl _ => heap_alloc_old w.drew _ r hrl) (.inr (Nat.le_refl _)) (by simp) rfl rfl ⟨g, y, p1⟩ hok
  refine ⟨_, e', _, r1, n2, ?_⟩
  have := VR.sl (e := e') b G o (n + m) (2 * size) nc ⟨w.heap.size, o, o, c'.size⟩ n1 (Nat.le_refl _) (Nat.le_refl _) hge (fun hh => by omega) (fun _ => by
   rw [show 2 * size / 2 = size by omega]; show o - o + nc * size = c'.size; omega)
  rw [show o - (⟨w.heap.size, o, o, c'.size⟩ : Loc).base = 0 from Nat.sub_self o] at this
  exact this
theorem app_sim {str : Bool} {size bytes : Nat} {ss sx : Sx} {sv x : Value} {t u el : TypeId} {i : TypeInfo} {z : Value} {ts : List TypeId} {rest : List Value} (hr : HR e h w) (hu : C.P.underlying t = some (.slice el)) (hi : C.P.info? el = some i) (hz : i.zero = some z)
 (his : i.size = size) (hzs : z.cells.size = size) (hby : i.bytes = bytes) (hpos : 0 < size) (hk : SrcKind C str size u) (hvs : VR e (ev f ss) sv) (hvx : VR e (ev f sx) x) (hx : xO (.app str size bytes ss sx) c f h = .ok v h') :
 BOK C (Builtin.append_ (t :: u :: ts).toArray ty (sv :: x :: rest).toArray) e h w v h' := by
 rw [app_two]
 have hx : srcOf str size (ev f sx) h (fun m cells =>
  (ev f ss).onSl R2.no (ifb (Nat.beq m 0) (.ok (.nil 1) h) ((cells m).bd2 fun vs => ifb (roomy bytes 0 m) (R2.new h (.flat vs 0) fun b => .sl b 0 0 m (Nat.mul 2 size)) (.no "append: much")))
   fun b g o n cap => ifb (Nat.beq m 0) (.ok (.sl b g o n cap) h) ((cells m).bd2 fun vs => ifb (roomy bytes n m) (appTo size b g o n m cap vs h) (.no "append: much"))) = .ok v h' := hx
 obtain ⟨m, cells, hx, hlen, h0, hcells⟩ := src_sim hk hvx hr hx
 have hkind : (∃ e', C.P.underlying u = some (.slice e')) ∨ C.P.underlying u = some .string := by
  rcases hk with ⟨_, h1, _⟩ | ⟨_, h1⟩
  · exact .inr h1
  · exact .inl h1
 have mkI : ∀ vs, cells m = .ok vs → ∃ vs', AppI C e h w t u el i z size m x vs vs' := by
  intro vs hvs
  obtain ⟨vs', k1, k2, k3, k4⟩ := hcells m vs (Nat.le_refl _) hvs
  refine ⟨vs', hr, hu, hi, hz, his, hzs, hpos, ⟨hkind, hlen, ?_, ?_, ?_, cells_one k1 k2⟩, k1, k2⟩
  · rw [his]; exact k4 w rfl
  · rw [his]; exact k4 w.drew rfl
  · rw [his, k1.length]; exact k3
 have none : m = 0 → ∀ (base : Option Addr) (n cap : Nat), n ≤ cap → sv = .slice base n cap → VR e v sv → h' = h → BOK C (Builtin.append_ #[t, u] ty #[sv, x]) e h w v h' := by
  intro hm base n cap hn hsv hvv hh
  subst hm; subst hsv; subst hh
  refine .here hr (v' := .slice base n cap) ?_ hvv
  rcases hkind with ⟨e', hk⟩ | hk <;> cases base <;> simp [Builtin.append_, run_und hu, run_und hk, run_siz hi, his, hlen, h0, hn, storeCells]
 rcases hvs.slR hx with ⟨rfl, hx⟩ | ⟨b, g, o, n, cc, cap, y, ad, p1, p2, p3, p4, p5, p6, rfl, had, hx⟩
 · cases hm : Nat.beq m 0 with
   | true =>
    rw [hm] at hx
    cases hx
    exact none (beq_iff.1 hm) _ _ _ (Nat.le_refl _) rfl .nils rfl
   | false =>
    rw [hm] at hx
    have hx : (cells m).bd2 (fun vs => ifb (roomy bytes 0 m) (R2.new h (.flat vs 0) fun b => .sl b 0 0 m (Nat.mul 2 size)) (.no "append: much")) = .ok v h' := hx
    obtain ⟨vs, hvs', hx⟩ := Res.bd2_eq_ok hx
    obtain ⟨hroom, hx⟩ := ifbR hx
    obtain ⟨vs', p⟩ := mkI vs hvs'
    have hm0 : m ≠ 0 := fun hh => by rw [beq_iff.2 hh] at hm; cases hm
    refine p.newFlat (old := []) (olds := []) (n := 0) .nil (fun u hu => by cases hu) (by simp) (by simp [Builtin.firstCells]) hby hroom (by omega) ?_
    rw [Nat.zero_add]; exact hx
 · cases hm : Nat.beq m 0 with
   | true =>
    rw [hm] at hx
    cases hx
    exact none (beq_iff.1 hm) _ _ _ p4 rfl (.slc b g o n cc cap y ad p1 p2 p3 p4 p5 p6 had) rfl
   | false =>
    rw [hm] at hx
    have hx : (cells m).bd2 (fun vs => ifb (roomy bytes n m) (appTo size b g o n m cc vs h) (.no "append: much")) = .ok v h' := hx
    obtain ⟨vs, hvs', hx⟩ := Res.bd2_eq_ok hx
    obtain ⟨hroom, hx⟩ := ifbR hx
    obtain ⟨vs', p⟩ := mkI vs hvs'
    unfold appTo capKn at hx
    cases hodd : Nat.beq (Nat.mod cc 2) 1 with
    | true =>
     have hodd2 := beq_iff.1 hodd
     have hcap : cap = cc / 2 := p5 hodd2
     rw [hodd] at hx
     have hx : ifb (Nat.ble (Nat.add n m) (Nat.div cc 2)) (appIn size b g o n m cc vs h) (appNew size b g o n m vs h) = .ok v h' := hx
     cases hle : Nat.ble (Nat.add n m) (Nat.div cc 2) with
     | true =>
      rw [hle] at hx
      have hx : appIn size b g o n m cc vs h = .ok v h' := hx
      have hroom2 : n + m ≤ cap := by rw [hcap]; exact ble_iff.1 hle
      have had : ad = ⟨y.r, o - y.base, Option.none⟩ := had.resolve_right (fun hh => by have : m ≠ 0 := (fun h0 => by rw [beq_iff.2 h0] at hm; cases hm); omega)
      subst had
      exact p.inn p1 p2 p3 p5 p6 hroom2 hx
     | false =>
      rw [hle] at hx
      have hx : appNew size b g o n m vs h = .ok v h' := hx
      unfold appNew at hx
      obtain ⟨old, hold, hx⟩ := Res.bd2_eq_ok hx
      rw [appS_eq, Bx.bd_mk] at hx
      obtain ⟨olds, o1, o2, o3, o4, _⟩ := hr.readC p1 p3 hold
      have hg : cap < n + m := by
       rw [hcap]
       rcases Nat.lt_or_ge (cc / 2) (n + m) with hh | hh
       · exact hh
       · rw [show Nat.ble (Nat.add n m) (Nat.div cc 2) = true from ble_iff.2 hh] at hle; cases hle
      refine p.newFlat (old := old) (olds := olds) (n := n) o2 o3 o4 ?_ hby hroom hg hx
      rw [his]
      rcases had with rfl | ⟨rfl, _⟩
      case inr =>
       have : olds = [] := List.eq_nil_of_length_eq_zero (by have := o2.length; have h4' : old.length = 0 * size := o4; omega)
       rw [this]
       simp [Builtin.firstCells, loadCells, loadCellsFrom]
      exact run_firstCells_some w.drew size n _ n cap olds (by rw [o2.length]; exact o4) (fun j u hj => by rw [World.cell?_drew]; exact o1 j u hj)
    | false =>
     rw [hodd] at hx
     cases hsame : Nat.beq cc (Nat.mul 2 size) with
     | false => rw [hsame] at hx; exact (no_ok hx).elim
     | true =>
      rw [hsame] at hx
      have hcc : cc = 2 * size := beq_iff.1 hsame
      have hx : appGrow size b g o n m vs h = .ok v h' := hx
      have h6 := p6 (by omega)
      rw [show cc / 2 = size by omega] at h6
      unfold appGrow at hx
      obtain ⟨old, hold, hx⟩ := Res.bd2_eq_ok hx
      obtain ⟨blk, hget, hx⟩ := optR hx
      cases hin : and (Nat.ble (Nat.add o (Nat.mul (Nat.add n m) size)) (blk.known g)) (not (Nat.ble 2 blk.fz)) with
      | true =>
       rw [hin] at hx
       have hx : appIn size b g o n m (Nat.mul 2 size) vs h = .ok v h' := hx
       have hk1 : o + (n + m) * size ≤ blk.known g := by
        cases hb : Nat.ble (Nat.add o (Nat.mul (Nat.add n m) size)) (blk.known g) with
        | true => exact ble_iff.1 hb
        | false => rw [hb] at hin; cases hin
       have hkn : blk.known g ≤ y.base + y.sz := by
        obtain ⟨blk2, hget2, hbr⟩ := hr.at' b g y p1
        rw [hget] at hget2; cases hget2
        cases hb3 : w.heap[y.r]? with
        | none => rw [hb3] at hbr; cases hbr
        | some ob =>
        rw [hb3] at hbr
        cases hbr with
        | map es es' clock l a _ _ _ _ _ => subst a; exact Nat.zero_le _
        | sit s pos a _ => subst a; exact Nat.zero_le _
        | iter m0 since0 seen0 step0 a _ => subst a; exact Nat.zero_le _
        | lp q0 fn0 tm0 df0 a => subst a; exact Nat.zero_le _
        | busy o0 a => subst a; exact Nat.zero_le _
        | dfr a => subst a; exact Nat.zero_le _
        | cells cx tx fx qx => have := qx.known; rw [qx.sz] at this; exact this
       have hroom2 : n + m ≤ cap := by
        have : (n + m) * size ≤ cap * size := by omega
        exact Nat.le_of_mul_le_mul_right this hpos
       have hev : Nat.mul 2 size = 2 * size := rfl
       rw [hev] at hx
       have had : ad = ⟨y.r, o - y.base, Option.none⟩ := had.resolve_right (fun hh => by have : m ≠ 0 := (fun h0 => by rw [beq_iff.2 h0] at hm; cases hm); omega)
       subst had
       exact p.inn p1 p2 p3 (fun hh => by omega) (fun _ => by rw [show 2 * size / 2 = size by omega]; exact h6) hroom2 hx
      | false =>
       rw [hin] at hx
       exact p.grow had (fun h0 => by rw [beq_iff.2 h0] at hm; cases hm) p1 p2 p3 h6 hby hroom hold hget hx
theorem apz_sim {z : AV} {ss sx : Sx} {sv x : Value} {t u el : TypeId} {i : TypeInfo} {zv : Value} {kn : IntKind} {ts : List TypeId} {rest : List Value} (hr : HR e h w) (hu : C.P.underlying t = some (.slice el)) (hu2 : C.P.underlying u = some (.int kn)) (hi : C.P.info? el = some i)
 (hz : i.zero = some zv) (hzz : VRL e z.cells zv.cells.toList) (hzc : ∀ u ∈ z.cells, u.isCell = true) (hzs : z.cells.length = i.size) (hpos : 0 < i.size) (hvs : VR e (ev f ss) sv) (hvx : VR e (ev f sx) x)
 (hx : xApz z.cells i.size i.bytes ss sx c f h = .ok v h') : BOK C (Builtin.append_ (t :: u :: ts).toArray ty (sv :: x :: rest).toArray) e h w v h' := by
 rw [app_two]
 unfold xApz at hx
 rcases hvs.slR hx with ⟨rfl, hx⟩ | ⟨b, g, o, n, cc, cap, y, ad, p1, p2, p3, p4, p5, p6, rfl, had, hx⟩
 · rcases hvx.onInt (no := R2.no) (k := fun _ a => nat? a (.no "append: zeros") fun m => ifb (and (not (Nat.beq m 0)) (roomy i.bytes 0 m)) ((zerosR m z.cells).bd fun vs => R2.new h (.flat vs 0) fun b => .sl b 0 0 m (Nat.mul 2 i.size)) (.no "append: zeros")) with ⟨k1, a, _, rfl, l2⟩ | ⟨q, l2⟩
   · rw [l2] at hx
     rcases nat?_cases a (R2.no "append: zeros") (fun m => ifb (and (not (Nat.beq m 0)) (roomy i.bytes 0 m)) ((zerosR m z.cells).bd fun vs => R2.new h (.flat vs 0) fun b => .sl b 0 0 m (Nat.mul 2 i.size)) (.no "append: zeros")) with ⟨m, rfl, l3⟩ | l3
     · rw [l3] at hx
       obtain ⟨hc, hx⟩ := ifbR hx
       rw [zerosR_eq, Bx.bd_mk] at hx
       obtain ⟨rfl, rfl⟩ := R2.new_ok hx
       rw [Bool.and_eq_true, Bool.not_eq_true'] at hc
       obtain ⟨hm, hroom⟩ := hc
       have hm0 : 0 < m := by
        rcases Nat.eq_zero_or_pos m with hh | hh
        · rw [beq_iff.2 hh] at hm; cases hm
        · exact hh
       have hzs' : zv.cells.size = i.size := by have := hzz.length; simp at this; omega
       have h1 := roomy_le hroom
       have h2 : (2 * (0 + m) + 1024) * 1 ≤ (2 * (0 + m) + 1024) * (i.bytes + 1) := Nat.mul_le_mul_left _ (by omega)
       have h3 : m * i.bytes ≤ (2 * (0 + m) + 1024) * (i.bytes + 1) := Nat.mul_le_mul (by omega) (by omega)
       have h4 : m * i.bytes ≤ 281474976710656 := Nat.le_trans (Nat.le_trans h3 h1) (by decide)
       rw [Nat.mul_one] at h2
       have h5 : 2 * (0 + m) + 1024 ≤ 1073741824 := Nat.le_trans h2 h1
       have h6 : (m : Int) ≤ 9223372036854775807 := by clear h1 h2 h3 h4; omega
       have hrun := Lib.run_append_nil_zeros (P := C.P) w t u ty el i zv k1 kn hu hu2 hi hz m hm0 hpos h6 h4
       clear h1 h2 h3 h4
       have hge := grownCap_ge w m 0 el
       have hcz : ∀ n, Builtin.zeroCells zv.cells n = (copies n zv.cells.toList).toArray := fun n => by
        unfold Builtin.zeroCells
        exact zeros_array zv.cells n _ rfl
       rw [hcz m, hcz, List.append_toArray] at hrun
       have hrd : HR e h w.drew := hr.of_heap rfl
       obtain ⟨e', n1, n2⟩ := new_flat hrd (copies_VRL hzz m) (zerosA_cell hzc m) (rest := copies (grownCap w m 0 el - m) zv.cells.toList) el 0 (0, 0) (fun i _ => by simp) (fun _ i => by simp)
       refine ⟨_, e', _, hrun, (Ext.drew (w' := w.drew) hr rfl rfl rfl).trans n2, ?_⟩
       have hl : ∀ n, (copies n zv.cells.toList).length = n * i.size := fun n => by rw [copies_length, Array.length_toList, hzs']
       exact VR.sl (e := e') h.n 0 0 m (2 * i.size) (grownCap w m 0 el) _ n1 (Nat.le_refl _) (Nat.le_refl _) hge (fun hh => by omega) (fun _ => by
        rw [show 2 * i.size / 2 = i.size by omega]
        simp only [hl]
        rw [← Nat.add_mul, Nat.add_sub_cancel' hge]
        omega)
     · rw [l3] at hx; exact (no_ok hx).elim
   · rw [l2] at hx; exact (no_ok hx).elim
 · exact (no_ok hx).elim
theorem b_append {l : List Operand} {ts : List TypeId} (hg : GR C e) (hf : FR e f a) (hr : HR e h w) (hs : sxL C l = some s) (h1 : mkBuiltin C .append ts s = some co) (hx : xO co c f h = .ok v h') : BOK C (Builtin.append_ ts.toArray ty (l.map a.eval).toArray) e h w v h' := by
 cases ts with
 | nil => cases h1
 | cons t ts => cases ts with
  | nil => cases h1
  | cons u ts => cases s with
   | nil => cases h1
   | cons ss s => cases s with
    | nil => cases h1
    | cons sx s =>
     obtain ⟨x, l, rfl, sa1, hs⟩ := sxL_one hs
     obtain ⟨y, l, rfl, sa2, hs⟩ := sxL_one hs
     simp only [mkBuiltin] at h1
     cases hu : C.P.underlying t with
     | none => rw [hu] at h1; cases h1
     | some d => cases hu2 : C.P.underlying u with
      | none => rw [hu, hu2] at h1; cases d <;> cases h1
      | some d2 =>
       rw [hu, hu2] at h1
       cases d <;> try (cases h1; done)
       case slice el =>
        have hzc : ∀ z zv, zeroOf C el = some z → conv zv = some z → z.plain → z.cells.length = zv.cells.size := by
         intro z zv _ h2 h3
         obtain ⟨j2, _⟩ := zero_cells (conv_VR e zv z h2) h3
         have := j2.length
         simp at this; omega
        cases d2 <;> try (cases h1; done)
        case slice el2 =>
         simp only at h1
         cases hi : C.P.info? el with
         | none => rw [hi] at h1; cases h1
         | some i => cases hz : zeroOf C el with
          | none => rw [hi, hz] at h1; cases h1
          | some z =>
           rw [hi, hz] at h1
           simp only at h1
           by_cases hc : i.size ≠ 0 ∧ z.cells.length = i.size
           · rw [if_pos hc] at h1
             cases h1
             obtain ⟨zi, zv, i1, i2, i3, i4⟩ := zeroOf_spec hz
             rw [hi] at i1; cases i1
             exact app_sim hr hu hi i2 rfl (by rw [← hzc z zv hz i3 i4]; exact hc.2) rfl (Nat.pos_of_ne_zero hc.1) (.inr ⟨rfl, el2, hu2⟩) (sx_VR hg hf sa1) (sx_VR hg hf sa2) hx
           · rw [if_neg hc] at h1; cases h1
        case int kn =>
         simp only at h1
         cases hi : C.P.info? el with
         | none => rw [hi] at h1; cases h1
         | some i => cases hz : zeroOf C el with
          | none => rw [hi, hz] at h1; cases h1
          | some z =>
           rw [hi, hz] at h1
           simp only at h1
           by_cases hc : i.size ≠ 0 ∧ z.cells.length = i.size
           · rw [if_pos hc] at h1
             cases h1
             obtain ⟨zi, zv, i1, i2, i3, i4⟩ := zeroOf_spec hz
             rw [hi] at i1; cases i1
             obtain ⟨j2, j3⟩ := zero_cells (conv_VR e zv z i3) i4
             exact apz_sim (c := c) hr hu hu2 hi i2 j2 j3 hc.2 (Nat.pos_of_ne_zero hc.1) (sx_VR hg hf sa1) (sx_VR hg hf sa2) hx
           · rw [if_neg hc] at h1; cases h1
        case string =>
         simp only at h1
         cases hi : C.P.info? el with
         | none => rw [hi] at h1; cases h1
         | some i => cases hz : zeroOf C el with
          | none => rw [hi, hz] at h1; cases h1
          | some z =>
           rw [hi, hz] at h1
           simp only at h1
           by_cases hc : i.size = 1 ∧ z.cells.length = 1
           · rw [if_pos hc] at h1
             cases h1
             obtain ⟨zi, zv, i1, i2, i3, i4⟩ := zeroOf_spec hz
             rw [hi] at i1; cases i1
             exact app_sim hr hu hi i2 hc.1 (by rw [← hzc z zv hz i3 i4]; exact hc.2) rfl Nat.zero_lt_one (.inl ⟨rfl, hu2, rfl⟩) (sx_VR hg hf sa1) (sx_VR hg hf sa2) hx
           · rw [if_neg hc] at h1; cases h1
end
end Go.Ab
namespace Go.Ab
variable [Val]
open Go
variable {C : Cx}
theorem run_callFunc {P : Program} {w : World} {g : FuncId} {fn : Func} {b : Code} {args : Array Value} (h1 : P.funcs[g]? = some fn) (h2 : (fn.name == "runtime.NumGoroutine") = false) (h3 : fn.body = some b) : (callFunc g args).run P w = .ok (.enter g args) w := by
 have h4 : ¬ fn.name = "runtime.NumGoroutine" := by simpa using h2
 simp [callFunc, h1, h4, h3]
theorem evL_forced (f : Fr) (l : List Sx) : forceL (evL f l) = .mk (evL f l) := forceL_eq _
theorem call_wp {o : Oper} {c : CallT} (hc : CallOK C c) {g : Nat} {args : List AV} {args' : List Value} {h h' : Hp} {v : AV} {e : Emb} {a : Act} {w : World} (hgy : Nat.ble yF g = false) (hx : c g args h = .ok v h') (hg : GR C e) (hv : VRL e args args') (hr : HR e h w)
 (hex : (execOp a.eval o).run C.P w = (callFunc g args'.toArray).run C.P w) {K : Act → World → Prop} {Q : Exit → Act → World → Prop}
 (hk : ∀ e' v' w', Ext e h w e' h' w' → VR e' v v' → K (a.put o.dst v') w') : o.ow C.P a w K Q := by
 rcases hc g args h v h' hx with ⟨_, ⟨fn, b, h1, h2, h3⟩, hcall⟩ | ⟨_, hval⟩ | ⟨rfl, _⟩
 · intro ro
   refine ⟨fun _ _ => trivial, ?_⟩
   rw [show (fw ro).round = ro from rfl, semAt_run (hex.trans (run_callFunc h1 h2 h3)) (fun _ hh => by cases hh)]
   rw [Oper.uponIn_enter]
   refine ⟨(fun hh => by cases hh), callsIn_fw (Calls.mono (hcall e w args' hg hv hr) fun en w' he => ?_)⟩
   obtain ⟨v', e', rfl, h4, h5⟩ := he
   exact hk e' v' w' h5 h4
 · obtain ⟨v', w', e', h1, h2, h3⟩ := hval e w args' hg hv hr
   exact wp_val (hex.trans h1) (hk e' v' w' h3 h2)
 · cases hgy
theorem yld_wp {o : Oper} {c : CallT} (hc : CallOK C c) {xs : List AV} {xs' : List Value} {m : Nat} {x : Loc} {h h' : Hp} {v : AV} {e : Emb} {a : Act} {w : World} (hx : c yF (xs ++ [.ptr m 0 0]) h = .ok v h') (hm : e m 0 = some x) (hb : x.base ≤ x.lo) (hg : GR C e) (hv : VRL e xs xs') (hr : HR e h w)
 (hex : (execOp a.eval o).run C.P w = (Instr.yield x.r xs'.toArray).run C.P w) {K : Act → World → Prop} {Q : Exit → Act → World → Prop}
 (hk : ∀ e' v' w', Ext e h w e' h' w' → VR e' v v' → K (a.put o.dst v') w') : o.ow C.P a w K Q := by
 rcases hc _ _ h v h' hx with ⟨hh, _⟩ | ⟨hh, _⟩ | ⟨_, hy⟩
 · cases hh
 · cases hh
 · obtain ⟨fn, tmps, assign, body, h1, h2⟩ := hy e w xs xs' m x rfl hm hb hg hv hr
   intro ro
   refine ⟨fun _ _ => trivial, ?_⟩
   rw [show (fw ro).round = ro from rfl, semAt_run (hex.trans h1) (fun _ hh => by cases hh)]
   rw [Oper.uponIn_round]
   have h3 : RoundIn (fw ro) (0 - 1) C.P x.r fn tmps assign body w fun en w' => ∃ v' e', en = .returned v' ∧ VR e' v v' ∧ Ext e h w e' h' w' := h2
   refine ⟨(fun hh => by cases hh), RoundIn.mono h3 fun en w' he => ?_⟩
   obtain ⟨v', e', rfl, h4, h5⟩ := he
   exact hk e' v' w' h5 h4
theorem sim_call {o : Oper} {cl : Call} (ho : o.op = .call cl) : Sim C o (xO (mk C o)) := by
 intro c hc f h v h' e a wd hx hg hf hr K Q hk
 simp only [mk, ho] at hx
 obtain ⟨co, h1, hx⟩ := orBad_ok hx
 cases hs : sxL C cl.args.toList with
 | none => rw [hs] at h1; cases hcc : cl.callee <;> rw [hcc] at h1 <;> first | (cases h1; done) | (rename_i q; cases q <;> cases h1)
 | some s =>
  rw [hs] at h1
  have hargs : cl.args.map a.eval = (cl.args.toList.map a.eval).toArray := (mapA_toList _ _).symm
  have hvl := sxL_VR hg hf hs
  cases hcc : cl.callee with
  | invoke r n => rw [hcc] at h1; cases h1
  | builtin b =>
   rw [hcc] at h1
   have h1 : mkBuiltin C b cl.argTypes.toList s = some co := h1
   obtain ⟨cs, hex⟩ := exec_builtin (C := C) ho hcc a.eval wd
   have fin : ∀ sv : Sem Value, builtin b cl.argTypes o.type cs (cl.args.map a.eval) = (do pure (.value (← sv))) → BOK C sv e h wd v h' → o.ow C.P a wd K Q := by
    intro sv hb ⟨v', e', w', k1, k2, k3⟩
    refine wp_val (v := v') (w' := w') ?_ (hk e' v' w' k2 k3)
    rw [hex, hb]
    simp only [Sem.run_bind, k1, Result.andThen_ok, Sem.run_pure]
   have hty : cl.argTypes.toList.toArray = cl.argTypes := by simp
   cases b <;> try (have h1 : (none : Option CO) = some co := h1; cases h1; done)
   case append => exact fin _ rfl (by have := b_append (ty := o.type) hg hf hr hs h1 hx; rw [hty] at this; rw [hargs]; exact this)
   case cap => exact fin _ rfl (by have := b_cap (ty := o.type) hg hf hr hs h1 hx; rw [hty] at this; rw [hargs]; exact this)
   case copy => exact fin _ rfl (by have := b_copy (ty := o.type) hg hf hr hs h1 hx; rw [hty] at this; rw [hargs]; exact this)
   case clear => exact fin _ rfl (by have := b_clear (ty := o.type) hg hf hr hs h1 hx; rw [hty] at this; rw [hargs]; exact this)
   case delete => exact fin _ rfl (by have := b_delete (ty := o.type) hg hf hr hs h1 hx; rw [hty] at this; rw [hargs]; exact this)
   case len => exact fin _ rfl (by have := b_len (ty := o.type) hg hf hr hs h1 hx; rw [hty] at this; rw [hargs]; exact this)
   case max => exact fin _ rfl (by have := b_max (ty := o.type) hg hf hr hs h1 hx; rw [hty] at this; rw [hargs]; exact this)
   case min => exact fin _ rfl (by have := b_min (ty := o.type) hg hf hr hs h1 hx; rw [hty] at this; rw [hargs]; exact this)
  | value fo =>
   rw [hcc] at h1
   have hdyn : ∀ sf, sx C fo = some sf → xO (.calld sf s) c f h = .ok v h' → o.ow C.P a wd K Q := by
    intro sf hsf hx
    have hx : (ev f sf).onFn R2.no (fun g first caps => (forceL (evL f s)).bd fun a => (appS a caps).bd fun a => (appS first a).bd fun a => c g a h) = .ok v h' := hx
    obtain ⟨g, fa, fb, qq, hx⟩ := (sx_VR hg hf hsf).fnR hx
    rw [forceL_eq, Bx.bd_mk, appS_eq, Bx.bd_mk, appS_eq, Bx.bd_mk] at hx
    generalize q1 : a.eval fo = fv at qq
    cases qq with
    | fn fa' fb' hgy q2 q3 =>
     refine call_wp hc hgy hx hg (q2.append (hvl.append q3)) hr ?_ hk
     simp only [execOp, ho, resolve, hcc, Deferred.ofValue, q1, Sem.run_bind, Sem.run_pure, Result.andThen_ok, invoke]
     congr 2
     apply Array.toList_inj.1
     simp
    | yld m y hgy hfa hfb hm hb =>
     subst hgy hfa hfb
     refine yld_wp hc hx hm hb hg hvl hr ?_ hk
     simp only [execOp, ho, resolve, hcc, Deferred.ofValue, q1, Sem.run_bind, Sem.run_pure, Result.andThen_ok, invoke]
     congr 2
     apply Array.toList_inj.1
     simp
   cases fo with
   | func g =>
    have h1 : ifb (Nat.ble yF g) none (some (CO.call g s)) = some co := h1
    cases hgy : Nat.ble yF g with
    | true => rw [hgy] at h1; cases h1
    | false =>
    rw [hgy] at h1
    cases h1
    have hx : (forceL (evL f s)).bd (fun a => c g a h) = .ok v h' := hx
    rw [forceL_eq, Bx.bd_mk] at hx
    refine call_wp hc hgy hx hg hvl hr ?_ hk
    simp only [execOp, ho, resolve, hcc, Deferred.ofValue, Act.eval, Sem.run_bind, Sem.run_pure, Result.andThen_ok, invoke]
    congr 2
    apply Array.toList_inj.1
    simp
   | tmp t => obtain ⟨sf, h2, rfl⟩ := map_ok (show (sx C (.tmp t)).map _ = some co from h1); exact hdyn sf h2 hx
   | const k => obtain ⟨sf, h2, rfl⟩ := map_ok (show (sx C (.const k)).map _ = some co from h1); exact hdyn sf h2 hx
   | global k => obtain ⟨sf, h2, rfl⟩ := map_ok (show (sx C (.global k)).map _ = some co from h1); exact hdyn sf h2 hx
theorem sim_typeAssert {o : Oper} {x : Operand} {xt t : TypeId} {ok : Bool} (ho : o.op = .typeAssert x xt t ok) : Sim C o (xO (mk C o)) := by
 intro c _ f h v h' e a wd hx hg hf hr K Q hk
 simp only [mk, ho] at hx
 obtain ⟨co, h1, hx⟩ := orBad_ok hx
 cases hu : C.P.underlying t with
 | none => rw [hu] at h1; cases hs : sx C x <;> rw [hs] at h1 <;> cases h1
 | some d =>
  cases hs : sx C x with
  | none => rw [hu, hs] at h1; cases d <;> cases h1
  | some s =>
   rw [hu, hs] at h1
   have hni : ∀ m, d ≠ .interface m := fun m hh => by subst hh; cases h1
   have h1 : co = .ta t ok s := by cases d <;> first | (cases h1; rfl) | cases h1
   subst h1
   have hx : (ev f s).onIfc R2.no (fun u v => ifb (Nat.beq u t) (.ok (okTup ok v true) h) (.no "typeAssert: another type")) = .ok v h' := hx
   rcases (sx_VR hg hf hs).onIfc (no := R2.no) (k := fun u v => ifb (Nat.beq u t) (.ok (okTup ok v true) h) (.no "typeAssert: another type")) with ⟨u, w, w', _, h2, h3, h4⟩ | ⟨q, h4⟩
   · rw [h4] at hx
     cases hb : Nat.beq u t with
     | false => rw [hb] at hx; exact (no_ok hx).elim
     | true =>
      rw [hb] at hx
      cases hx
      have hut := beq_iff.1 hb
      subst hut
      refine wp_val (v := if ok then .tuple #[w', .bool true] else w') (w' := wd) ?_ (hk e _ wd (.refl hr) ?_)
      · simp only [execOp, ho, h2, Instr.typeAssert, Sem.run_bind, run_und hu, Result.andThen_ok]
        cases d <;> first | exact absurd rfl (hni _) | (cases ok <;> simp)
      · cases ok
        · exact h3
        · exact .tup _ [w', .bool true] (.cons _ _ _ _ h3 (.cons _ _ _ _ (.bool true) .nil))
   · rw [h4] at hx; exact (no_ok hx).elim
theorem sim_bad {o : Oper} {w : String} (h : mk C o = .bad w) : Sim C o (xO (mk C o)) := by
 intro c _ f h2 v h' e a wd hx
 rw [h] at hx
 exact (no_ok (w := w) hx).elim
theorem mk_sim (o : Oper) : Sim C o (xO (mk C o)) := by
 cases ho : o.op with
 | move x => have := sim_mv (C := C) (o := o) (x := x) (fun ρ => by simp only [execOp, ho]) (w := "move"); simpa only [mk, ho] using this
 | assign x => have := sim_mv (C := C) (o := o) (x := x) (fun ρ => by simp only [execOp, ho]) (w := "assign"); simpa only [mk, ho] using this
 | pick c a b => exact sim_pick ho
 | alloc t => exact sim_alloc ho
 | box t x => exact sim_box ho
 | build t ps => exact sim_build ho
 | buildSlice t n ps => exact sim_buildSlice ho
 | load t x => exact sim_load ho
 | store t x y => exact sim_store ho
 | nilCheck x => exact sim_nilCheck ho
 | binOp op t x y yt => exact sim_binOp ho
 | unOp u t x => cases u with
  | neg => exact sim_neg ho
  | not => exact sim_not ho
  | xor => exact sim_xor ho
  | plus => exact sim_bad (w := "operation") (by simp only [mk, ho])
 | convert s d x => exact sim_convert ho
 | makeInterface t x => exact sim_makeInterface ho
 | makeFunc g first caps => cases g with
  | func g => exact sim_makeFunc ho
  | _ => exact sim_bad (w := "operation") (by simp only [mk, ho])
 | makeMap t r => exact sim_makeMap ho
 | makeSlice t l c => exact sim_makeSlice ho
 | slice t x lo hi mx => exact sim_slS ho
 | fieldAddr t x i => exact sim_fieldAddr ho
 | field t x i => exact sim_field ho
 | indexAddr t x y => exact sim_indexAddr ho
 | index t x y => exact sim_index_str ho
 | lookup t x y ok => exact sim_lookup ho
 | mapUpdate t x y z => exact sim_mapUpdate ho
 | insert t x y z => exact sim_insert ho
 | range t x => exact sim_range ho
 | next x b => cases b with
  | true => exact sim_next ho
  | false => exact sim_bad (w := "operation") (by simp only [mk, ho])
 | extract x i => exact sim_extract ho
 | typeAssert x a b c => exact sim_typeAssert ho
 | call c => exact sim_call ho
 | _ => exact sim_bad (w := "operation") (by simp only [mk, ho])
end Go.Ab
namespace Go.Ab
variable [Val]
open Go
variable {C : Cx} {ds : List Deferred} {R : Option Nat → Prop}
def FN (ds : List Deferred) (n : Nat) (e : Emb) (f : Fr) (a : Act) : Prop := FR e f a ∧ (n ≤ a.tmps.size ∧ a.defers = ds)
theorem FN.mono {n : Nat} {e e' : Emb} (h : e.le e') {f : Fr} {a : Act} (p : FN ds n e f a) : FN ds n e' f a := ⟨p.1.mono h, p.2⟩
theorem slot_eq (f : Fr) (t : Nat) : slot f t = (getP (path t) f).getD undefA := by
 show Option.rec (motive := fun _ => AV) undefA (fun v => v) (getP (path t) f) = _
 cases getP (path t) f <;> rfl
theorem slot_set (f : Fr) (d t : Nat) (v : AV) : slot (setT v (path d) f) t = if t = d then v else slot f t := by
 rw [slot_eq, slot_eq, getP_path]
 by_cases h : t = d
 · rw [if_pos h, if_pos h]; rfl
 · rw [if_neg h, if_neg h]
theorem FN.put {n : Nat} {e : Emb} {f : Fr} {a : Act} (h : FN ds n e f a) {d : Nat} (hd : d < n) {v : AV} {v' : Value} (hv : VR e v v') : FN ds n e (setT v (path d) f) (a.put (some d) v') := by
 refine ⟨⟨fun t => ?_, h.1.2⟩, by simpa [Act.put] using h.2.1, h.2.2⟩
 rw [slot_set]
 by_cases ht : t = d
 · subst ht
   rw [if_pos rfl]
   have : t < a.tmps.size := Nat.lt_of_lt_of_le hd h.2.1
   simpa [Act.put, this] using hv
 · rw [if_neg ht]
   have : (a.put (some d) v').tmps.getD t undef = a.tmps.getD t undef := by
    simp [Act.put, Array.getElem?_setIfInBounds_ne (Ne.symm ht)]
   rw [this]; exact h.1.1 t
theorem FN.putO {n : Nat} {e : Emb} {f : Fr} {a : Act} (h : FN ds n e f a) {d : Option Nat} (hd : ∀ t, d = some t → t < n) {v : AV} {v' : Value} (hv : VR e v v') : FN ds n e (putD (d.map path) v f).out (a.put d v') := by
 cases d with
 | none => exact h
 | some d =>
  show FN ds n e (setP v (path d) f).out _
  rw [setP_eq]; exact h.put (hd d rfl) hv
theorem putD_mk (d : Option (List Bool)) (v : AV) (f : Fr) : putD d v f = .mk (putD d v f).out := Bx.eta _
theorem guard_sim {e : Emb} {f : Fr} {a : Act} (hf : FR e f a) {ops : Array Oper} {o : Oper} {g : Option (List Bool × Bool)} (hg : mkGuard ops.toList o = some g) (hok : okG g f = true) : wantG g f = Region.wanted o (yielded ops a.tmps) := by
 unfold mkGuard at hg
 cases ho : o.guard with
 | none =>
  rw [ho] at hg
  cases hg
  simp only [Region.wanted, ho]; rfl
 | some jw =>
  obtain ⟨j, want⟩ := jw
  rw [ho] at hg
  simp only [nthA_eq, Array.getElem?_toList] at hg
  cases hj : ops[j]? with
  | none => rw [hj] at hg; cases hg
  | some p =>
   rw [hj] at hg
   simp only at hg
   cases hd : p.dst with
   | none => rw [hd] at hg; cases hg
   | some t =>
    rw [hd] at hg
    cases hg
    have ht := hf.1 t
    rw [slot_eq] at ht
    have h1 : wantG (some (path t, want)) f = ((getP (path t) f).getD undefA).onBool (fun _ => false) (fun b => ifb want b (not b)) := by
     show Option.rec (motive := fun _ => Bool) false (fun v => v.onBool (fun _ => false) fun b => ifb want b (not b)) (getP (path t) f) = _
     cases getP (path t) f <;> rfl
    have h4 : ∀ u, (getP (path t) f).getD undefA ≠ .nil u := by
     intro u hh
     cases hgp : getP (path t) f with
     | none => rw [hgp] at hh; cases hh
     | some v =>
      rw [hgp] at hh
      have hh : v = .nil u := hh
      have hok : Option.rec (motive := fun _ => Bool) true (fun v => not v.isNilv) (getP (path t) f) = true := hok
      rw [hgp, hh] at hok
      cases hok
    rw [h1]
    generalize (getP (path t) f).getD undefA = v at ht h4
    have h2 : Region.wanted o (yielded ops a.tmps) = (yielded ops a.tmps j == some want) := by simp only [Region.wanted, ho]
    rw [h2]
    have h3 : yielded ops a.tmps j = match a.tmps.getD t undef with | .bool b => some b | _ => none := by
     unfold yielded
     rw [hj]
     simp only [Option.bind_some, hd, Array.getD_eq_getD_getElem?]
     cases a.tmps[t]? with
     | none => rfl
     | some u => cases u <;> rfl
    rw [h3]
    generalize a.tmps.getD t undef = v' at ht
    cases ht with
    | bool b => cases b <;> cases want <;> rfl
    | any => exact absurd rfl (h4 _)
    | opq => exact absurd rfl (h4 _)
    | tok => exact absurd rfl (h4 _)
    | _ => rfl
def Post0 (_C : Cx) (ds : List Deferred) (n : Nat) (e : Emb) (h : Hp) (w : World) (Q : Exit → Act → World → Prop) : Out → Prop
 | .norm f' h' => ∀ e' a' w', Ext e h w e' h' w' → FN ds n e' f' a' → Q .normal a' w'
 | .exit i f' h' => ∀ e' a' w', Ext e h w e' h' w' → FN ds n e' f' a' → Q (.exit i) a' w'
 | .ret f' h' => ∀ e' a' w', Ext e h w e' h' w' → FN ds n e' f' a' → Q .ret a' w'
 | .no _ => False
theorem Post0.after {n : Nat} {e e' : Emb} {h h' : Hp} {w w' : World} {Q : Exit → Act → World → Prop} {o : Out} (p : Post0 C ds n e h w Q o) (x : Ext e h w e' h' w') : Post0 C ds n e' h' w' Q o := by
 cases o with
 | norm f h2 => exact fun e2 a2 w2 y hf => p e2 a2 w2 (x.trans y) hf
 | exit i f h2 => exact fun e2 a2 w2 y hf => p e2 a2 w2 (x.trans y) hf
 | ret f h2 => exact fun e2 a2 w2 y hf => p e2 a2 w2 (x.trans y) hf
 | no s => exact p
def DF (b0 : Nat) (e : Emb) (w : World) (l : List Deferred) : Prop := (∀ d ∈ l, ∃ D, d = { target := .collected D, args := #[] } ∧ w.heap[D]? = some (.deferred (some [])) ∧ (∀ b g x, e b g = some x → x.r ≠ D) ∧ b0 ≤ D) ∧ l.Nodup ∧ b0 ≤ w.heap.size
theorem DF.nil {b0 : Nat} (e : Emb) {w : World} (h : b0 ≤ w.heap.size) : DF b0 e w [] := ⟨(fun d hd => by cases hd), .nil, h⟩
theorem DF.ext {b0 : Nat} {e e' : Emb} {h h' : Hp} {w w' : World} (x : Ext e h w e' h' w') {l : List Deferred} (p : DF b0 e w l) : DF b0 e' w' l := by
 refine ⟨fun d hd => ?_, p.2.1, Nat.le_trans p.2.2 x.size⟩
 obtain ⟨D, h1, h2, h3, h0⟩ := p.1 d hd
 have hlt : D < w.heap.size := (Array.getElem?_eq_some_iff.1 h2).1
 refine ⟨D, h1, (x.frame D hlt fun b g y hy hr => absurd hr (h3 b g y hy)).trans h2, fun b g y hy hr => ?_, h0⟩
 rcases x.blocks b g y hy with ⟨g0, y0, h4, h5⟩ | h4
 · exact h3 b g0 y0 h4 (h5.trans hr)
 · omega
theorem DF.sub {b0 : Nat} {e e' : Emb} {w : World} (h : e.le e') {l : List Deferred} (p : DF b0 e' w l) : DF b0 e w l := ⟨fun d hd =>
 let ⟨D, h1, h2, h3, h0⟩ := p.1 d hd; ⟨D, h1, h2, fun b g x hx => h3 b g x (h b g x hx), h0⟩, p.2⟩
theorem DF.other {b0 : Nat} {e : Emb} {w w' : World} {r : Nat} (hr : ∀ o, w.heap[r]? ≠ some (.deferred o)) (hw : ∀ k, k ≠ r → w'.heap[k]? = w.heap[k]?) (hs : w.heap.size ≤ w'.heap.size) {l : List Deferred} (p : DF b0 e w l) : DF b0 e w' l := ⟨fun d hd =>
 let ⟨D, h1, h2, h3, h0⟩ := p.1 d hd; ⟨D, h1, (hw D fun hh => hr _ (hh ▸ h2)).trans h2, h3, h0⟩, p.2.1, Nat.le_trans p.2.2 hs⟩
theorem DF.cons {b0 : Nat} {e : Emb} {w w0 : World} {l : List Deferred} (h1 : w.heap[w0.heap.size]? = some (.deferred (some []))) (h2 : ∀ b g x, e b g = some x → x.r ≠ w0.heap.size) {e0 : Emb} (p0 : DF b0 e0 w0 l) (p : DF b0 e w l) : DF b0 e w ({ target := .collected w0.heap.size, args := #[] } :: l) := by
 refine ⟨fun d hd => ?_, List.nodup_cons.2 ⟨fun hm => ?_, p.2.1⟩, p.2.2⟩
 · rcases List.mem_cons.1 hd with rfl | hd
   · exact ⟨_, rfl, h1, h2, p0.2.2⟩
   · exact p.1 d hd
 · obtain ⟨D, k1, k2, _⟩ := p0.1 _ hm
   cases k1
   exact Nat.lt_irrefl _ (Array.getElem?_eq_some_iff.1 k2).1
theorem put_defers (a : Act) (d : Option Tmp) (v : Value) : (a.put d v).defers = a.defers := by cases d <;> rfl
def Post (_C : Cx) (b0 : Nat) (n : Nat) (e : Emb) (h : Hp) (w : World) (Q : Exit → Act → World → Prop) : Out → Prop
 | .norm f' h' => ∀ e' a' w', Ext e h w e' h' w' → FN a'.defers n e' f' a' → DF b0 e' w' a'.defers → Q .normal a' w'
 | .exit i f' h' => ∀ e' a' w', Ext e h w e' h' w' → FN a'.defers n e' f' a' → DF b0 e' w' a'.defers → Q (.exit i) a' w'
 | .ret f' h' => ∀ e' a' w', Ext e h w e' h' w' → FN a'.defers n e' f' a' → DF b0 e' w' a'.defers → Q .ret a' w'
 | .no _ => False
theorem Post.after {b0 n : Nat} {e e' : Emb} {h h' : Hp} {w w' : World} {Q : Exit → Act → World → Prop} {o : Out} (p : Post C b0 n e h w Q o) (x : Ext e h w e' h' w') : Post C b0 n e' h' w' Q o := by
 cases o with
 | norm f h2 => exact fun e2 a2 w2 y hf => p e2 a2 w2 (x.trans y) hf
 | exit i f h2 => exact fun e2 a2 w2 y hf => p e2 a2 w2 (x.trans y) hf
 | ret f h2 => exact fun e2 a2 w2 y hf => p e2 a2 w2 (x.trans y) hf
 | no s => exact p
theorem mkS_spec {n : Nat} {ops : List Oper} {o : Oper} : (∃ g, mkGuard ops o = some g ∧ mkS C n ops o = ⟨mk C o, g, o.dst.map path, false⟩ ∧ ∀ t, o.dst = some t → t < n) ∨ ∃ w, mkS C n ops o = ⟨.bad w, none, none, false⟩ := by
 unfold mkS
 cases hg : mkGuard ops o with
 | none => cases o.dst <;> exact .inr ⟨_, rfl⟩
 | some g => cases hd : o.dst with
  | none => exact .inl ⟨g, rfl, rfl, fun t ht => by cases ht⟩
  | some d =>
   by_cases hdn : d < n
   · simp only [if_pos hdn]
     exact .inl ⟨g, rfl, rfl, fun t ht => by cases ht; exact hdn⟩
   · simp only [if_neg hdn]
     exact .inr ⟨_, rfl⟩
theorem seq_sim {n : Nat} {ops : Array Oper} {c : CallT} (hc : CallOK C c) {Q : Exit → Act → World → Prop} : ∀ (l : List Oper) (s : Nat), (∀ i o, l[i]? = some o → ops[s + i]? = some o) → ∀ (f : Fr) (h : Hp) (e : Emb) (a : Act) (w : World),
 GR C e → FN ds n e f a → HR e h w → Post0 C ds n e h w Q (runR (mkSeq C n ops.toList l) c f h) → owOps C.P ops Q (List.range' s l.length) a w := by
 intro l
 induction l with
 | nil =>
  intro s _ f h e a w _ hf hr hp
  exact hp e a w (.refl hr) hf
 | cons o l ih =>
  intro s hl f h e a w hg hf hr hp
  have ho : ops[s]? = some o := by simpa using hl 0 o rfl
  have hl' : ∀ i o, l[i]? = some o → ops[s + 1 + i]? = some o := by
   intro i o hi
   have := hl (i + 1) o (by simpa using hi)
   rw [show s + 1 + i = s + (i + 1) by omega]; exact this
  have hp : Post0 C ds n e h w Q (oneS (mkS C n ops.toList o) (runR (mkSeq C n ops.toList l)) c f h) := hp
  show owOps C.P ops Q (s :: List.range' (s + 1) l.length) a w
  simp only [owOps, ho]
  rcases mkS_spec (C := C) (n := n) (ops := ops.toList) (o := o) with ⟨g, g1, g2, g3⟩ | ⟨q, g2⟩
  · rw [g2] at hp
    cases hok : okG g f with
    | false =>
     have hp : Post0 C ds n e h w Q (ifb (okG g f) (ifb (wantG g f) ((xO (mk C o) c f h).bd Out.no (doneS ⟨mk C o, g, o.dst.map path, false⟩ (runR (mkSeq C n ops.toList l)) c f)) (doneS ⟨mk C o, g, o.dst.map path, false⟩ (runR (mkSeq C n ops.toList l)) c f undefA h)) (.no "guard")) := hp
     rw [hok] at hp; exact hp.elim
    | true =>
    have hgs := guard_sim hf.1 g1 hok
    have hp : Post0 C ds n e h w Q (ifb (okG g f) (ifb (wantG g f) ((xO (mk C o) c f h).bd Out.no (doneS ⟨mk C o, g, o.dst.map path, false⟩ (runR (mkSeq C n ops.toList l)) c f)) (doneS ⟨mk C o, g, o.dst.map path, false⟩ (runR (mkSeq C n ops.toList l)) c f undefA h)) (.no "guard")) := hp
    rw [hok, ifb_true] at hp
    have hp : Post0 C ds n e h w Q (ifb (wantG g f) ((xO (mk C o) c f h).bd Out.no (doneS ⟨mk C o, g, o.dst.map path, false⟩ (runR (mkSeq C n ops.toList l)) c f)) (doneS ⟨mk C o, g, o.dst.map path, false⟩ (runR (mkSeq C n ops.toList l)) c f undefA h)) := hp
    rw [hgs] at hp
    have hdone : ∀ (v : AV) (h2 : Hp), doneS ⟨mk C o, g, o.dst.map path, false⟩ (runR (mkSeq C n ops.toList l)) c f v h2 = runR (mkSeq C n ops.toList l) c (putD (o.dst.map path) v f).out h2 := by
     intro v h2
     show v.force (fun v => (putD (o.dst.map path) v f).bd fun f => runR (mkSeq C n ops.toList l) c f h2) = _
     rw [force_eq, putD_mk]; rfl
    cases hw : Region.wanted o (yielded ops a.tmps) with
    | true =>
     rw [hw, ifb_true] at hp
     simp only [if_true]
     left
     cases hx : xO (mk C o) c f h with
     | no q => rw [hx] at hp; exact hp.elim
     | ok v h2 =>
      rw [hx] at hp
      have hp : Post0 C ds n e h w Q (doneS ⟨mk C o, g, o.dst.map path, false⟩ (runR (mkSeq C n ops.toList l)) c f v h2) := hp
      rw [hdone] at hp
      refine mk_sim o c hc f h v h2 e a w hx hg hf.1 hr _ Q fun e' v' w' hext hv => ?_
      exact ih (s + 1) hl' _ h2 e' _ w' (hg.mono hext.le) ((hf.mono hext.le).putO g3 hv) hext.hr (hp.after hext)
    | false =>
     rw [hw, ifb_false, hdone] at hp
     simp only [Bool.false_eq_true, if_false]
     exact ih (s + 1) hl' _ h e _ w hg (hf.putO g3 (undef_VR e)) hr hp
  · rw [g2] at hp
    exact False.elim hp
def DrawOK (C : Cx) : Prop := ∀ (R : Option Nat → Prop) (ds : List Deferred) (n id : Nat) (ops : Array Oper) (c : CallT), CallOK C c → ∀ (f : Fr) (h : Hp) (e : Emb) (a : Act) (w : World) (Q : Exit → Act → World → Prop),
 GR C e → FN ds n e f a → HR e h w → Post0 C ds n e h w Q (runR (mkDraw C n ops) c f h) → (Code.region id ops true).ow R C.P Q a w
theorem Post.region {b0 n : Nat} {e : Emb} {h : Hp} {w : World} {Q : Exit → Act → World → Prop} {o : Out} (p : Post C b0 n e h w Q o) (hd : DF b0 e w ds) : Post0 C ds n e h w Q o := by
 cases o with
 | norm f h2 => exact fun e2 a2 w2 y hf => p e2 a2 w2 y (by rw [hf.2.2]; exact hf) (by rw [hf.2.2]; exact hd.ext y)
 | exit i f h2 => exact fun e2 a2 w2 y hf => p e2 a2 w2 y (by rw [hf.2.2]; exact hf) (by rw [hf.2.2]; exact hd.ext y)
 | ret f h2 => exact fun e2 a2 w2 y hf => p e2 a2 w2 y (by rw [hf.2.2]; exact hf) (by rw [hf.2.2]; exact hd.ext y)
 | no s => exact p
def CodeOK (C : Cx) (R : Option Nat → Prop) (n : Nat) (cd : Code) : Prop := ∀ (b0 k : Nat) (c : CallT), CallOK C c → ∀ (f : Fr) (h : Hp) (e : Emb) (a : Act) (w : World) (Q : Exit → Act → World → Prop),
 GR C e → FN a.defers n e f a → DF b0 e w a.defers → HR e h w → Post C b0 n e h w Q (runC (mkC C n cd) k c f h) → cd.ow R C.P Q a w
end Go.Ab
namespace Go.Ab
variable [Val]
open Go
theorem unpath_cons (b : Bool) (r : List Bool) : unpath (b :: r) = if b = true then 2 * unpath r + 1 else 2 * (unpath r + 1) := by cases b <;> rfl
theorem path_unpath : ∀ p : List Bool, path (unpath p) = p
 | [] => rfl
 | b :: r => by
  rw [unpath_cons]
  cases b with
  | true =>
   rw [if_pos rfl, path_succ, show 2 * unpath r % 2 = 0 by omega, show 2 * unpath r / 2 = unpath r by omega, path_unpath r]; rfl
  | false =>
   rw [if_neg (by decide), show 2 * (unpath r + 1) = (2 * unpath r + 1) + 1 by omega, path_succ, show (2 * unpath r + 1) % 2 = 1 by omega, show (2 * unpath r + 1) / 2 = unpath r by omega, path_unpath r]; rfl
theorem unpath_path (t : Nat) : unpath (path t) = t := path_inj _ _ (path_unpath _)
def Agree (m : Nat) (f f' : Fr) : Prop := ∀ t, m.testBit t = true → slot f t = slot f' t
theorem Agree.or {a b : Nat} {f f' : Fr} (h : Agree (Nat.lor a b) f f') : Agree a f f' ∧ Agree b f f' := by
 constructor
 · intro t ht
   exact h t (by show (a ||| b).testBit t = true; rw [Nat.testBit_or, ht]; rfl)
 · intro t ht
   exact h t (by show (a ||| b).testBit t = true; rw [Nat.testBit_or, ht, Bool.or_true])
theorem ev_t (f : Fr) (p : List Bool) : ev f (.t p) = slot f (unpath p) := by
 show ev f (.t p) = ev f (.t (path (unpath p)))
 rw [path_unpath]
theorem ev_agree {f f' : Fr} {x : Sx} (h : Agree x.us f f') : ev f x = ev f' x := by
 cases x with
 | c v => rfl
 | t p =>
  rw [ev_t, ev_t]
  exact h _ (Nat.testBit_two_pow_self)
theorem evL_agree {f f' : Fr} : ∀ {l : List Sx}, Agree (usL l) f f' → evL f l = evL f' l
 | [], _ => rfl
 | x :: l, h => by
  have h := Agree.or (show Agree (Nat.lor x.us (usL l)) f f' from h)
  show ev f x :: evL f l = ev f' x :: evL f' l
  rw [ev_agree h.1, evL_agree h.2]
theorem evO_agree {f f' : Fr} {o : Option Sx} (h : Agree (usO o) f f') : evO f o = evO f' o := by
 cases o with
 | none => rfl
 | some x =>
  show some (ev f x) = some (ev f' x)
  rw [ev_agree h]
theorem fillA_agree {f f' : Fr} : ∀ {l : List (Nat × Nat × Sx)}, Agree (usP l) f f' → fillA f l = fillA f' l
 | [], _ => rfl
 | x :: l, h => by
  have h := Agree.or (show Agree (Nat.lor x.2.2.us (usP l)) f f' from h)
  have h1 : ∀ f, fillA f (x :: l) = fun l2 => (ev f x.2.2).onCells (fun _ => none) fun vs => ifb (Nat.beq (lenA vs) x.2.1) (Option.rec (motive := fun _ => Option (List AV)) none (fillA f l) (overAt vs x.1 l2)) none := fun _ => rfl
  rw [h1, h1, ev_agree h.1, fillA_agree h.2]
theorem mmL_agree {f f' : Fr} {mx : Bool} : ∀ {l : List Sx}, Agree (usL l) f f' → mmL f mx l = mmL f' mx l
 | [], _ => rfl
 | x :: l, h => by
  have h := Agree.or (show Agree (Nat.lor x.us (usL l)) f f' from h)
  have h1 : ∀ f, mmL f mx (x :: l) = fun v => v.onInt Res.no fun k a => (ev f x).onInt Res.no fun _ b => mmL f mx l (.int k (mmA mx a b)) := fun _ => rfl
  rw [h1, h1, ev_agree h.1, mmL_agree h.2]
theorem xO_agree {o : CO} {f f' : Fr} (h : Agree o.us f f') (c : CallT) (hp : Hp) : xO o c f hp = xO o c f' hp := by
 cases o with
 | mv x => show xMv x c f hp = xMv x c f' hp; simp only [xMv]; rw [ev_agree h]
 | pick a b d =>
  obtain ⟨h1, h2⟩ := Agree.or h
  obtain ⟨h2, h3⟩ := h2.or
  show xPick a b d c f hp = xPick a b d c f' hp; simp only [xPick]; rw [ev_agree h1, ev_agree h2, ev_agree h3]
 | ld1 x => show xLd1 x c f hp = xLd1 x c f' hp; simp only [xLd1]; rw [ev_agree h]
 | ldn x n => show xLdn x n c f hp = xLdn x n c f' hp; simp only [xLdn]; rw [ev_agree h]
 | st x y n =>
  obtain ⟨h1, h2⟩ := Agree.or h
  show xSt x y n c f hp = xSt x y n c f' hp; simp only [xSt]; rw [ev_agree h1, ev_agree h2]
 | box x => show xBox x c f hp = xBox x c f' hp; simp only [xBox]; rw [ev_agree h]
 | alloc z => rfl
 | nilc x => show xNilc x c f hp = xNilc x c f' hp; simp only [xNilc]; rw [ev_agree h]
 | bin op x y =>
  obtain ⟨h1, h2⟩ := Agree.or h
  show xBin op x y c f hp = xBin op x y c f' hp; simp only [xBin]; rw [ev_agree h1, ev_agree h2]
 | shl x y =>
  obtain ⟨h1, h2⟩ := Agree.or h
  show xShl x y c f hp = xShl x y c f' hp; simp only [xShl]; rw [ev_agree h1, ev_agree h2]
 | shr x y =>
  obtain ⟨h1, h2⟩ := Agree.or h
  show xShr x y c f hp = xShr x y c f' hp; simp only [xShr]; rw [ev_agree h1, ev_agree h2]
 | eq n e x y =>
  obtain ⟨h1, h2⟩ := Agree.or h
  show xEq n e x y c f hp = xEq n e x y c f' hp; simp only [xEq]; rw [ev_agree h1, ev_agree h2]
 | neg x => show xNeg x c f hp = xNeg x c f' hp; simp only [xNeg]; rw [ev_agree h]
 | notb x => show xNot x c f hp = xNot x c f' hp; simp only [xNot]; rw [ev_agree h]
 | xorb x => show xXor x c f hp = xXor x c f' hp; simp only [xXor]; rw [ev_agree h]
 | cvInt k x => show xCvInt k x c f hp = xCvInt k x c f' hp; simp only [xCvInt]; rw [ev_agree h]
 | cvTo x => show xCvTo x c f hp = xCvTo x c f' hp; simp only [xCvTo]; rw [ev_agree h]
 | cvOf x => show xCvOf x c f hp = xCvOf x c f' hp; simp only [xCvOf]; rw [ev_agree h]
 | cvStr x => show xCvStr x c f hp = xCvStr x c f' hp; simp only [xCvStr]; rw [ev_agree h]
 | fa x o => show xFa x o c f hp = xFa x o c f' hp; simp only [xFa]; rw [ev_agree h]
 | fld x o s => show xFld x o s c f hp = xFld x o s c f' hp; simp only [xFld]; rw [ev_agree h]
 | ixaS x y n =>
  obtain ⟨h1, h2⟩ := Agree.or h
  show xIxaS x y n c f hp = xIxaS x y n c f' hp; simp only [xIxaS]; rw [ev_agree h1, ev_agree h2]
 | ixaA x y l n =>
  obtain ⟨h1, h2⟩ := Agree.or h
  show xIxaA x y l n c f hp = xIxaA x y l n c f' hp; simp only [xIxaA]; rw [ev_agree h1, ev_agree h2]
 | ixs x y =>
  obtain ⟨h1, h2⟩ := Agree.or h
  show xIxs x y c f hp = xIxs x y c f' hp; simp only [xIxs]; rw [ev_agree h1, ev_agree h2]
 | ixv x y l n s =>
  obtain ⟨h1, h2⟩ := Agree.or h
  show xIxv x y l n s c f hp = xIxv x y l n s c f' hp; simp only [xIxv]; rw [ev_agree h1, ev_agree h2]
 | slS x lo hi =>
  obtain ⟨h1, h2⟩ := Agree.or h
  obtain ⟨h2, h3⟩ := h2.or
  show xSlS x lo hi c f hp = xSlS x lo hi c f' hp; simp only [xSlS]; rw [ev_agree h1, evO_agree h2, evO_agree h3]
 | slL x lo hi mx n =>
  obtain ⟨h1, h2⟩ := Agree.or h
  obtain ⟨h2, h3⟩ := h2.or
  obtain ⟨h3, h4⟩ := h3.or
  show xSlL x lo hi mx n c f hp = xSlL x lo hi mx n c f' hp; simp only [xSlL]; rw [ev_agree h1, evO_agree h2, evO_agree h3, evO_agree h4]
 | slA x lo hi mx l n =>
  obtain ⟨h1, h2⟩ := Agree.or h
  obtain ⟨h2, h3⟩ := h2.or
  obtain ⟨h3, h4⟩ := h3.or
  show xSlA x lo hi mx l n c f hp = xSlA x lo hi mx l n c f' hp; simp only [xSlA]; rw [ev_agree h1, evO_agree h2, evO_agree h3, evO_agree h4]
 | build z ps => show xBuild z ps c f hp = xBuild z ps c f' hp; simp only [xBuild]; rw [fillA_agree h]
 | bsl n z ps => show xBsl n z ps c f hp = xBsl n z ps c f' hp; simp only [xBsl]; rw [fillA_agree h]
 | mks z b x y =>
  obtain ⟨h1, h2⟩ := Agree.or h
  show xMks z b x y c f hp = xMks z b x y c f' hp; simp only [xMks]; rw [ev_agree h1, ev_agree h2]
 | mkf g x y =>
  obtain ⟨h1, h2⟩ := Agree.or h
  show xMkf g x y c f hp = xMkf g x y c f' hp; simp only [xMkf]; rw [evL_agree h1, evL_agree h2]
 | mkm r => show xMkm r c f hp = xMkm r c f' hp; simp only [xMkm]; rw [evO_agree h]
 | lk kd z ok m k =>
  obtain ⟨h1, h2⟩ := Agree.or h
  show xLk kd z ok m k c f hp = xLk kd z ok m k c f' hp; simp only [xLk]; rw [ev_agree h1, ev_agree h2]
 | mu kd m k x =>
  obtain ⟨h1, h2⟩ := Agree.or h
  obtain ⟨h2, h3⟩ := h2.or
  show xMu kd m k x c f hp = xMu kd m k x c f' hp; simp only [xMu]; rw [ev_agree h1, ev_agree h2, ev_agree h3]
 | del kd m k =>
  obtain ⟨h1, h2⟩ := Agree.or h
  show xDel kd m k c f hp = xDel kd m k c f' hp; simp only [xDel]; rw [ev_agree h1, ev_agree h2]
 | rng x => show xRng x c f hp = xRng x c f' hp; simp only [xRng]; rw [ev_agree h]
 | nxt x => show xNxt x c f hp = xNxt x c f' hp; simp only [xNxt]; rw [ev_agree h]
 | ext x i => show xExt x i c f hp = xExt x i c f' hp; simp only [xExt]; rw [ev_agree h]
 | lenS x => show xLenS x c f hp = xLenS x c f' hp; simp only [xLenS]; rw [ev_agree h]
 | lenL x => show xLenL x c f hp = xLenL x c f' hp; simp only [xLenL]; rw [ev_agree h]
 | lenM x => show xLenM x c f hp = xLenM x c f' hp; simp only [xLenM]; rw [ev_agree h]
 | lenc n => rfl
 | capv x => show xCapv x c f hp = xCapv x c f' hp; simp only [xCapv]; rw [ev_agree h]
 | app s n b x y =>
  obtain ⟨h1, h2⟩ := Agree.or h
  show xApp s n b x y c f hp = xApp s n b x y c f' hp; simp only [xApp]; rw [ev_agree h1, ev_agree h2]
 | cpy s n x y =>
  obtain ⟨h1, h2⟩ := Agree.or h
  show xCpy s n x y c f hp = xCpy s n x y c f' hp; simp only [xCpy]; rw [ev_agree h1, ev_agree h2]
 | mm mx x l =>
  obtain ⟨h1, h2⟩ := Agree.or h
  show xMm mx x l c f hp = xMm mx x l c f' hp; simp only [xMm]; rw [ev_agree h1, mmL_agree h2]
 | ifc t x => show xIfc t x c f hp = xIfc t x c f' hp; simp only [xIfc]; rw [ev_agree h]
 | ta t ok x => show xTa t ok x c f hp = xTa t ok x c f' hp; simp only [xTa]; rw [ev_agree h]
 | call g l => show xCall g l c f hp = xCall g l c f' hp; simp only [xCall]; rw [evL_agree h]
 | calld x l =>
  obtain ⟨h1, h2⟩ := Agree.or h
  show xCalld x l c f hp = xCalld x l c f' hp; simp only [xCalld]; rw [ev_agree h1, evL_agree h2]
 | bad w => rfl
 | apz z n b x y =>
  obtain ⟨h1, h2⟩ := Agree.or h
  show xApz z n b x y c f hp = xApz z n b x y c f' hp; simp only [xApz]; rw [ev_agree h1, ev_agree h2]
 | clr z x => show xClr z x c f hp = xClr z x c f' hp; simp only [xClr]; rw [ev_agree h]
end Go.Ab
namespace Go.Ab
variable [Val]
open Go
noncomputable def R2.at (r : R2) (h : Hp) : R2 := R2.rec (motive := fun _ => R2) (fun v _ => .ok v h) R2.no r
section
variable {h2 : Hp}
theorem at_ok (v : AV) (h : Hp) : (R2.ok v h).at h2 = .ok v h2 := rfl
theorem at_no (w : String) : (R2.no w).at h2 = .no w := rfl
theorem at_onInt (v : AV) (no : String → R2) (k : IntKind → Int → R2) : (v.onInt no k).at h2 = v.onInt (fun w => (no w).at h2) (fun a b => (k a b).at h2) := by cases v <;> rfl
theorem at_onBool (v : AV) (no : String → R2) (k : Bool → R2) : (v.onBool no k).at h2 = v.onBool (fun w => (no w).at h2) (fun a => (k a).at h2) := by cases v <;> rfl
theorem at_onStr (v : AV) (no : String → R2) (k : Nat → Nat → R2) : (v.onStr no k).at h2 = v.onStr (fun w => (no w).at h2) (fun a b => (k a b).at h2) := by cases v <;> rfl
theorem at_onPtr (v : AV) (no : String → R2) (k : Nat → Nat → Nat → R2) : (v.onPtr no k).at h2 = v.onPtr (fun w => (no w).at h2) (fun a b c => (k a b c).at h2) := by cases v <;> rfl
theorem at_onAgg (v : AV) (no : String → R2) (k : List AV → R2) : (v.onAgg no k).at h2 = v.onAgg (fun w => (no w).at h2) (fun a => (k a).at h2) := by cases v <;> rfl
theorem at_onTup (v : AV) (no : String → R2) (k : List AV → R2) : (v.onTup no k).at h2 = v.onTup (fun w => (no w).at h2) (fun a => (k a).at h2) := by cases v <;> rfl
theorem at_onFn (v : AV) (no : String → R2) (k : Nat → List AV → List AV → R2) : (v.onFn no k).at h2 = v.onFn (fun w => (no w).at h2) (fun a b c => (k a b c).at h2) := by cases v <;> rfl
theorem at_onIfc (v : AV) (no : String → R2) (k : Nat → AV → R2) : (v.onIfc no k).at h2 = v.onIfc (fun w => (no w).at h2) (fun a b => (k a b).at h2) := by cases v <;> rfl
theorem at_onSl (v : AV) (no : String → R2) (nil : R2) (k : Nat → Nat → Nat → Nat → Nat → R2) : (v.onSl no nil k).at h2 = v.onSl (fun w => (no w).at h2) (nil.at h2) (fun a b c d e => (k a b c d e).at h2) := by
 cases v
 case nil t => show (Bool.rec (motive := fun _ => R2) (no "sl") nil (Nat.beq t 1)).at h2 = Bool.rec (motive := fun _ => R2) ((no "sl").at h2) (nil.at h2) (Nat.beq t 1); cases Nat.beq t 1 <;> rfl
 all_goals rfl
theorem at_onMap (v : AV) (no : String → R2) (nil : R2) (k : Nat → R2) : (v.onMap no nil k).at h2 = v.onMap (fun w => (no w).at h2) (nil.at h2) (fun a => (k a).at h2) := by
 cases v
 case nil t => show (Bool.rec (motive := fun _ => R2) (no "map") nil (Nat.beq t 2)).at h2 = Bool.rec (motive := fun _ => R2) ((no "map").at h2) (nil.at h2) (Nat.beq t 2); cases Nat.beq t 2 <;> rfl
 all_goals rfl
theorem at_ifb (c : Bool) (x y : R2) : (ifb c x y).at h2 = ifb c (x.at h2) (y.at h2) := by cases c <;> rfl
theorem at_nat? (i : Int) (no : R2) (k : Nat → R2) : (nat? i no k).at h2 = nat? i (no.at h2) (fun n => (k n).at h2) := by cases i <;> rfl
theorem at_opt {α : Type} (o : Option α) (no : R2) (k : α → R2) : (Option.rec (motive := fun _ => R2) no k o).at h2 = Option.rec (motive := fun _ => R2) (no.at h2) (fun a => (k a).at h2) o := by cases o <;> rfl
theorem at_bd2 {α : Type} (r : Res α) (k : α → R2) : (r.bd2 k).at h2 = r.bd2 (fun a => (k a).at h2) := by cases r <;> rfl
theorem at_val (r : Res AV) (h : Hp) : (r.val h).at h2 = r.val h2 := by cases r <;> rfl
theorem at_bound2 (x : Option AV) (m d : Nat) (k : Nat → R2) : (bound2 x m d k).at h2 = bound2 x m d (fun n => (k n).at h2) := by unfold bound2; exact at_opt _ _ _
theorem at_cut (h : Hp) (b g o m l c cap size : Nat) (mx : Option AV) : (cut h b g o m l c cap size mx).at h2 = cut h2 b g o m l c cap size mx := by
 cases mx with
 | some v => rfl
 | none =>
  unfold cut capKn
  simp only [at_ifb, at_ok, at_no]
theorem at_force (v : AV) (k : AV → R2) : (v.force k).at h2 = v.force (fun v => (k v).at h2) := by rw [force_eq, force_eq]
theorem at_bd {α : Type} (b : Bx α) (k : α → R2) : (b.bd k).at h2 = b.bd (fun v => (k v).at h2) := by cases b; rfl
theorem at_onMapH (h : Hp) (r : Nat) (no : R2) (k : Es → R2) : (h.onMap r no k).at h2 = h.onMap r (no.at h2) (fun es => (k es).at h2) := by
 unfold Hp.onMap
 cases h.get r with
 | none => rfl
 | some b => cases b <;> rfl
theorem at_lkIn (kd : Nat) (z : AV) (ok : Bool) (k : AV) (es : Es) (h : Hp) : (lkIn kd z ok k es h).at h2 = lkIn kd z ok k es h2 := by
 unfold lkIn
 simp only [at_ifb, at_opt, at_ok, at_no]
end
theorem xO_pure {o : CO} (hk : o.kd = 0) (c : CallT) (f : Fr) (h h2 : Hp) : xO o c f h2 = (xO o c f h).at h2 := by
 by_cases hta : ∃ t ok x, o = .ta t ok x
 · obtain ⟨t, ok, x, rfl⟩ := hta
   simp only [xO, xTa, at_onIfc, at_ifb, at_ok, at_no]
 cases o <;> first | exact absurd ⟨_, _, _, rfl⟩ hta | (have hk : (1 : Nat) = 0 := hk; cases hk; done) | (have hk : (2 : Nat) = 0 := hk; cases hk; done) | (have hk : (3 : Nat) = 0 := hk; cases hk; done) | skip
 all_goals first
  | rfl
  | (simp only [xO, xPick, xNilc, xBin, xShl, xShr, xNeg, xNot, xXor, xCvInt, xCvStr, xFa, xFld, xIxaS, xIxaA, xIxs, xIxv, xSlS, xSlA, xBuild, xExt, xLenS, xLenL, xCapv, xMm, xIfc,
   at_onInt, at_onBool, at_onStr, at_onPtr, at_onAgg, at_onTup, at_onFn, at_onSl, at_ifb, at_nat?, at_opt, at_val, at_bound2, at_ok, at_no, at_force]; done)
  | (simp only [xO, xMv, xPick, xNilc, xBin, xShl, xShr, xNeg, xNot, xXor, xCvInt, xCvStr, xFa, xFld, xIxaS, xIxaA, xIxs, xIxv, xSlS, xSlA, xBuild, xMkf, xExt, xLenS, xLenL, xLenc, xCapv, xMm, xIfc,
   at_onInt, at_onBool, at_onStr, at_onPtr, at_onAgg, at_onTup, at_onFn, at_onSl, at_onMap, at_ifb, at_nat?, at_opt, at_bd2, at_val, at_bound2, at_ok, at_no, at_force, at_bd]; rfl)
theorem xO_read {o : CO} (hk : o.kd = 1) (c : CallT) (f : Fr) (h : Hp) : (xO o c f h).at h = xO o c f h := by
 cases o <;> first | (have hk : (0 : Nat) = 1 := hk; cases hk; done) | (have hk : (2 : Nat) = 1 := hk; cases hk; done) | (have hk : (3 : Nat) = 1 := hk; cases hk; done) | skip
 all_goals first
  | rfl
  | (simp only [xO, xLd1, xLdn, xEq, xCvOf, xSlL, xLk, xLenM,
   at_onPtr, at_onSl, at_onMap, at_opt, at_bd2, at_val, at_bound2, at_ok, at_no, at_cut, at_onMapH, at_lkIn]; done)
  | (simp only [xO, xLd1, xLdn, xEq, xCvOf, xSlL, xLk, xLenM,
   at_onInt, at_onBool, at_onStr, at_onPtr, at_onAgg, at_onTup, at_onFn, at_onSl, at_onMap, at_ifb, at_nat?, at_opt, at_bd2, at_val, at_bound2, at_ok, at_no, at_force, at_bd, at_cut, at_onMapH, at_lkIn]; rfl)
theorem at_eq {r : R2} {h' h2 : Hp} {v : AV} (h1 : r = r.at h2) (h3 : r = .ok v h') : h' = h2 := by
 rw [h3] at h1; cases h1; rfl
end Go.Ab
namespace Go.Ab
variable [Val]
open Go
variable {C : Cx} {ds : List Deferred}
structure Made (e : Emb) (h : Hp) (w : World) (v : AV) (h' : Hp) (B : Blk) (ob : Obj) (sz : Nat) (v' : Value) (w' : World) : Prop where
 heap : w'.heap = w.heap.push ob
 os : w'.os = w.os
 output : w'.output = w.output
 ours : h' = ⟨setT B (path h.n) h.t, h.n + 1, h.lk⟩
 br : ∀ e' : Emb, e.le e' → BR e' B 0 ⟨w.heap.size, 0, 0, sz⟩ (some ob)
 vr : ∀ e' : Emb, e.le e' → e' h.n 0 = some ⟨w.heap.size, 0, 0, sz⟩ → VR e' v v'
def MakeOK (C : Cx) (o : Oper) : Prop := ∀ (c : CallT) f h v h' e a w, xO (mk C o) c f h = .ok v h' → GR C e → FR e f a →
 ∃ v' w', (execOp a.eval o).run C.P w = .ok (.value v') w' ∧ ∃ B ob sz, Made e h w v h' B ob sz v' w'
theorem flat_BR {e : Emb} {r : Nat} {l : List AV} {l' rest : List Value} (hv : VRL e l l') (hc : ∀ u ∈ l, u.isCell = true) (t : TypeId) (fz : Nat) (fr : Nat × Nat)
 (h2 : ∀ i, i < l'.length + rest.length → ¬ (fr.1 ≤ i ∧ i < fr.2)) (h0 : okEq fz = true → ∀ i, ¬ (fr.1 ≤ i ∧ i < fr.2)) :
 ∀ e' : Emb, e.le e' → BR e' (.flat l fz) 0 ⟨r, 0, 0, l'.length + rest.length⟩ (some (.cells (l' ++ rest).toArray t fr)) := by
 intro e' hle
 refine .cells _ t fr ⟨trivial, Nat.le_refl _, by simp, Nat.le_refl _, ?_, ?_, ?_, h0⟩
 · show lenA l ≤ 0 + _
   have := hv.length
   simp; omega
 · intro i v _ hi
   have hi : l[i]? = some v := by
    have : nthA l i = some v := hi
    simpa using this
   obtain ⟨v', h1, h2⟩ := hv.get hi
   refine ⟨hc v (List.mem_of_getElem? hi), v', ?_, h2.mono hle⟩
   have : i < l'.length := (List.getElem?_eq_some_iff.1 h1).1
   simp [List.getElem?_append_left this, h1]
 · intro _ i hi; exact h2 i (by simpa using hi)
theorem flat_BR0 {e : Emb} {r : Nat} {l : List AV} {l' : List Value} (hv : VRL e l l') (hc : ∀ u ∈ l, u.isCell = true) (t : TypeId) :
 ∀ e' : Emb, e.le e' → BR e' (.flat l 0) 0 ⟨r, 0, 0, l'.length⟩ (some (.cells l'.toArray t (0, 0))) := by
 have := flat_BR (r := r) hv hc (rest := []) t 0 (0, 0) (fun i _ => by simp) (fun _ i => by simp)
 simpa using this
theorem made_flat {e : Emb} {h : Hp} {w : World} {l : List AV} {l' : List Value} (hv : VRL e l l') (hc : ∀ u ∈ l, u.isCell = true) (t : TypeId) {v : AV} {v' : Value} (hvr : ∀ e' : Emb, e' h.n 0 = some ⟨w.heap.size, 0, 0, l'.length⟩ → VR e' v v') :
 Made e h w v ⟨setT (.flat l 0) (path h.n) h.t, h.n + 1, h.lk⟩ (.flat l 0) (.cells l'.toArray t) l'.length v' (w.alloc (.cells l'.toArray t)) :=
 ⟨rfl, rfl, rfl, rfl, flat_BR0 hv hc t, fun e' _ hn => hvr e' hn⟩
theorem make_box {o : Oper} {t : TypeId} {x : Operand} (ho : o.op = .box t x) : MakeOK C o := by
 intro c f h v h' e a wd hx hg hf
 simp only [mk, ho] at hx
 cases hs : sx C x with
 | none => rw [hs] at hx; exact (no_ok (w := "box") hx).elim
 | some s =>
  rw [hs] at hx
  have hx : (ev f s).onCells R2.no (fun vs => R2.new h (.flat vs 0) fun n => .ptr n 0 0) = .ok v h' := hx
  rcases (sx_VR hg hf hs).cells (no := R2.no) (k := fun vs => R2.new h (.flat vs 0) fun n => .ptr n 0 0) with ⟨vs, j1, j2, j3⟩ | ⟨q, j1⟩
  · rw [j1] at hx
    obtain ⟨rfl, rfl⟩ := R2.new_ok hx
    refine ⟨.pointer (some ⟨wd.heap.size, 0, none⟩), _, ?_, _, _, _, made_flat j2 j3 t fun e' n1 => .ptr h.n 0 0 _ n1 (Nat.le_refl _) (Nat.le_refl _)⟩
    simp [execOp, ho, Instr.box, newVar, newRow]
  · rw [j1] at hx; exact (no_ok hx).elim
theorem make_alloc {o : Oper} {t : TypeId} (ho : o.op = .alloc t) : MakeOK C o := by
 intro c f h v h' e a wd hx hg hf
 simp only [mk, ho] at hx
 cases hs : zeroOf C t with
 | none => rw [hs] at hx; exact (no_ok (w := "alloc") hx).elim
 | some z =>
  rw [hs] at hx
  have hx : (forceL z.cells).bd (fun z => R2.new h (.flat z 0) fun n => .ptr n 0 0) = .ok v h' := hx
  rw [forceL_eq, Bx.bd_mk] at hx
  obtain ⟨rfl, rfl⟩ := R2.new_ok hx
  obtain ⟨i, u, i1, i2, i3, i4⟩ := zeroOf_spec hs
  obtain ⟨j2, j3⟩ := zero_cells (conv_VR e u z i3) i4
  refine ⟨.pointer (some ⟨wd.heap.size, 0, none⟩), _, ?_, _, _, _, made_flat j2 j3 t fun e' n1 => .ptr h.n 0 0 _ n1 (Nat.le_refl _) (Nat.le_refl _)⟩
  simp [execOp, ho, Instr.alloc, newVar, newRow, run_zero i1 i2]
theorem make_buildSlice {o : Oper} {t : TypeId} {n : Nat} {ps : Array (Nat × Operand)} (ho : o.op = .buildSlice t n ps) : MakeOK C o := by
 intro c f h v h' e a wd hx hg hf
 simp only [mk, ho] at hx
 cases hu : C.P.underlying t with
 | none => rw [hu] at hx; exact (no_ok (w := "buildSlice") hx).elim
 | some d =>
  rw [hu] at hx
  cases d <;> try exact (no_ok (w := "buildSlice") hx).elim
  case slice el =>
   simp only at hx
   cases hsz : szOf C el with
   | none => rw [hsz] at hx; exact (no_ok (w := "buildSlice") hx).elim
   | some k0 => cases hz : zeroOf C el with
    | none => rw [hsz, hz] at hx; cases k0 <;> exact (no_ok (w := "buildSlice") hx).elim
    | some z => cases k0 with
     | zero => rw [hsz, hz] at hx; exact (no_ok (w := "buildSlice") hx).elim
     | succ k =>
      rw [hsz, hz] at hx
      simp only at hx
      by_cases hc : n * (k + 1) ≤ 65536 ∧ z.cells.length = k + 1
      · rw [if_pos hc] at hx
        obtain ⟨zi, zv, i1, i2, i3, i4⟩ := zeroOf_spec hz
        obtain ⟨ie, e1, e2⟩ := szOf_spec hsz
        rw [i1] at e1; cases e1
        cases hp : partsOf C (fun i => some (i * (k + 1), k + 1)) ps.toList with
        | none => rw [hp] at hx; exact (no_ok (w := "buildSlice") hx).elim
        | some cps =>
         rw [hp] at hx
         have hx : Option.rec (motive := fun _ => R2) (.no "buildSlice") (fun l => R2.new h (.flat l 0) fun m => .sl m 0 0 n (Nat.succ (Nat.mul 2 n))) ((forceL (zerosA n z.cells)).bd fun z => fillA f cps z) = .ok v h' := hx
         rw [forceL_eq, Bx.bd_mk] at hx
         cases hfl : fillA f cps (zerosA n z.cells) with
         | none => rw [hfl] at hx; exact (no_ok hx).elim
         | some r =>
          rw [hfl] at hx
          obtain ⟨rfl, rfl⟩ := R2.new_ok hx
          obtain ⟨j2, j3⟩ := zero_cells (conv_VR e zv z i3) i4
          have hzs : zv.cells.size = k + 1 := by have := j2.length; simp at this; omega
          obtain ⟨cs', g1, g2, g3, g4⟩ := fill_sim hg hf (fun i => some (i * (k + 1), k + 1)) ps.toList cps _ r (copies n zv.cells.toList).toArray hp hfl (by simpa using copies_VRL j2 n) (zerosA_cell j3 n)
          have hmade := made_flat (h := h) (w := wd) (v := .sl h.n 0 0 n (Nat.succ (Nat.mul 2 n))) (v' := .slice (some ⟨wd.heap.size, 0, none⟩) n n) g2 g3 el fun e' n1 => new_sl n1 (Nat.le_refl _)
          refine ⟨.slice (some ⟨wd.heap.size, 0, none⟩) n n, wd.alloc (.cells cs' el), ?_, .flat r 0, .cells cs' el, cs'.toList.length, by simpa using hmade⟩
          simp only [execOp, ho, Sem.run_bind]
          rw [run_buildSl (cs := cs') hu i1 i2 (by rw [hzs, e2]) (by rw [e2]; exact hc.1) (by rw [e2, mapParts]; exact g1)]
          rfl
      · rw [if_neg hc] at hx; exact (no_ok (w := "buildSlice") hx).elim
theorem make_makeSlice {o : Oper} {t : TypeId} {x y : Operand} (ho : o.op = .makeSlice t x y) : MakeOK C o := by
 intro c f h v h' e a wd hx hg hf
 simp only [mk, ho] at hx
 cases hu : C.P.underlying t with
 | none => rw [hu] at hx; exact (no_ok (w := "makeSlice") hx).elim
 | some d => cases ha : sx C x with
  | none => rw [hu, ha] at hx; cases d <;> exact (no_ok (w := "makeSlice") hx).elim
  | some sa => cases hb : sx C y with
   | none => rw [hu, ha, hb] at hx; cases d <;> exact (no_ok (w := "makeSlice") hx).elim
   | some sb =>
    rw [hu, ha, hb] at hx
    cases d <;> try exact (no_ok (w := "makeSlice") hx).elim
    case slice el =>
     simp only at hx
     cases hi : C.P.info? el with
     | none => rw [hi] at hx; exact (no_ok (w := "makeSlice") hx).elim
     | some i => cases hz : zeroOf C el with
      | none => rw [hi, hz] at hx; exact (no_ok (w := "makeSlice") hx).elim
      | some z =>
       rw [hi, hz] at hx
       simp only at hx
       by_cases hc : i.size ≠ 0 ∧ z.cells.length = i.size
       · rw [if_pos hc] at hx
         obtain ⟨zi, zv, i1, i2, i3, i4⟩ := zeroOf_spec hz
         rw [hi] at i1; cases i1
         have hx : xMks z.cells i.bytes sa sb c f h = .ok v h' := hx
         unfold xMks at hx
         rcases (sx_VR hg hf ha).onInt (no := R2.no) (k := fun _ l => (ev f sb).onInt R2.no fun _ c => nat? l (.no "makeSlice") fun l => nat? c (.no "makeSlice") fun c =>
          ifb (and (Nat.ble l c) (Nat.ble (Nat.mul (Nat.succ i.bytes) (Nat.succ c)) maxMem)) ((zerosR c z.cells).bd fun vs => R2.new h (.flat vs 0) fun n => .sl n 0 0 l (Nat.succ (Nat.mul 2 c))) (.no "makeSlice: size")) with ⟨k1, l, _, l1, l2⟩ | ⟨q, l2⟩
         · rw [l2] at hx
           rcases (sx_VR hg hf hb).onInt (no := R2.no) (k := fun _ c => nat? l (.no "makeSlice") fun l => nat? c (.no "makeSlice") fun c =>
            ifb (and (Nat.ble l c) (Nat.ble (Nat.mul (Nat.succ i.bytes) (Nat.succ c)) maxMem)) ((zerosR c z.cells).bd fun vs => R2.new h (.flat vs 0) fun n => .sl n 0 0 l (Nat.succ (Nat.mul 2 c))) (.no "makeSlice: size")) with ⟨k2, m, _, m1, m2⟩ | ⟨q, m2⟩
           · rw [m2] at hx
             rcases nat?_cases l (R2.no "makeSlice") (fun l => nat? m (.no "makeSlice") fun c =>
              ifb (and (Nat.ble l c) (Nat.ble (Nat.mul (Nat.succ i.bytes) (Nat.succ c)) maxMem)) ((zerosR c z.cells).bd fun vs => R2.new h (.flat vs 0) fun n => .sl n 0 0 l (Nat.succ (Nat.mul 2 c))) (.no "makeSlice: size")) with ⟨l', rfl, l3⟩ | l3
             · rw [l3] at hx
               rcases nat?_cases m (R2.no "makeSlice") (fun c =>
                ifb (and (Nat.ble l' c) (Nat.ble (Nat.mul (Nat.succ i.bytes) (Nat.succ c)) maxMem)) ((zerosR c z.cells).bd fun vs => R2.new h (.flat vs 0) fun n => .sl n 0 0 l' (Nat.succ (Nat.mul 2 c))) (.no "makeSlice: size")) with ⟨m', rfl, m3⟩ | m3
               · rw [m3, zerosR_eq, Bx.bd_mk] at hx
                 cases hb1 : Nat.ble l' m' with
                 | false => rw [hb1] at hx; exact (no_ok hx).elim
                 | true => cases hb2 : Nat.ble (Nat.mul (Nat.succ i.bytes) (Nat.succ m')) maxMem with
                  | false => rw [hb1, hb2] at hx; exact (no_ok hx).elim
                  | true =>
                   rw [hb1, hb2] at hx
                   have hx : R2.new h (.flat (zerosA m' z.cells) 0) (fun n => .sl n 0 0 l' (Nat.succ (Nat.mul 2 m'))) = .ok v h' := hx
                   obtain ⟨rfl, rfl⟩ := R2.new_ok hx
                   obtain ⟨j2, j3⟩ := zero_cells (conv_VR e zv z i3) i4
                   have hzs : zv.cells.size = i.size := by have := j2.length; simp at this; omega
                   refine ⟨.slice (some ⟨wd.heap.size, 0, none⟩) l' m', _, ?_, _, _, _, made_flat (copies_VRL j2 m') (zerosA_cell j3 m') el fun e' n1 => new_sl n1 (ble_iff.1 hb1)⟩
                   simp only [execOp, ho, Sem.run_bind, l1, m1]
                   rw [run_makeSl hu hi i2 hzs (ble_iff.1 hb1) (ble_iff.1 hb2)]
                   rfl
               · rw [m3] at hx; exact (no_ok hx).elim
             · rw [l3] at hx; exact (no_ok hx).elim
           · rw [m2] at hx; exact (no_ok hx).elim
         · rw [l2] at hx; exact (no_ok hx).elim
       · rw [if_neg hc] at hx; exact (no_ok (w := "makeSlice") hx).elim
theorem make_makeMap {o : Oper} {t : TypeId} {r : Option Operand} (ho : o.op = .makeMap t r) : MakeOK C o := by
 intro c f h v h' e a wd hx hg hf
 simp only [mk, ho] at hx
 obtain ⟨co, h1, hx⟩ := orBad_ok hx
 cases hu : C.P.underlying t with
 | none => rw [hu] at h1; cases h1
 | some d =>
  rw [hu] at h1
  cases d <;> try (cases h1; done)
  case map kt el =>
   obtain ⟨s, hs, rfl⟩ := map_ok h1
   have hro := sxO_VR hg hf hs
   have hx : Option.rec (motive := fun _ => R2) (R2.new h (.map []) .map) (fun v => v.onInt R2.no fun _ _ => R2.new h (.map []) .map) (evO f s) = .ok v h' := hx
   have fin : R2.new h (.map []) .map = .ok v h' → (Instr.makeMap t (r.map a.eval)).run C.P wd = .ok (.map (some wd.heap.size)) (wd.alloc (.map #[] 0)) → ∃ v' w', (execOp a.eval o).run C.P wd = .ok (.value v') w' ∧ ∃ B ob sz, Made e h wd v h' B ob sz v' w' := by
    intro hx hrun
    obtain ⟨rfl, rfl⟩ := R2.new_ok hx
    refine ⟨.map (some wd.heap.size), wd.alloc (.map #[] 0), ?_, .map [], .map #[] 0, 0, rfl, rfl, rfl, rfl, (fun e' _ => .map [] #[] 0 [] rfl rfl .nil (by simp) .nil .nil (Nat.le_refl _)), fun e' _ n1 => .map h.n _ n1 (Nat.le_refl _)⟩
    simp [execOp, ho, hrun]
   generalize hev : evO f s = ov at hro hx
   generalize hrr : r.map a.eval = rv at hro fin
   cases hro with
   | none => exact fin hx (by simp [Instr.makeMap])
   | some u u' hvr =>
    have hx : u.onInt R2.no (fun _ _ => R2.new h (.map []) .map) = .ok v h' := hx
    obtain ⟨k, j, j1, hx⟩ := hvr.intR hx
    exact fin hx (by simp [Instr.makeMap, run_und hu, j1, asInt, asIntOf])
theorem make_range {o : Oper} {t : TypeId} {x : Operand} (ho : o.op = .range t x) : MakeOK C o := by
 intro c f h v h' e a wd hx hg hf
 simp only [mk, ho] at hx
 obtain ⟨co, h1, hx⟩ := orBad_ok hx
 cases ht : isStrT C t with
 | false => rw [ht] at h1; cases h1
 | true => cases hs : sx C x with
  | none => rw [ht, hs] at h1; cases h1
  | some s =>
   rw [ht, hs] at h1
   cases h1
   have hu := isStrT_spec ht
   have hx : (ev f s).onStr R2.no (fun n a => R2.new h (.sit n a 0) fun m => .ptr m 0 0) = .ok v h' := hx
   obtain ⟨s0, s1, hx⟩ := (sx_VR hg hf hs).strR hx
   obtain ⟨rfl, rfl⟩ := R2.new_ok hx
   refine ⟨.pointer (some ⟨wd.heap.size, 0, none⟩), wd.alloc (.stringIter s0 0), ?_, .sit s0.size (packB s0.data.toList) 0, .stringIter s0 0, 0, rfl, rfl, rfl, rfl, (fun e' _ => .sit s0 0 rfl rfl (Nat.le_refl _)), fun e' _ n1 => .ptr h.n 0 0 _ n1 (Nat.le_refl _) (Nat.le_refl _)⟩
   simp [execOp, ho, Instr.range, run_und hu, s1]
theorem make_convert {o : Oper} {s d : TypeId} {x : Operand} (ho : o.op = .convert s d x) (hkd : (mk C o).kd = 2) : MakeOK C o := by
 intro c f h v h' e a wd hx hg hf
 simp only [mk, ho] at hx hkd
 obtain ⟨co, h1, hx⟩ := orBad_ok hx
 rw [h1] at hkd
 have hkd : co.kd = 2 := hkd
 cases hs : sx C x with
 | none => rw [hs] at h1; cases h1
 | some sa =>
  rw [hs] at h1
  have h1 : mkConvert C s d sa = some co := h1
  unfold mkConvert at h1
  cases hus : C.P.underlying s with
  | none => rw [hus] at h1; cases h1
  | some ds => cases hud : C.P.underlying d with
   | none => rw [hus, hud] at h1; cases ds <;> cases h1
   | some dd =>
    rw [hus, hud] at h1
    have hv := sx_VR hg hf hs
    cases ds <;> try (cases h1; done)
    case int k0 =>
     cases dd <;> try (cases h1; done)
     case int k => cases h1; have hkd : (0 : Nat) = 2 := hkd; cases hkd
     case string => cases h1; have hkd : (0 : Nat) = 2 := hkd; cases hkd
    case slice el =>
     cases dd <;> try (cases h1; done)
     case string =>
      simp only at h1
      cases hue : C.P.underlying el with
      | none => rw [hue] at h1; cases h1
      | some de =>
       rw [hue] at h1
       cases de <;> try (cases h1; done)
       case int ik =>
        cases ik <;> try (cases h1; done)
        cases h1; have hkd : (1 : Nat) = 2 := hkd; cases hkd
    case string =>
     cases dd <;> try (cases h1; done)
     case string => cases h1; have hkd : (0 : Nat) = 2 := hkd; cases hkd
     case slice el =>
      simp only at h1
      cases hue : C.P.underlying el with
      | none => rw [hue] at h1; cases h1
      | some de =>
       rw [hue] at h1
       cases de <;> try (cases h1; done)
       case int ik =>
        cases ik <;> try (cases h1; done)
        cases h1
        have hx : (ev f sa).onStr R2.no (fun n a => (bytesA n a).bd fun l => R2.new h (.flat l 1) fun m => .sl m 0 0 n 2) = .ok v h' := hx
        obtain ⟨s0, s1, hx⟩ := hv.strR hx
        rw [bytesA_eq _ _ (by rw [size_list]; exact Nat.le_refl _), Bx.bd_mk, List.take_of_length_le (by rw [← size_list]; exact Nat.le_refl _)] at hx
        obtain ⟨rfl, rfl⟩ := R2.new_ok hx
        let cap := grownCap wd s0.size 0 el
        have hcap : s0.size ≤ cap := grownCap_ge wd s0.size 0 el
        have hsz : (s0.data.toList.map fun b => Value.int .u8 b.toNat).length = s0.size := by rw [List.length_map, ← size_list]
        have hbr := flat_BR (r := wd.heap.size) (u8_VRL e s0.data.toList) (by intro u hu; obtain ⟨_, _, rfl⟩ := List.mem_map.1 hu; rfl) (rest := List.replicate (cap - s0.size) (.int .u8 0)) el 1 (cap, cap + 1)
         (fun i hi => by rw [hsz, List.length_replicate] at hi; show ¬ (cap ≤ i ∧ _); omega) (fun hh => by cases hh)
        refine ⟨.slice (some ⟨wd.heap.size, 0, none⟩) s0.size cap,
         wd.drew.alloc (.cells ((s0.data.toList.map fun b => Value.int .u8 b.toNat) ++ List.replicate (cap - s0.size) (Value.int .u8 0)).toArray el (cap, cap + 1)), ?_, _, _, _, rfl, rfl, rfl, rfl, hbr, fun e' _ n1 => ?_⟩
        · have hc : (s0.data.map fun b => Value.int .u8 b.toNat) ++ Array.replicate (cap - s0.size) (Value.int .u8 0) = ((s0.data.toList.map fun b => Value.int .u8 b.toNat) ++ List.replicate (cap - s0.size) (Value.int .u8 0)).toArray := by
           apply Array.toList_inj.1; simp
          have hcs : ((s0.data.toList.map fun b => Value.int .u8 b.toNat) ++ List.replicate (cap - s0.size) (Value.int .u8 0)).toArray.size = cap := by
           rw [List.size_toArray, List.length_append, hsz, List.length_replicate]; omega
          have hfz := freeze_new wd.drew ((s0.data.toList.map fun b => Value.int .u8 b.toNat) ++ List.replicate (cap - s0.size) (Value.int .u8 0)).toArray el
          rw [hcs] at hfz
          have hsh : (wd.drew.alloc (.cells ((s0.data.toList.map fun b => Value.int .u8 b.toNat) ++ List.replicate (cap - s0.size) (Value.int .u8 0)).toArray el)).shape? wd.heap.size = some (el, cap) := by
           simp only [World.shape?]
           rw [show wd.heap.size = wd.drew.heap.size from rfl, heap_alloc_new]
           simp only [hcs]
          have h1 : (convert s d (.string s0)).run C.P wd = (Conv.stringToBytes el s0).run C.P wd := by
           simp [convert, run_und hus, run_und hud, run_und hue]
          have h2 : (Conv.stringToBytes el s0).run C.P wd = .ok (.slice (some ⟨wd.heap.size, 0, none⟩) s0.size cap) (wd.drew.alloc (.cells ((s0.data.toList.map fun b => Value.int .u8 b.toNat) ++ List.replicate (cap - s0.size) (Value.int .u8 0)).toArray el (cap, cap + 1))) := by
           simp only [Conv.stringToBytes, Sem.run_bind, run_choose, Question.forced, Bool.false_eq_true, if_false, Result.andThen_ok]
           have hq : (Question.appendCap s0.size 0 el).cut (wd.tape wd.drawn (.appendCap s0.size 0 el)) = cap := rfl
           rw [hq, hc]
           simp only [newRow, Sem.run_bind, run_newObj, Result.andThen_ok, Sem.run_pure, World.drew_eq, World.alloc_eq, markStringish, run_shape]
           rw [show wd.drew.heap.size = wd.heap.size from rfl, hsh]
           simp only [run_freeze, Result.andThen_ok]
           rw [show (⟨wd.heap.size, cap, none⟩ : Addr) = ⟨wd.drew.heap.size, cap, none⟩ from rfl, hfz]
          simp only [execOp, ho, s1, Sem.run_bind, h1, h2]
          rfl
        · exact .sl h.n 0 0 s0.size 2 cap _ n1 (Nat.le_refl _) (Nat.le_refl _) hcap (fun hh => by omega) (fun _ => by
           show 0 - 0 + cap * (2 / 2) = (s0.data.toList.map fun b => Value.int .u8 b.toNat).length + (List.replicate (cap - s0.size) (Value.int .u8 0)).length
           rw [hsz, List.length_replicate]; omega)
theorem make_all {o : Oper} (hm : isMkOp o = true) (hkd : (mk C o).kd = 2) : MakeOK C o := by
 unfold isMkOp at hm
 cases ho : o.op <;> rw [ho] at hm <;> try (cases hm; done)
 case alloc t => exact make_alloc ho
 case box t x => exact make_box ho
 case buildSlice t n ps => exact make_buildSlice ho
 case makeMap t r => exact make_makeMap ho
 case makeSlice t l c => exact make_makeSlice ho
 case range t x => exact make_range ho
 case convert s d x => exact make_convert ho hkd
end Go.Ab
namespace Go.Ab
variable [Val]
open Go
noncomputable def stepS (s : CS) (c : CallT) (f : Fr) (h : Hp) : R2 := ifb (okG s.g f) (ifb (wantG s.g f) (xO s.o c f h) (.ok undefA h)) (.no "guard")
theorem oneS_once {s : CS} (hs : s.again = false) (rest : Rg) (c : CallT) (f : Fr) (h : Hp) : oneS s rest c f h = (stepS s c f h).bd Out.no fun v h => rest c (putD s.d v f).out h := by
 have hdone : ∀ (v : AV) (h : Hp), doneS s rest c f v h = rest c (putD s.d v f).out h := by
  intro v h
  show v.force (fun v => ifb s.again (ifb (slotIs s.d v f) (rest c f h) (.no "not the same once more")) ((putD s.d v f).bd fun f => rest c f h)) = _
  rw [force_eq, hs, ifb_false, putD_mk]; rfl
 show ifb (okG s.g f) (ifb (wantG s.g f) ((xO s.o c f h).bd Out.no (doneS s rest c f)) (doneS s rest c f undefA h)) (.no "guard") = _
 unfold stepS
 cases okG s.g f with
 | false => rfl
 | true =>
 rw [ifb_true, ifb_true]
 cases wantG s.g f with
 | false => rw [ifb_false, ifb_false, hdone]; rfl
 | true =>
  rw [ifb_true, ifb_true]
  cases xO s.o c f h with
  | no w => rfl
  | ok v h2 => exact hdone v h2
theorem oneS_again {s : CS} (hs : s.again = true) (rest : Rg) (c : CallT) (f : Fr) (h : Hp) : oneS s rest c f h = (stepS s c f h).bd Out.no fun v h => ifb (slotIs s.d v f) (rest c f h) (.no "not the same once more") := by
 have hdone : ∀ (v : AV) (h : Hp), doneS s rest c f v h = ifb (slotIs s.d v f) (rest c f h) (.no "not the same once more") := by
  intro v h
  show v.force (fun v => ifb s.again (ifb (slotIs s.d v f) (rest c f h) (.no "not the same once more")) ((putD s.d v f).bd fun f => rest c f h)) = _
  rw [force_eq, hs, ifb_true]
 show ifb (okG s.g f) (ifb (wantG s.g f) ((xO s.o c f h).bd Out.no (doneS s rest c f)) (doneS s rest c f undefA h)) (.no "guard") = _
 unfold stepS
 cases okG s.g f with
 | false => rfl
 | true =>
 rw [ifb_true, ifb_true]
 cases wantG s.g f with
 | false => rw [ifb_false, ifb_false, hdone]; rfl
 | true =>
  rw [ifb_true, ifb_true]
  cases xO s.o c f h with
  | no w => rfl
  | ok v h2 => exact hdone v h2
theorem wantG_slot (p : List Bool) (want : Bool) (f : Fr) : wantG (some (p, want)) f = (slot f (unpath p)).onBool (fun _ => false) (fun b => ifb want b (not b)) := by
 rw [slot_eq, path_unpath]
 show Option.rec (motive := fun _ => Bool) false (fun v => v.onBool (fun _ => false) fun b => ifb want b (not b)) (getP p f) = _
 cases getP p f <;> rfl
theorem okG_slot (p : List Bool) (want : Bool) (f : Fr) : okG (some (p, want)) f = not (slot f (unpath p)).isNilv := by
 rw [slot_eq, path_unpath]
 show Option.rec (motive := fun _ => Bool) true (fun v => not v.isNilv) (getP p f) = _
 cases getP p f <;> rfl
theorem stepS_agree {s : CS} {f f' : Fr} (h : Agree s.us f f') (c : CallT) (hp : Hp) : stepS s c f hp = stepS s c f' hp := by
 obtain ⟨h1, h2⟩ := Agree.or h
 have hw : wantG s.g f = wantG s.g f' := by
  cases hg : s.g with
  | none => rfl
  | some q =>
   obtain ⟨p, want⟩ := q
   rw [wantG_slot, wantG_slot]
   rw [hg] at h2
   rw [h2 (unpath p) (by show (2 ^ unpath p).testBit (unpath p) = true; exact Nat.testBit_two_pow_self)]
 have hw2 : okG s.g f = okG s.g f' := by
  cases hg : s.g with
  | none => rfl
  | some q =>
   obtain ⟨p, want⟩ := q
   rw [okG_slot, okG_slot]
   rw [hg] at h2
   rw [h2 (unpath p) (by show (2 ^ unpath p).testBit (unpath p) = true; exact Nat.testBit_two_pow_self)]
 unfold stepS
 rw [hw, hw2, xO_agree h1]
theorem stepS_pure {s : CS} (hk : s.o.kd = 0) (c : CallT) (f : Fr) (h h2 : Hp) : stepS s c f h2 = (stepS s c f h).at h2 := by
 unfold stepS
 rw [at_ifb, at_ifb, at_ok, at_no, xO_pure hk c f h h2]
theorem stepS_read {s : CS} (hk : s.o.kd = 1) (c : CallT) (f : Fr) (h : Hp) : (stepS s c f h).at h = stepS s c f h := by
 unfold stepS
 rw [at_ifb, at_ifb, at_ok, at_no, xO_read hk]
theorem avEqL_nil {l : List AV} (h : avEqL [] l = true) : l = [] := by cases l <;> first | rfl | cases h
mutual
theorem avEq_eq : ∀ {u v : AV}, avEq u v = true → u = v
 | .int j a, v, h => by
  cases v <;> try (cases h; done)
  case int k b =>
   have h : and (sameK j k) (eqA a b) = true := h
   cases h1 : sameK j k with
   | false => rw [h1] at h; cases h
   | true => rw [h1] at h; have h : eqA a b = true := h; rw [eqA_eq] at h; rw [sameK_eq h1, eq_of_beq h]
 | .bool a, v, h => by
  cases v <;> try (cases h; done)
  case bool b => have h : ifb a b (not b) = true := h; cases a <;> cases b <;> first | rfl | cases h
 | .str n a, v, h => by
  cases v <;> try (cases h; done)
  case str m b =>
   have h : and (Nat.beq n m) (Nat.beq a b) = true := h
   cases h1 : Nat.beq n m with
   | false => rw [h1] at h; cases h
   | true => rw [h1] at h; rw [beq_iff.1 h1, beq_iff.1 (show Nat.beq a b = true from h)]
 | .ptr a b c, v, h => by
  cases v <;> try (cases h; done)
  case ptr d e f =>
   have h : and (Nat.beq a d) (and (Nat.beq b e) (Nat.beq c f)) = true := h
   simp only [Bool.and_eq_true, beq_iff] at h
   obtain ⟨rfl, rfl, rfl⟩ := h; rfl
 | .sl a b c n k, v, h => by
  cases v <;> try (cases h; done)
  case sl d e f m l =>
   have h : and (and (Nat.beq a d) (and (Nat.beq b e) (Nat.beq c f))) (and (Nat.beq n m) (Nat.beq k l)) = true := h
   simp only [Bool.and_eq_true, beq_iff] at h
   obtain ⟨⟨rfl, rfl, rfl⟩, rfl, rfl⟩ := h; rfl
 | .nil t, v, h => by
  cases v <;> try (cases h; done)
  case nil u => rw [beq_iff.1 (show Nat.beq t u = true from h)]
 | .map r, v, h => by
  cases v <;> try (cases h; done)
  case map s => rw [beq_iff.1 (show Nat.beq r s = true from h)]
 | .fn g a b, v, h => by
  cases v <;> try (cases h; done)
  case fn k c d =>
   have h : and (Nat.beq g k) (and (avEqL a c) (avEqL b d)) = true := h
   simp only [Bool.and_eq_true, beq_iff] at h
   rw [h.1, avEqL_eq h.2.1, avEqL_eq h.2.2]
 | .ifc t x, v, h => by
  cases v <;> try (cases h; done)
  case ifc u y =>
   have h : and (Nat.beq t u) (avEq x y) = true := h
   simp only [Bool.and_eq_true, beq_iff] at h
   rw [h.1, avEq_eq h.2]
 | .agg a, v, h => by
  cases v <;> try (cases h; done)
  case agg b => rw [avEqL_eq (show avEqL a b = true from h)]
 | .tup a, v, h => by
  cases v <;> try (cases h; done)
  case tup b => rw [avEqL_eq (show avEqL a b = true from h)]
theorem avEqL_eq : ∀ {a b : List AV}, avEqL a b = true → a = b
 | [], b, h => (avEqL_nil h).symm
 | x :: a, b, h => by
  cases b with
  | nil => cases h
  | cons y b =>
   have h : and (avEq x y) (avEqL a b) = true := h
   simp only [Bool.and_eq_true] at h
   rw [avEq_eq h.1, avEqL_eq h.2]
end
inductive Dep (ops : Array Oper) : Nat → Nat → Prop
 | one (i : Nat) (o : Oper) (e : Edge) : ops[i]? = some o → e ∈ o.after → Region.binds .any e = true → Dep ops i e.on
 | more (i p : Nat) (o : Oper) (e : Edge) : ops[i]? = some o → e ∈ o.after → Region.binds .any e = true → Dep ops e.on p → Dep ops i p
theorem ancE_spec {ops : Array Oper} {acc : List Nat} {i : Nat} {o : Oper} (ho : ops[i]? = some o) (hacc : ∀ j p, ((nthA acc j).getD 0).testBit p = true → Dep ops j p) : ∀ (es : List Edge), (∀ e ∈ es, e ∈ o.after) → ∀ p, (ancE acc es).testBit p = true → Dep ops i p
 | [], _, p, h => by
  have h : (0 : Nat).testBit p = true := h
  simp at h
 | e :: es, he, p, h => by
  have h : (ifb (Region.binds .any e) (Nat.lor (Nat.lor (2 ^ e.on) ((nthA acc e.on).getD 0)) (ancE acc es)) (ancE acc es)).testBit p = true := h
  have hrest := ancE_spec ho hacc es (fun e' h' => he e' (.tail _ h')) p
  cases hb : Region.binds .any e with
  | false => rw [hb] at h; exact hrest h
  | true =>
   rw [hb, ifb_true] at h
   have h : ((2 ^ e.on ||| (nthA acc e.on).getD 0) ||| ancE acc es).testBit p = true := h
   rw [Nat.testBit_or, Nat.testBit_or, Bool.or_eq_true, Bool.or_eq_true] at h
   rcases h with (h | h) | h
   · have : p = e.on := by
      rw [Nat.testBit_two_pow] at h
      exact (of_decide_eq_true h).symm
     subst this
     exact .one i o e ho (he e (.head _)) hb
   · exact .more i p o e ho (he e (.head _)) hb (hacc e.on p h)
   · exact hrest h
theorem ancL_spec {ops : Array Oper} : ∀ (l : List Oper) (acc : List Nat), (∀ k o, l[k]? = some o → ops[acc.length + k]? = some o) → (∀ j p, ((nthA acc j).getD 0).testBit p = true → Dep ops j p) →
 ∀ j p, ((nthA (ancL l acc) j).getD 0).testBit p = true → Dep ops j p
 | [], acc, _, h => h
 | o :: l, acc, hl, h => by
  have ho : ops[acc.length]? = some o := by simpa using hl 0 o rfl
  refine ancL_spec l (acc ++ [ancE acc o.after.toList]) (fun k o' hk => ?_) (fun j p hj => ?_)
  · have := hl (k + 1) o' (by simpa using hk)
    rw [List.length_append, List.length_singleton, show acc.length + 1 + k = acc.length + (k + 1) by omega]; exact this
  · rw [nthA_eq] at hj
    by_cases hlt : j < acc.length
    · rw [List.getElem?_append_left hlt] at hj
      exact h j p (by rw [nthA_eq]; exact hj)
    · by_cases heq : j = acc.length
      · subst heq
        rw [List.getElem?_append_right (Nat.le_refl _), Nat.sub_self] at hj
        exact ancE_spec ho h o.after.toList (fun e he => by simpa using he) p hj
      · rw [List.getElem?_eq_none (by simp; omega)] at hj
        simp at hj
def Closed (ops : Array Oper) (D : Nat → Prop) : Prop := ∀ i o e, D i → ops[i]? = some o → e ∈ o.after → Region.binds .any e = true → D e.on
theorem Closed.dep {ops : Array Oper} {D : Nat → Prop} (hc : Closed ops D) {i p : Nat} (h : Dep ops i p) : D i → D p := by
 induction h with
 | one i o e h1 h2 h3 => exact fun hi => hc i o e hi h1 h2 h3
 | more i p o e h1 h2 h3 _ ih => exact fun hi => ih (hc i o e hi h1 h2 h3)
theorem Closed.ahead {ops : Array Oper} {D : Nat → Prop} (hc : Closed ops D) {i p : Nat} (h : Dep ops i p) (hi : ∀ o e, ops[i]? = some o → e ∈ o.after → Region.binds .any e = true → D e.on) : D p := by
 cases h with
 | one _ o e h1 h2 h3 => exact hi o e h1 h2 h3
 | more _ _ o e h1 h2 h3 h4 => exact hc.dep h4 (hi o e h1 h2 h3)
end Go.Ab
namespace Go.Ab
variable [Val]
open Go
theorem within_spec {a b : Nat} (h : within a b = true) {p : Nat} (hp : a.testBit p = true) : b.testBit p = true := by
 have h : a &&& b = a := beq_iff.1 h
 rw [← h, Nat.testBit_and, Bool.and_eq_true] at hp
 exact hp.2
theorem bits_spec : ∀ (l : List Nat) (p : Nat), (bits l).testBit p = true ↔ p ∈ l
 | [], p => by
  have : (bits []).testBit p = (0 : Nat).testBit p := rfl
  simp [this]
 | i :: l, p => by
  show (2 ^ i ||| bits l).testBit p = true ↔ _
  rw [Nat.testBit_or, Bool.or_eq_true, bits_spec l p, Nat.testBit_two_pow, decide_eq_true_iff, List.mem_cons]
  constructor
  · rintro (h | h)
    · exact .inl h.symm
    · exact .inr h
  · rintro (h | h)
    · exact .inl h.symm
    · exact .inr h
theorem all_mem {r : Rgn} {i : Nat} : i ∈ r.all ↔ i < r.ss.length := List.mem_range
theorem dm_spec {s : CS} {t : Nat} : s.dm.testBit t = true ↔ s.d = some (path t) := by
 unfold CS.dm
 cases s.d with
 | none => simp
 | some p =>
  show (2 ^ unpath p).testBit t = true ↔ _
  rw [Nat.testBit_two_pow, decide_eq_true_iff]
  constructor
  · intro h; rw [← h, path_unpath]
  · intro h; cases h; exact unpath_path t
theorem dstsL_spec (r : Rgn) (m t : Nat) : ∀ l : List Nat, (List.rec (motive := fun _ => Nat) 0 (fun i _ ih => ifb (m.testBit i) (Nat.lor (r.s i).dm ih) ih) l : Nat).testBit t = true ↔ ∃ i ∈ l, m.testBit i = true ∧ (r.s i).d = some (path t)
 | [] => by
  show (0 : Nat).testBit t = true ↔ _
  simp
 | i :: l => by
  have ih := dstsL_spec r m t l
  show (ifb (m.testBit i) (Nat.lor (r.s i).dm (List.rec (motive := fun _ => Nat) 0 (fun i _ ih => ifb (m.testBit i) (Nat.lor (r.s i).dm ih) ih) l : Nat)) (List.rec (motive := fun _ => Nat) 0 (fun i _ ih => ifb (m.testBit i) (Nat.lor (r.s i).dm ih) ih) l : Nat)).testBit t = true ↔ _
  cases hb : m.testBit i with
  | false =>
   rw [ifb_false, ih]
   constructor
   · rintro ⟨j, h1, h2⟩; exact ⟨j, .tail _ h1, h2⟩
   · rintro ⟨j, h1, h2⟩
     cases h1 with
     | head => rw [hb] at h2; cases h2.1
     | tail _ h1 => exact ⟨j, h1, h2⟩
  | true =>
   rw [ifb_true]
   show ((r.s i).dm ||| _).testBit t = true ↔ _
   rw [Nat.testBit_or, Bool.or_eq_true, ih, dm_spec]
   constructor
   · rintro (h | ⟨j, h1, h2⟩)
     · exact ⟨i, .head _, hb, h⟩
     · exact ⟨j, .tail _ h1, h2⟩
   · rintro ⟨j, h1, h2⟩
     cases h1 with
     | head => exact .inl h2.2
     | tail _ h1 => exact .inr ⟨j, h1, h2⟩
theorem dsts_spec (r : Rgn) (m t : Nat) : (r.dsts m).testBit t = true ↔ ∃ i, i < r.ss.length ∧ m.testBit i = true ∧ (r.s i).d = some (path t) := by
 unfold Rgn.dsts
 rw [dstsL_spec]
 constructor
 · rintro ⟨i, h1, h2⟩; exact ⟨i, all_mem.1 h1, h2⟩
 · rintro ⟨i, h1, h2⟩; exact ⟨i, all_mem.2 h1, h2⟩
def OrderOK (r : Rgn) : List Nat → (Nat → Prop) → Prop
 | [], seen => ∀ i, i < r.ss.length → seen i
 | i :: l, seen => ¬ seen i ∧ (∀ p, (r.a i).testBit p = true → seen p) ∧ OrderOK r l fun j => seen j ∨ j = i
theorem okOrder_spec {r : Rgn} : ∀ {l : List Nat} {m : Nat} {seen : Nat → Prop}, (∀ j, seen j ↔ m.testBit j = true) → r.okOrder l m = true → OrderOK r l seen
 | [], m, seen, hs, h => fun i hi => (hs i).2 (within_spec (show within (bits r.all) m = true from h) ((bits_spec _ _).2 (all_mem.2 hi)))
 | i :: l, m, seen, hs, h => by
  have h : and (not (m.testBit i)) (and (within (r.a i) m) (r.okOrder l (Nat.lor m (2 ^ i)))) = true := h
  simp only [Bool.and_eq_true, Bool.not_eq_true'] at h
  obtain ⟨h1, h2, h3⟩ := h
  refine ⟨(fun hh => by rw [(hs i).1 hh] at h1; cases h1), fun p hp => (hs p).2 (within_spec h2 hp), okOrder_spec (fun j => ?_) h3⟩
  show _ ↔ (m ||| 2 ^ i).testBit j = true
  rw [Nat.testBit_or, Bool.or_eq_true, hs j, Nat.testBit_two_pow, decide_eq_true_iff]
  constructor
  · rintro (h | h)
    · exact .inl h
    · exact .inr h.symm
  · rintro (h | h)
    · exact .inl h
    · exact .inr h.symm
theorem okDst_spec {r : Rgn} : ∀ {l : List Nat} {m : Nat}, r.okDst l m = true → (∀ i ∈ l, ∀ t, (r.s i).d = some (path t) → m.testBit t = false) ∧ l.Pairwise fun i j => ∀ t, (r.s i).d = some (path t) → (r.s j).d ≠ some (path t)
 | [], _, _ => ⟨fun i hi => (by cases hi), .nil⟩
 | i :: l, m, h => by
  have h : and (Nat.beq (Nat.land m (r.s i).dm) 0) (r.okDst l (Nat.lor m (r.s i).dm)) = true := h
  rw [Bool.and_eq_true] at h
  obtain ⟨h1, h2⟩ := h
  obtain ⟨h3, h4⟩ := okDst_spec h2
  have h1 : m &&& (r.s i).dm = 0 := beq_iff.1 h1
  refine ⟨fun j hj t ht => ?_, List.pairwise_cons.2 ⟨fun j hj t ht htj => ?_, h4⟩⟩
  · cases hj with
    | head =>
     have h5 : (m &&& (r.s i).dm).testBit t = false := by rw [h1]; simp
     rw [Nat.testBit_and, dm_spec.2 ht, Bool.and_true] at h5
     exact h5
    | tail _ hj =>
     have h5 : (m ||| (r.s i).dm).testBit t = false := h3 j hj t ht
     rw [Nat.testBit_or, Bool.or_eq_false_iff] at h5
     exact h5.1
  · have h5 : (m ||| (r.s i).dm).testBit t = false := h3 j hj t htj
    rw [Nat.testBit_or, Bool.or_eq_false_iff, dm_spec.2 ht] at h5
    cases h5.2
theorem okUse_spec {r : Rgn} {i : Nat} (h : r.okUse i = true) {t : Nat} (hu : (r.s i).us.testBit t = true) {q : Nat} (hq : q < r.ss.length) (hd : (r.s q).d = some (path t)) :
 (∃ p, p < r.ss.length ∧ (r.a i).testBit p = true ∧ (r.s p).d = some (path t)) ∨ (r.k i ≠ 1 ∧ ∃ p, p < r.ss.length ∧ (p = i ∨ (r.a p).testBit i = true) ∧ (r.s p).d = some (path t)) := by
 unfold Rgn.okUse at h
 have h1 : ((r.s i).us &&& r.dsts (bits r.all)).testBit t = true := by
  rw [Nat.testBit_and, hu, Bool.true_and]
  exact (dsts_spec _ _ _).2 ⟨q, hq, (bits_spec _ _).2 (all_mem.2 hq), hd⟩
 have h2 : (r.dsts (r.a i) ||| ifb (Nat.beq (r.k i) 1) 0 (r.dsts (bits (r.all.filter fun p => or (Nat.beq p i) ((r.a p).testBit i))))).testBit t = true := within_spec h h1
 rw [Nat.testBit_or, Bool.or_eq_true] at h2
 rcases h2 with h2 | h2
 · obtain ⟨p, h3, h4, h5⟩ := (dsts_spec _ _ _).1 h2
   exact .inl ⟨p, h3, h4, h5⟩
 · cases hk : Nat.beq (r.k i) 1 with
   | true => rw [hk, ifb_true] at h2; simp at h2
   | false =>
    rw [hk, ifb_false] at h2
    obtain ⟨p, h3, h4, h5⟩ := (dsts_spec _ _ _).1 h2
    refine .inr ⟨(fun hh => by rw [beq_iff.2 hh] at hk; cases hk), p, h3, ?_, h5⟩
    have := (bits_spec _ _).1 h4
    have := (List.mem_filter.1 this).2
    rw [Bool.or_eq_true, beq_iff] at this
    exact this
end Go.Ab
namespace Go.Ab
variable [Val]
open Go
variable {C : Cx} {ds : List Deferred}
theorem mkSeq_get (n : Nat) (ops : List Oper) : ∀ (l : List Oper) (i : Nat), (mkSeq C n ops l)[i]? = (l[i]?).map (mkS C n ops)
 | [], i => by simp [mkSeq]
 | o :: l, 0 => by simp [mkSeq]
 | o :: l, i + 1 => by simp [mkSeq, mkSeq_get n ops l i]
theorem mkSeq_length (n : Nat) (ops : List Oper) : ∀ (l : List Oper), (mkSeq C n ops l).length = l.length
 | [] => rfl
 | o :: l => by simp [mkSeq, mkSeq_length n ops l]
section
variable {n : Nat} {ops : Array Oper}
theorem of_length : (Rgn.of C n ops).ss.length = ops.size := by
 show (mkSeq C n ops.toList ops.toList).length = _
 rw [mkSeq_length]; simp
theorem of_s {i : Nat} {o : Oper} (ho : ops[i]? = some o) : (Rgn.of C n ops).s i = mkS C n ops.toList o := by
 show (nthA (mkSeq C n ops.toList ops.toList) i).getD _ = _
 rw [nthA_eq, mkSeq_get, Array.getElem?_toList, ho]; rfl
theorem of_a {i p : Nat} (h : ((Rgn.of C n ops).a i).testBit p = true) : Dep ops i p :=
 ancL_spec ops.toList [] (fun k o hk => by simpa using hk) (fun j p hj => by
  have hj : (0 : Nat).testBit p = true := by cases j <;> exact hj
  simp at hj) i p h
theorem of_m {i : Nat} {o : Oper} (ho : ops[i]? = some o) : (Rgn.of C n ops).m i = isMkOp o := by
 show (nthA (ops.toList.map isMkOp) i).getD false = _
 rw [nthA_eq, List.getElem?_map, Array.getElem?_toList, ho]; rfl
theorem stepS_sim {c : CallT} (hc : CallOK C c) {i : Nat} {o : Oper} (ho : ops[i]? = some o) {f : Fr} {h h' : Hp} {v : AV} (hx : stepS ((Rgn.of C n ops).s i) c f h = .ok v h') {e : Emb} {a : Act} {w : World} (hg : GR C e) (hf : FN ds n e f a) (hr : HR e h w)
 {K : Act → World → Prop} {Q : Exit → Act → World → Prop} (hk : ∀ e' (v' : Value) w', Ext e h w e' h' w' → VR e' v v' → K (a.put o.dst v') w') : owOp C.P ops Q i K a w := by
 rw [of_s ho] at hx
 unfold owOp
 simp only [ho]
 rcases mkS_spec (C := C) (n := n) (ops := ops.toList) (o := o) with ⟨g, g1, g2, _⟩ | ⟨q, g2⟩
 · rw [g2] at hx
   have hx : ifb (okG g f) (ifb (wantG g f) (xO (mk C o) c f h) (.ok undefA h)) (.no "guard") = .ok v h' := hx
   cases hok : okG g f with
   | false => rw [hok] at hx; cases hx
   | true =>
   have hgs := guard_sim hf.1 g1 hok
   rw [hok, ifb_true, hgs] at hx
   cases hw : Region.wanted o (yielded ops a.tmps) with
   | true =>
    rw [hw, ifb_true] at hx
    rw [if_pos rfl]
    exact .inl (mk_sim o c hc f h v h' e a w hx hg hf.1 hr K Q hk)
   | false =>
    rw [hw, ifb_false] at hx
    cases hx
    rw [if_neg (by decide)]
    exact hk e undef w (.refl hr) (undef_VR e)
 · rw [g2] at hx
   exact (no_ok (w := q) hx).elim
theorem makeS_sim {c : CallT} {i : Nat} {o : Oper} (ho : ops[i]? = some o) (hm : isMkOp o = true) (hkd : ((Rgn.of C n ops).s i).o.kd = 2) {f : Fr} {h h' : Hp} {v : AV} (hx : stepS ((Rgn.of C n ops).s i) c f h = .ok v h') {e : Emb} {a : Act} {w : World} (hg : GR C e) (hf : FN ds n e f a)
 {K : Act → World → Prop} {Q : Exit → Act → World → Prop} (hk1 : v = undefA → h' = h → K (a.put o.dst undef) w) (hk2 : ∀ (v' : Value) w' B ob sz, Made e h w v h' B ob sz v' w' → K (a.put o.dst v') w') : owOp C.P ops Q i K a w := by
 rw [of_s ho] at hx hkd
 unfold owOp
 simp only [ho]
 rcases mkS_spec (C := C) (n := n) (ops := ops.toList) (o := o) with ⟨g, g1, g2, _⟩ | ⟨q, g2⟩
 · rw [g2] at hx hkd
   have hx : ifb (okG g f) (ifb (wantG g f) (xO (mk C o) c f h) (.ok undefA h)) (.no "guard") = .ok v h' := hx
   cases hok : okG g f with
   | false => rw [hok] at hx; cases hx
   | true =>
   have hgs := guard_sim hf.1 g1 hok
   rw [hok, ifb_true, hgs] at hx
   cases hw : Region.wanted o (yielded ops a.tmps) with
   | true =>
    rw [hw, ifb_true] at hx
    rw [if_pos rfl]
    obtain ⟨v', w', hrun, B, ob, sz, hmd⟩ := make_all hm hkd c f h v h' e a w hx hg hf.1
    exact .inl (wp_val hrun (hk2 v' w' B ob sz hmd))
   | false =>
    rw [hw, ifb_false] at hx
    cases hx
    rw [if_neg (by decide)]
    exact hk1 rfl rfl
 · rw [g2] at hx
   exact (no_ok (w := q) hx).elim
theorem of_d {i : Nat} {o : Oper} (ho : ops[i]? = some o) {c : CallT} {f : Fr} {h h' : Hp} {v : AV} (hx : stepS ((Rgn.of C n ops).s i) c f h = .ok v h') : ((Rgn.of C n ops).s i).d = o.dst.map path ∧ ∀ t, o.dst = some t → t < n := by
 rw [of_s ho] at hx ⊢
 rcases mkS_spec (C := C) (n := n) (ops := ops.toList) (o := o) with ⟨g, g1, g2, g3⟩ | ⟨q, g2⟩
 · rw [g2]; exact ⟨rfl, g3⟩
 · rw [g2] at hx
   exact (no_ok (w := q) hx).elim
end
theorem runR_append (m : List CS) (c : CallT) : ∀ (l : List CS) (f : Fr) (h : Hp), runR (l ++ m) c f h = (runR l c f h).bd Out.no (runR m c) Out.exit
 | [], f, h => rfl
 | s :: l, f, h => by
  show oneS s (runR (l ++ m)) c f h = (oneS s (runR l) c f h).bd Out.no (runR m c) Out.exit
  cases hs : s.again with
  | false =>
   rw [oneS_once hs, oneS_once hs]
   cases stepS s c f h with
   | no w => rfl
   | ok v h2 => exact runR_append m c l _ h2
  | true =>
   rw [oneS_again hs, oneS_again hs]
   cases stepS s c f h with
   | no w => rfl
   | ok v h2 =>
    show ifb (slotIs s.d v f) (runR (l ++ m) c f h2) (.no "not the same once more") = (ifb (slotIs s.d v f) (runR l c f h2) (.no "not the same once more")).bd Out.no (runR m c) Out.exit
    cases slotIs s.d v f with
    | false => rfl
    | true => exact runR_append m c l f h2
theorem runR_once {s : CS} (hs : s.again = false) {l : List CS} {c : CallT} {f f' : Fr} {h h' : Hp} (hx : runR (s :: l) c f h = .norm f' h') : ∃ v h2, stepS s c f h = .ok v h2 ∧ runR l c (putD s.d v f).out h2 = .norm f' h' := by
 have hx : oneS s (runR l) c f h = .norm f' h' := hx
 rw [oneS_once hs] at hx
 cases hst : stepS s c f h with
 | no w => rw [hst] at hx; cases hx
 | ok v h2 => rw [hst] at hx; exact ⟨v, h2, rfl, hx⟩
theorem runR_again {s : CS} (hs : s.again = true) {l : List CS} {c : CallT} {f f' : Fr} {h h' : Hp} (hx : runR (s :: l) c f h = .norm f' h') : ∃ v h2, stepS s c f h = .ok v h2 ∧ (∀ t, s.d = some (path t) → slot f t = v) ∧ runR l c f h2 = .norm f' h' := by
 have hx : oneS s (runR l) c f h = .norm f' h' := hx
 rw [oneS_again hs] at hx
 cases hst : stepS s c f h with
 | no w => rw [hst] at hx; cases hx
 | ok v h2 =>
  rw [hst] at hx
  have hx : ifb (slotIs s.d v f) (runR l c f h2) (.no "not the same once more") = .norm f' h' := hx
  cases hi : slotIs s.d v f with
  | false => rw [hi] at hx; cases hx
  | true =>
   rw [hi] at hx
   refine ⟨v, h2, rfl, fun t ht => ?_, hx⟩
   rw [ht] at hi
   rw [slot_eq]
   have hi : Option.rec (motive := fun _ => Bool) false (fun u => avEq u v) (getP (path t) f) = true := hi
   cases hg : getP (path t) f with
   | none => rw [hg] at hi; cases hi
   | some u => rw [hg] at hi; exact avEq_eq hi
end Go.Ab
namespace Go.Ab
variable [Val]
open Go
variable {C : Cx} {ds : List Deferred}
theorem slot_putD (d : Option (List Bool)) (v : AV) (f : Fr) (t : Nat) : slot (putD d v f).out t = if d = some (path t) then v else slot f t := by
 cases d with
 | none => rw [if_neg (fun h => by cases h)]; rfl
 | some p =>
  show slot (setP v p f).out t = _
  rw [setP_eq, Bx.out_mk, ← path_unpath p, slot_set]
  by_cases h : t = unpath p
  · subst h; rw [if_pos rfl, if_pos rfl]
  · rw [if_neg h, if_neg]
    intro hh
    exact h (path_inj _ _ (Option.some.inj hh)).symm
theorem runR_slot {c : CallT} {t : Nat} : ∀ {l : List CS} {f f' : Fr} {h h' : Hp}, runR l c f h = .norm f' h' → (∀ s ∈ l, s.again = false → s.d ≠ some (path t)) → slot f' t = slot f t
 | [], f, f', h, h', hx, _ => by cases hx; rfl
 | s :: l, f, f', h, h', hx, hl => by
  cases hs : s.again with
  | false =>
   obtain ⟨v, h2, _, h3⟩ := runR_once hs hx
   rw [runR_slot h3 fun s' hs' => hl s' (.tail _ hs'), slot_putD, if_neg (hl s (.head _) hs)]
  | true =>
   obtain ⟨v, h2, _, _, h3⟩ := runR_again hs hx
   exact runR_slot h3 fun s' hs' => hl s' (.tail _ hs')
def View (r : Rgn) (F f0 : Fr) (i : Nat) (f' : Fr) : Prop := ∀ t, (r.s i).us.testBit t = true →
 ((∃ p, p < r.ss.length ∧ (r.a i).testBit p = true ∧ (r.s p).d = some (path t)) → slot f' t = slot F t) ∧
 ((¬ ∃ p, p < r.ss.length ∧ (r.a i).testBit p = true ∧ (r.s p).d = some (path t)) → slot f' t = slot f0 t)
theorem View.agree {r : Rgn} {F f0 : Fr} {i : Nat} {f f' : Fr} (h : View r F f0 i f) (h' : View r F f0 i f') : Agree (r.s i).us f f' := by
 intro t ht
 by_cases hp : ∃ p, p < r.ss.length ∧ (r.a i).testBit p = true ∧ (r.s p).d = some (path t)
 · rw [(h t ht).1 hp, (h' t ht).1 hp]
 · rw [(h t ht).2 hp, (h' t ht).2 hp]
def Slots (r : Rgn) (F f0 : Fr) (D : Nat → Prop) (f : Fr) : Prop :=
 (∀ i, i < r.ss.length → D i → ∀ t, (r.s i).d = some (path t) → slot f t = slot F t) ∧ (∀ t, (∀ i, i < r.ss.length → D i → (r.s i).d ≠ some (path t)) → slot f t = slot f0 t)
theorem Slots.view {r : Rgn} {F f0 : Fr} {D : Nat → Prop} {f : Fr} (h : Slots r F f0 D f) {i : Nat} (hu : r.okUse i = true) (hd : ∀ p q t, p < r.ss.length → q < r.ss.length → (r.s p).d = some (path t) → (r.s q).d = some (path t) → p = q)
 (h1 : ∀ p, (r.a i).testBit p = true → D p) (h2 : r.k i ≠ 1 → ∀ p, p < r.ss.length → (p = i ∨ (r.a p).testBit i = true) → ¬ D p) : View r F f0 i f := by
 intro t ht
 constructor
 · rintro ⟨p, p1, p2, p3⟩
   exact h.1 p p1 (h1 p p2) t p3
 · intro hno
   refine h.2 t fun q q1 q2 q3 => ?_
   rcases okUse_spec hu ht q1 q3 with hp | ⟨hk, p, p1, p2, p3⟩
   · exact hno hp
   · have := hd p q t p1 q1 p3 q3
     subst this
     exact h2 hk p p1 p2 q2
def Makes (ex : Hp → R2) : Prop := (∃ B vf, ∀ h, ex h = R2.new h B vf) ∨ ∀ h, ∃ w, ex h = .no w
theorem xO_make {o : CO} (hk : o.kd = 2) (c : CallT) (f : Fr) : Makes (xO o c f) := by
 cases o <;> first | (have hk : (0 : Nat) = 2 := hk; cases hk; done) | (have hk : (1 : Nat) = 2 := hk; cases hk; done) | (have hk : (3 : Nat) = 2 := hk; cases hk; done) | skip
 case box x =>
  show Makes fun h => (ev f x).onCells R2.no fun vs => R2.new h (.flat vs 0) fun n => .ptr n 0 0
  cases ev f x
  case nil t =>
   show Makes fun h => ifb (Nat.beq t 9) (R2.no "any") (R2.new h (.flat [.nil t] 0) fun n => .ptr n 0 0)
   cases Nat.beq t 9 with
   | true => exact .inr fun h => ⟨_, rfl⟩
   | false => exact .inl ⟨.flat [.nil t] 0, fun n => .ptr n 0 0, fun h => rfl⟩
  all_goals first | exact .inl ⟨_, _, fun h => by simp only [AV.onCells, force_eq]; rfl⟩ | exact .inr fun h => ⟨_, rfl⟩
 case alloc z => exact .inl ⟨.flat z 0, fun n => .ptr n 0 0, fun h => by
  show (forceL z).bd (fun z => R2.new h (.flat z 0) fun n => .ptr n 0 0) = _; rw [forceL_eq]; rfl⟩
 case cvTo x =>
  show Makes fun h => (ev f x).onStr R2.no fun n a => (bytesA n a).bd fun l => R2.new h (.flat l 1) fun m => .sl m 0 0 n 2
  cases ev f x <;> first | exact .inr fun h => ⟨_, rfl⟩ | skip
  case str n a => exact .inl ⟨.flat (bytesA n a).out 1, fun m => .sl m 0 0 n 2, fun h => by
   show (bytesA n a).bd (fun l => R2.new h (.flat l 1) fun m => .sl m 0 0 n 2) = _; rw [Bx.eta (bytesA n a)]; rfl⟩
 case bsl n z ps =>
  show Makes fun h => Option.rec (motive := fun _ => R2) (.no "buildSlice") (fun l => R2.new h (.flat l 0) fun m => .sl m 0 0 n (Nat.succ (Nat.mul 2 n))) ((forceL z).bd fun z => fillA f ps z)
  cases (forceL z).bd fun z => fillA f ps z with
  | none => exact .inr fun h => ⟨_, rfl⟩
  | some l => exact .inl ⟨_, _, fun h => rfl⟩
 case mks z bytes x y =>
  show Makes fun h => (ev f x).onInt R2.no fun _ l => (ev f y).onInt R2.no fun _ c => nat? l (.no "makeSlice") fun l => nat? c (.no "makeSlice") fun c =>
   ifb (and (Nat.ble l c) (Nat.ble (Nat.mul (Nat.succ bytes) (Nat.succ c)) maxMem)) ((zerosR c z).bd fun vs => R2.new h (.flat vs 0) fun n => .sl n 0 0 l (Nat.succ (Nat.mul 2 c))) (.no "makeSlice: size")
  cases ev f x <;> first | exact .inr fun h => ⟨_, rfl⟩ | skip
  case int k l =>
   cases ev f y <;> first | exact .inr fun h => ⟨_, rfl⟩ | skip
   case int k2 m =>
    cases l with
    | negSucc l => exact .inr fun h => ⟨_, rfl⟩
    | ofNat l => cases m with
     | negSucc m => exact .inr fun h => ⟨_, rfl⟩
     | ofNat m =>
      show Makes fun h => ifb (and (Nat.ble l m) (Nat.ble (Nat.mul (Nat.succ bytes) (Nat.succ m)) maxMem)) ((zerosR m z).bd fun vs => R2.new h (.flat vs 0) fun n => .sl n 0 0 l (Nat.succ (Nat.mul 2 m))) (.no "makeSlice: size")
      cases and (Nat.ble l m) (Nat.ble (Nat.mul (Nat.succ bytes) (Nat.succ m)) maxMem) with
      | false => exact .inr fun h => ⟨_, rfl⟩
      | true => exact .inl ⟨.flat (zerosR m z).out 0, fun n => .sl n 0 0 l (Nat.succ (Nat.mul 2 m)), fun h => by
       show (zerosR m z).bd (fun vs => R2.new h (.flat vs 0) fun n => .sl n 0 0 l (Nat.succ (Nat.mul 2 m))) = _; rw [Bx.eta (zerosR m z)]; rfl⟩
 case mkm r =>
  show Makes fun h => Option.rec (motive := fun _ => R2) (R2.new h (.map []) .map) (fun v => v.onInt R2.no fun _ _ => R2.new h (.map []) .map) (evO f r)
  cases evO f r with
  | none => exact .inl ⟨_, _, fun h => rfl⟩
  | some v => cases v <;> first | exact .inl ⟨_, _, fun h => rfl⟩ | exact .inr fun h => ⟨_, rfl⟩
 case rng x =>
  show Makes fun h => (ev f x).onStr R2.no fun n a => R2.new h (.sit n a 0) fun m => .ptr m 0 0
  cases ev f x <;> first | exact .inr fun h => ⟨ "str", rfl⟩ | skip
  case str n a => exact .inl ⟨.sit n a 0, fun m => .ptr m 0 0, fun h => rfl⟩
def Hp.grew (h h' : Hp) : Prop := h.n ≤ h'.n ∧ (∀ b, b < h.n → h'.get b = h.get b) ∧ h'.lk = h.lk
theorem Hp.grew.refl (h : Hp) : h.grew h := ⟨Nat.le_refl _, fun _ _ => rfl, rfl⟩
theorem Hp.grew.trans {a b c : Hp} (h : a.grew b) (h' : b.grew c) : a.grew c := ⟨Nat.le_trans h.1 h'.1, fun x hx => (h'.2.1 x (Nat.lt_of_lt_of_le hx h.1)).trans (h.2.1 x hx), h'.2.2.trans h.2.2⟩
theorem stepS_make {s : CS} (hk : s.o.kd = 2) {c : CallT} {f : Fr} {h h' : Hp} {v : AV} (hx : stepS s c f h = .ok v h') : h' = h ∨ ∃ B, h' = ⟨setT B (path h.n) h.t, h.n + 1, h.lk⟩ := by
 unfold stepS at hx
 cases hok : okG s.g f with
 | false => rw [hok] at hx; cases hx
 | true =>
 rw [hok, ifb_true] at hx
 cases hw : wantG s.g f with
 | false => rw [hw, ifb_false] at hx; cases hx; exact .inl rfl
 | true =>
  rw [hw, ifb_true] at hx
  rcases xO_make hk c f with ⟨B, vf, hm⟩ | hm
  · rw [hm h] at hx
    obtain ⟨_, rfl⟩ := R2.new_ok hx
    exact .inr ⟨B, rfl⟩
  · obtain ⟨w, hw⟩ := hm h
    rw [hw] at hx; cases hx
theorem grew_new (h : Hp) (B : Blk) : h.grew ⟨setT B (path h.n) h.t, h.n + 1, h.lk⟩ :=
 ⟨Nat.le_succ _, (fun b hb => by rw [Hp.get_set _ _ h.n, if_neg (Nat.ne_of_lt hb)]), rfl⟩
theorem stepS_light {s : CS} (hk : s.o.kd ≠ 3) (hk4 : s.o.kd < 4) {c : CallT} {f : Fr} {h h' : Hp} {v : AV} (hx : stepS s c f h = .ok v h') : h.grew h' := by
 have h012 : s.o.kd = 0 ∨ s.o.kd = 1 ∨ s.o.kd = 2 := by omega
 rcases h012 with hk | hk | hk
 · have := at_eq (stepS_pure hk c f h h) hx; subst this; exact .refl _
 · have := at_eq (stepS_read hk c f h).symm hx; subst this; exact .refl _
 · rcases stepS_make hk hx with rfl | ⟨B, rfl⟩
   · exact .refl _
   · exact grew_new h B
theorem kd_lt (o : CO) : o.kd < 4 := by cases o <;> first | exact (show 0 < 4 by decide) | exact (show 1 < 4 by decide) | exact (show 2 < 4 by decide) | exact (show 3 < 4 by decide)
end Go.Ab
namespace Go.Ab
variable [Val]
open Go
def VF (r : Rgn) (F : Fr) (i : Nat) (v : AV) : Prop := ∀ t, (r.s i).d = some (path t) → slot F t = v
def LFact (r : Rgn) (F f0 : Fr) (c : CallT) (H : Hp) (nm : Nat → Option Nat) (i : Nat) : Prop := ∃ v, VF r F i v ∧
 ((r.k i = 0 ∧ ∀ f' h, View r F f0 i f' → stepS (r.s i) c f' h = .ok v h) ∨
  (r.k i = 1 ∧ ∀ f', View r F f0 i f' → stepS (r.s i) c f' H = .ok v H) ∨
  (r.k i = 2 ∧ ∃ ht ht', (∀ f', View r F f0 i f' → stepS (r.s i) c f' ht = .ok v ht') ∧ (ht' = ht ∨ ∃ B, ht' = ⟨setT B (path ht.n) ht.t, ht.n + 1, ht.lk⟩ ∧ nm i = some ht.n ∧ ht.n < H.n ∧ H.get ht.n = some B)))
def Whole (r : Rgn) (D : Nat → Prop) : Prop := ∀ p, D p → ∀ q, (r.a p).testBit q = true → D q
def Once (r : Rgn) : Prop := ∀ p q t, p < r.ss.length → q < r.ss.length → (r.s p).d = some (path t) → (r.s q).d = some (path t) → p = q
theorem Slots.step {r : Rgn} {F f0 : Fr} {D : Nat → Prop} {f : Fr} (h : Slots r F f0 D f) {i : Nat} (hi : i < r.ss.length) {v : AV} (hv : VF r F i v) : Slots r F f0 (fun j => D j ∨ j = i) (putD (r.s i).d v f).out := by
 constructor
 · intro j hj hD t ht
   rw [slot_putD]
   by_cases hd : (r.s i).d = some (path t)
   · rw [if_pos hd]; exact (hv t hd).symm
   · rw [if_neg hd]
     rcases hD with hD | rfl
     · exact h.1 j hj hD t ht
     · exact absurd ht hd
 · intro t hno
   rw [slot_putD, if_neg (hno i hi (.inr rfl))]
   exact h.2 t fun j hj hD => hno j hj (.inl hD)
def Seq (r : Rgn) : List Nat → (Nat → Prop) → Prop
 | [], _ => True
 | i :: l, D => ¬ D i ∧ (∀ p, (r.a i).testBit p = true → D p) ∧ Seq r l fun j => D j ∨ j = i
theorem Whole.step {r : Rgn} {D : Nat → Prop} (h : Whole r D) {i : Nat} (hi : ∀ p, (r.a i).testBit p = true → D p) : Whole r fun j => D j ∨ j = i := by
 intro p hp q hq
 rcases hp with hp | rfl
 · exact .inl (h p hp q hq)
 · exact .inl (hi q hq)
theorem Seq.out {r : Rgn} : ∀ {l : List Nat} {D : Nat → Prop}, Seq r l D → ∀ i ∈ l, ¬ D i
 | i :: l, D, h, j, hj => by
  cases hj with
  | head => exact h.1
  | tail _ hj => exact fun hD => Seq.out h.2.2 j hj (.inl hD)
theorem Slots.congr {r : Rgn} {F f0 : Fr} {D D' : Nat → Prop} {f : Fr} (h : Slots r F f0 D f) (he : ∀ j, D j ↔ D' j) : Slots r F f0 D' f :=
 ⟨fun i hi hD t ht => h.1 i hi ((he i).2 hD) t ht, fun t hno => h.2 t fun i hi hD => hno i hi ((he i).1 hD)⟩
theorem Whole.congr {r : Rgn} {D D' : Nat → Prop} (h : Whole r D) (he : ∀ j, D j ↔ D' j) : Whole r D' := fun p hp q hq => (he q).1 (h p ((he p).2 hp) q hq)
theorem lights_run {r : Rgn} {F f0 : Fr} {c : CallT} {He : Hp} (hu : ∀ i, i < r.ss.length → r.okUse i = true) (ho : Once r) (hag : ∀ i, i < r.ss.length → (r.s i).again = false) : ∀ (ls : List Nat) (D : Nat → Prop) (f : Fr) (h : Hp) (rest : List CS),
 (∀ i ∈ ls, i < r.ss.length ∧ r.k i ≠ 3) → Whole r D → Seq r ls D → (∀ s ∈ rest, s.again = false → ∃ j, j < r.ss.length ∧ s = r.s j ∧ ¬ D j ∧ j ∉ ls) → Slots r F f0 D f → runR (ls.map r.s ++ rest) c f h = .norm F He →
 ∃ (f2 : Fr) (h2 : Hp) (nm : Nat → Option Nat), runR rest c f2 h2 = .norm F He ∧ h.grew h2 ∧ Slots r F f0 (fun j => D j ∨ j ∈ ls) f2 ∧ Whole r (fun j => D j ∨ j ∈ ls) ∧ ((∀ i ∈ ls, r.k i ≠ 2) → h2 = h) ∧
  (∀ i ∈ ls, (r.k i = 1 → ∀ j ∈ ls, r.k j ≠ 2) → LFact r F f0 c h2 nm i) ∧ (∀ i b, nm i = some b → i ∈ ls ∧ h.n ≤ b ∧ b < h2.n) ∧ (∀ i j b, nm i = some b → nm j = some b → i = j)
 | [], D, f, h, rest, _, hW, _, _, hS, hx =>
  ⟨f, h, fun _ => none, hx, .refl h, hS.congr (fun j => by simp), hW.congr (fun j => by simp), fun _ => rfl, (fun i hi => by cases hi), (fun i b hb => by cases hb), (fun i j b hb => by cases hb)⟩
 | i :: ls, D, f, h, rest, hk, hW, hQ, hrest, hS, hx => by
  obtain ⟨hn, hanc, hseq⟩ := hQ
  obtain ⟨hi, hk3⟩ := hk i (.head _)
  obtain ⟨v, h1, hst, hx⟩ := runR_once (hag i hi) hx
  have hview : View r F f0 i f := hS.view (hu i hi) ho hanc fun _ p _ hor hD => by
   rcases hor with rfl | hb
   · exact hn hD
   · exact hn (hW p hD i hb)
  have hout := hseq.out
  have hVF : VF r F i v := by
   intro t ht
   rw [runR_slot hx, slot_putD, if_pos ht]
   intro s hs hsa hsd
   rcases List.mem_append.1 hs with hs | hs
   · obtain ⟨j, hj, rfl⟩ := List.mem_map.1 hs
     have := ho i j t hi (hk j (.tail _ hj)).1 ht hsd
     exact hout j hj (.inr this.symm)
   · obtain ⟨j, hj, rfl, _, hj2⟩ := hrest s hs hsa
     have := ho i j t hi hj ht hsd
     exact hj2 (this ▸ .head _)
  obtain ⟨f2, h2, nm, r1, r2, r3, r4, r5, r6, r7, r8⟩ := lights_run hu ho hag ls (fun j => D j ∨ j = i) _ h1 rest (fun j hj => hk j (.tail _ hj)) (hW.step hanc) hseq
   (fun s hs hsa => by
    obtain ⟨j, j1, j2, j3, j4⟩ := hrest s hs hsa
    exact ⟨j, j1, j2, (fun hD => hD.elim j3 fun hh => j4 (hh ▸ .head _)), fun hh => j4 (.tail _ hh)⟩) (hS.step hi hVF) hx
  have hD : ∀ j, ((D j ∨ j = i) ∨ j ∈ ls) ↔ (D j ∨ j ∈ i :: ls) := fun j => by simp [or_assoc]
  have hg1 : h.grew h1 := stepS_light hk3 (kd_lt _) hst
  have hnm : nm i = none := by
   cases hh : nm i with
   | none => rfl
   | some b => exact absurd (.inr rfl) (hout i (r7 i b hh).1)
  have hquiet : r.k i ≠ 2 → h1 = h := by
   intro h2
   have hk01 : (r.s i).o.kd = 0 ∨ (r.s i).o.kd = 1 := by
    have h4 := kd_lt (r.s i).o
    have h3 : (r.s i).o.kd ≠ 3 := hk3
    have h5 : (r.s i).o.kd ≠ 2 := h2
    omega
   rcases hk01 with h6 | h6
   · exact at_eq (stepS_pure h6 c f h h) hst
   · exact at_eq (stepS_read h6 c f h).symm hst
  have hnone : (∀ j ∈ i :: ls, r.k j ≠ 2) → h2 = h := fun hno => (r5 fun j hj => hno j (.tail _ hj)).trans (hquiet (hno i (.head _)))
  have hname : ∃ b : Option Nat, (∀ x, b = some x → x = h.n ∧ h.n < h1.n) ∧ (r.k i = 2 → h1 = h ∨ ∃ B, h1 = ⟨setT B (path h.n) h.t, h.n + 1, h.lk⟩ ∧ b = some h.n) := by
   by_cases hk2 : r.k i = 2
   · rcases stepS_make hk2 hst with hh | ⟨B, hh⟩
     · exact ⟨none, (fun x hx => by cases hx), fun _ => .inl hh⟩
     · exact ⟨some h.n, (fun x hx => by cases hx; exact ⟨rfl, by rw [hh]; exact Nat.lt_succ_self _⟩), fun _ => .inr ⟨B, hh, rfl⟩⟩
   · exact ⟨none, (fun x hx => by cases hx), fun hh => absurd hh hk2⟩
  obtain ⟨b, hb1, hb2⟩ := hname
  refine ⟨f2, h2, fun j => if j = i then b else nm j, r1, hg1.trans r2, r3.congr hD, r4.congr hD, hnone, ?_, ?_, ?_⟩
  · intro j hj hcond
    by_cases hji : j = i
    · subst hji
      refine ⟨v, hVF, ?_⟩
      have h4 := kd_lt (r.s j).o
      have h012 : r.k j = 0 ∨ r.k j = 1 ∨ r.k j = 2 := by
       have h3 : (r.s j).o.kd ≠ 3 := hk3
       show (r.s j).o.kd = 0 ∨ (r.s j).o.kd = 1 ∨ (r.s j).o.kd = 2
       omega
      rcases h012 with h6 | h6 | h6
      · refine .inl ⟨h6, fun f' h' hf' => ?_⟩
        rw [stepS_agree (hf'.agree hview), stepS_pure h6 c f h h', hst]; rfl
      · refine .inr (.inl ⟨h6, fun f' hf' => ?_⟩)
        rw [hnone (hcond h6), stepS_agree (hf'.agree hview), hst, hquiet (by rw [h6]; decide)]
      · refine .inr (.inr ⟨h6, h, h1, fun f' hf' => by rw [stepS_agree (hf'.agree hview), hst], ?_⟩)
        rcases hb2 h6 with hh | ⟨B, hh, hbb⟩
        · exact .inl hh
        · have hlt : h.n < h1.n := by rw [hh]; exact Nat.lt_succ_self _
          refine .inr ⟨B, hh, (if_pos rfl).trans hbb, Nat.lt_of_lt_of_le hlt r2.1, ?_⟩
          rw [r2.2.1 h.n hlt, hh, Hp.get_set _ _ h.n, if_pos rfl]
    · have hjl : j ∈ ls := by
       cases hj with
       | head => exact absurd rfl hji
       | tail _ hj => exact hj
      obtain ⟨v', g1, g2⟩ := r6 j hjl fun hk1 j' hj' => hcond hk1 j' (.tail _ hj')
      refine ⟨v', g1, ?_⟩
      simp only [if_neg hji]
      exact g2
  · intro j x hx
    have hx : (if j = i then b else nm j) = some x := hx
    by_cases hji : j = i
    · subst hji
      rw [if_pos rfl] at hx
      obtain ⟨rfl, hlt⟩ := hb1 x hx
      exact ⟨.head _, Nat.le_refl _, Nat.lt_of_lt_of_le hlt r2.1⟩
    · rw [if_neg hji] at hx
      obtain ⟨g1, g2, g3⟩ := r7 j x hx
      exact ⟨.tail _ g1, Nat.le_trans hg1.1 g2, g3⟩
  · intro j j' x hx hx'
    have hx : (if j = i then b else nm j) = some x := hx
    have hx' : (if j' = i then b else nm j') = some x := hx'
    by_cases hji : j = i
    · by_cases hji' : j' = i
      · exact hji.trans hji'.symm
      · rw [if_pos hji] at hx
        rw [if_neg hji'] at hx'
        obtain ⟨rfl, hlt⟩ := hb1 x hx
        have := (r7 j' _ hx').2.1
        omega
    · by_cases hji' : j' = i
      · rw [if_neg hji] at hx
        rw [if_pos hji'] at hx'
        obtain ⟨rfl, hlt⟩ := hb1 x hx'
        have := (r7 j _ hx).2.1
        omega
      · rw [if_neg hji] at hx
        rw [if_neg hji'] at hx'
        exact r8 j j' x hx hx'
end Go.Ab
namespace Go.Ab
variable [Val]
open Go
theorem checks_run {r : Rgn} {F f0 : Fr} {c : CallT} {He : Hp} {D : Nat → Prop} {nm : Nat → Option Nat} (hu : ∀ i, i < r.ss.length → r.okUse i = true) (ho : Once r) {f : Fr} {h : Hp} (hS : Slots r F f0 D f) (hW : Whole r D) : ∀ (ck : List Nat) (rest : List CS),
 (∀ i ∈ ck, i < r.ss.length ∧ r.k i = 1 ∧ D i) → runR ((ck.map fun i => { r.s i with again := true }) ++ rest) c f h = .norm F He →
 runR rest c f h = .norm F He ∧ ∀ i ∈ ck, LFact r F f0 c h nm i
 | [], rest, _, hx => ⟨hx, fun i hi => by cases hi⟩
 | i :: ck, rest, hk, hx => by
  obtain ⟨hi, hk1, hD⟩ := hk i (.head _)
  obtain ⟨v, h1, hst, hv, hx2⟩ := runR_again (s := { r.s i with again := true }) rfl hx
  have hst : stepS (r.s i) c f h = .ok v h1 := hst
  have hh : h1 = h := at_eq (stepS_read hk1 c f h).symm hst
  subst hh
  obtain ⟨r1, r2⟩ := checks_run hu ho hS hW ck rest (fun j hj => hk j (.tail _ hj)) hx2
  have hview : View r F f0 i f := hS.view (hu i hi) ho (fun p hp => hW i hD p hp) fun hne => absurd hk1 hne
  refine ⟨r1, fun j hj => ?_⟩
  cases hj with
  | tail _ hj => exact r2 j hj
  | head =>
   refine ⟨v, fun t ht => ?_, .inr (.inl ⟨hk1, fun f' hf' => ?_⟩)⟩
   · rw [← hS.1 i hi hD t ht]; exact hv t ht
   · rw [stepS_agree (hf'.agree hview)]; exact hst
end Go.Ab
namespace Go.Ab
variable [Val]
open Go
def EpsOK (r : Rgn) : List Ep → Option Nat → List Nat → Prop
 | [], _, _ => True
 | e :: l, last, done =>
  (∀ h, e.hv = some h → r.k h = 3 ∧ ∀ g, last = some g → (r.a h).testBit g = true) ∧
  (∀ i ∈ e.ls, r.k i ≠ 3 ∧ ∀ h, e.hv = some h → (r.a i).testBit h = true) ∧
  (∀ i, (i ∈ done ∨ (i ∈ e.ls ∧ ∃ j ∈ e.ls, r.k j = 2)) → r.k i = 1 → (∃ h, e.hv = some h ∧ (r.a h).testBit i = true) ∨ i ∈ e.ck) ∧
  (∀ i ∈ e.ck, r.k i = 1 ∧ (i ∈ done ∨ i ∈ e.ls)) ∧
  EpsOK r l (match e.hv with
   | some h => some h
   | none => last) (done ++ e.ls)
theorem any_mem {l : List Nat} {i : Nat} (h : l.any (Nat.beq i) = true) : i ∈ l := by
 obtain ⟨j, h1, h2⟩ := List.any_eq_true.1 h
 rw [beq_iff.1 h2]; exact h1
theorem okEps_spec {r : Rgn} : ∀ {l : List Ep} {last : Option Nat} {done : List Nat}, r.okEps l last done = true → EpsOK r l last done
 | [], _, _, _ => trivial
 | e :: l, last, done, h => by
  unfold Rgn.okEps at h
  simp only [Bool.and_eq_true] at h
  obtain ⟨h1, h2, h3, h4, h5⟩ := h
  refine ⟨?_, ?_, ?_, ?_, okEps_spec h5⟩
  · intro g hg
    rw [hg] at h1
    cases last with
    | none => exact ⟨beq_iff.1 h1, fun g' hg' => by cases hg'⟩
    | some g0 =>
     have h1 : and (Nat.beq (r.k g) 3) ((r.a g).testBit g0) = true := h1
     rw [Bool.and_eq_true] at h1
     exact ⟨beq_iff.1 h1.1, fun g' hg' => by cases hg'; exact h1.2⟩
  · intro i hi
    have := List.all_eq_true.1 h2 i hi
    rw [Bool.and_eq_true, Bool.not_eq_true'] at this
    refine ⟨(fun hk => by rw [beq_iff.2 hk] at this; cases this.1), fun g hg => ?_⟩
    have h6 := this.2
    rw [hg] at h6; exact h6
  · intro i hi hk
    have hmem : i ∈ done ++ ifb (e.ls.any fun i => Nat.beq (r.k i) 2) e.ls [] := by
     rcases hi with hi | ⟨hi, j, hj, hj2⟩
     · exact List.mem_append_left _ hi
     · refine List.mem_append_right _ ?_
       rw [show (e.ls.any fun i => Nat.beq (r.k i) 2) = true from List.any_eq_true.2 ⟨j, hj, beq_iff.2 hj2⟩]
       exact hi
    have := List.all_eq_true.1 h3 i hmem
    rw [Bool.or_eq_true, Bool.or_eq_true, Bool.not_eq_true'] at this
    rcases this with h | h | h
    · rw [beq_iff.2 hk] at h; cases h
    · left
      cases hv : e.hv with
      | none => rw [hv] at h; simp at h
      | some g => rw [hv] at h; exact ⟨g, rfl, h⟩
    · exact .inr (any_mem h)
  · intro i hi
    have := List.all_eq_true.1 h4 i hi
    rw [Bool.and_eq_true] at this
    exact ⟨beq_iff.1 this.1, List.mem_append.1 (any_mem this.2)⟩
end Go.Ab
namespace Go.Ab
variable [Val]
open Go
variable {C : Cx} {ds : List Deferred}
theorem Ext.grow {e0 e : Emb} {h0 h h2 : Hp} {w0 w : World} (x : Ext e0 h0 w0 e h w) (g : h.grew h2) : Ext e0 h0 w0 e h2 w where
 le := x.le
 hr := x.hr.congr g.1 fun b k y hb => g.2.1 b (x.hr.lt b k y hb).2
 names := x.names
 blocks := x.blocks
 frame := x.frame
 ours := fun b hb hno => (g.2.1 b (Nat.lt_of_lt_of_le hb x.n)).trans (x.ours b hb hno)
 ro := fun b hb => (g.2.1 b (Nat.lt_of_lt_of_le hb.1 x.n)).trans (x.ro b hb)
 n := Nat.le_trans x.n g.1
 size := x.size
 os := x.os
 output := x.output
 lk := g.2.2.trans x.lk
theorem Ext.late {e0 e : Emb} {h0 H : Hp} {w0 w w' : World} (x : Ext e0 h0 w0 e H w) {b : Nat} (hb0 : h0.n ≤ b) (hbn : b < H.n) (hno : ∀ g, e b g = none) {B : Blk} (hB : H.get b = some B) {ob : Obj} {sz : Nat}
 (hh : w'.heap = w.heap.push ob) (hos : w'.os = w.os) (hout : w'.output = w.output) (hbr : ∀ e' : Emb, e.le e' → BR e' B 0 ⟨w.heap.size, 0, 0, sz⟩ (some ob)) :
 ∃ e', e.le e' ∧ e' b 0 = some ⟨w.heap.size, 0, 0, sz⟩ ∧ (∀ k g, k ≠ b → e' k g = e k g) ∧ (∀ k g x, e' k g = some x → e k g = some x ∨ x.r = w.heap.size) ∧ Ext e0 h0 w0 e' H w' := by
 let y : Loc := ⟨w.heap.size, 0, 0, sz⟩
 let e' : Emb := fun k g => if k = b ∧ g = 0 then some y else e k g
 have hle : e.le e' := fun k g z hz => by
  show (if k = b ∧ g = 0 then some y else e k g) = some z
  by_cases hc : k = b ∧ g = 0
  · rw [hc.1, hno g] at hz; cases hz
  · rw [if_neg hc]; exact hz
 have hnew : e' b 0 = some y := by simp [e']
 have hcase : ∀ k g z, e' k g = some z → (k = b ∧ g = 0 ∧ z = y) ∨ e k g = some z := fun k g z hz => by
  by_cases hc : k = b ∧ g = 0
  · have : e' k g = some y := by show (if k = b ∧ g = 0 then some y else e k g) = some y; rw [if_pos hc]
    rw [this] at hz; cases hz; exact .inl ⟨hc.1, hc.2, rfl⟩
  · have : e' k g = e k g := by show (if k = b ∧ g = 0 then some y else e k g) = _; rw [if_neg hc]
    rw [this] at hz; exact .inr hz
 have hold : ∀ q, q < w.heap.size → w'.heap[q]? = w.heap[q]? := fun q hq => by
  rw [hh, Array.getElem?_push, if_neg (by omega)]
 have hsz : w'.heap.size = w.heap.size + 1 := by rw [hh, Array.size_push]
 have hr := x.hr
 refine ⟨e', hle, hnew, (fun k g hk => by show (if k = b ∧ g = 0 then some y else e k g) = _; rw [if_neg (fun hc => hk hc.1)]), (fun k g z hz => (hcase k g z hz).symm.imp id fun hh => by rw [hh.2.2]), x.le.trans hle, ⟨?_, ?_, ?_⟩, ?_, ?_, ?_, x.ours, x.ro, x.n, by have := x.size; omega, hos.trans x.os, hout.trans x.output, x.lk⟩
 · intro k g z k' g' z' hz hz' hrr
   rcases hcase _ _ _ hz with ⟨h1, h2, h3⟩ | h1 <;> rcases hcase _ _ _ hz' with ⟨h1', h2', h3'⟩ | h1'
   · subst h3; subst h3'; exact ⟨h1.trans h1'.symm, rfl⟩
   · subst h3; have := (hr.lt _ _ _ h1').1; have hrr : w.heap.size = z'.r := hrr; omega
   · subst h3'; have := (hr.lt _ _ _ h1).1; have hrr : z.r = w.heap.size := hrr; omega
   · exact hr.inj _ _ _ _ _ _ h1 h1' hrr
 · intro k g z hz
   rw [hsz]
   rcases hcase _ _ _ hz with ⟨h1, h2, h3⟩ | h1
   · subst h3; exact ⟨Nat.lt_succ_self _, by omega⟩
   · have := hr.lt _ _ _ h1; exact ⟨by omega, by omega⟩
 · intro k g z hz
   rcases hcase _ _ _ hz with ⟨h1, h2, h3⟩ | h1
   · subst h1; subst h2; subst h3
     refine ⟨B, hB, ?_⟩
     have : w'.heap[w.heap.size]? = some ob := by rw [hh, Array.getElem?_push, if_pos rfl]
     show BR e' B 0 y w'.heap[w.heap.size]?
     rw [this]
     exact hbr e' hle
   · obtain ⟨bb, h2, h3⟩ := hr.at' _ _ _ h1
     refine ⟨bb, h2, ?_⟩
     rw [hold _ (hr.lt _ _ _ h1).1]
     exact h3.mono hle
 · intro k g z hz
   rcases hcase _ _ _ hz with ⟨h1, _, _⟩ | h1
   · exact .inr (by omega)
   · exact x.names k g z h1
 · intro k g z hz
   rcases hcase _ _ _ hz with ⟨h1, h2, h3⟩ | h1
   · subst h3; exact .inr x.size
   · exact x.blocks k g z h1
 · intro q hq hro
   rw [hold q (Nat.lt_of_lt_of_le hq x.size)]
   exact x.frame q hq hro
theorem OrderOK.congr {r : Rgn} : ∀ {l : List Nat} {D D' : Nat → Prop}, OrderOK r l D → (∀ j, D j ↔ D' j) → OrderOK r l D'
 | [], D, D', h, he => fun i hi => (he i).1 (h i hi)
 | i :: l, D, D', h, he => ⟨fun hd => h.1 ((he i).2 hd), fun p hp => (he p).1 (h.2.1 p hp), OrderOK.congr h.2.2 fun j => by rw [he j]⟩
theorem OrderOK.out {r : Rgn} : ∀ {l : List Nat} {D : Nat → Prop}, OrderOK r l D → ∀ i ∈ l, ¬ D i
 | i :: l, D, h, j, hj => by
  cases hj with
  | head => exact h.1
  | tail _ hj => exact fun hD => OrderOK.out h.2.2 j hj (.inl hD)
theorem OrderOK.append {r : Rgn} : ∀ {l m : List Nat} {D : Nat → Prop}, OrderOK r (l ++ m) D → Seq r l D ∧ OrderOK r m (fun j => D j ∨ j ∈ l)
 | [], m, D, h => ⟨trivial, OrderOK.congr h fun j => by simp⟩
 | i :: l, m, D, h => by
  obtain ⟨h1, h2⟩ := OrderOK.append (l := l) h.2.2
  exact ⟨⟨h.1, h.2.1, h1⟩, h2.congr fun j => by simp [or_assoc]⟩
theorem OrderOK.all {r : Rgn} : ∀ {l : List Nat} {D : Nat → Prop}, OrderOK r l D → ∀ i, i < r.ss.length → D i ∨ i ∈ l
 | [], D, h, i, hi => .inl (h i hi)
 | j :: l, D, h, i, hi => by
  rcases OrderOK.all h.2.2 i hi with (h1 | h1) | h1
  · exact .inl h1
  · exact .inr (h1 ▸ .head _)
  · exact .inr (.tail _ h1)
theorem OrderOK.first {r : Rgn} : ∀ {l : List Nat} {D E : Nat → Prop}, OrderOK r l D → (∀ i, D i → E i) → (∃ i ∈ l, ¬ E i) → ∃ i ∈ l, ¬ E i ∧ ∀ p, (r.a i).testBit p = true → E p
 | i :: l, D, E, h, he, hn => by
  by_cases hi : E i
  · obtain ⟨j, hj, hj2⟩ := hn
    have hj3 : j ∈ l := by
     cases hj with
     | head => exact absurd hi hj2
     | tail _ hj => exact hj
    obtain ⟨k, h1, h2⟩ := OrderOK.first h.2.2 (E := E) (fun j hj => hj.elim (he j) fun hh => hh ▸ hi) ⟨j, hj3, hj2⟩
    exact ⟨k, .tail _ h1, h2⟩
  · exact ⟨i, .head _, hi, fun p hp => he p (h.2.1 p hp)⟩
theorem eps_behind {r : Rgn} : ∀ {l : List Ep} {g : Nat} {ld : List Nat}, EpsOK r l (some g) ld → (∀ e ∈ l, e.hv.isSome = true) → ∀ i ∈ l.flatMap Ep.order, ∃ x, (x = g ∨ x ∈ l.flatMap Ep.order) ∧ (r.a i).testBit x = true
 | e :: l, g, ld, h, hs, i, hi => by
  obtain ⟨h1, h2, _, _, h5⟩ := h
  obtain ⟨d, hd⟩ := Option.isSome_iff_exists.1 (hs e (.head _))
  have hd1 : d ∈ e.order := by unfold Ep.order; rw [hd]; exact .head _
  rw [List.flatMap_cons, List.mem_append] at hi
  rcases hi with hi | hi
  · unfold Ep.order at hi
    rw [hd] at hi
    have hi : i ∈ d :: e.ls := hi
    rcases List.mem_cons.1 hi with rfl | hi
    · exact ⟨g, .inl rfl, (h1 i hd).2 g rfl⟩
    · exact ⟨d, .inr (List.mem_append_left _ hd1), (h2 i hi).2 d hd⟩
  · rw [hd] at h5
    obtain ⟨x, hx, hx2⟩ := eps_behind h5 (fun e' he' => hs e' (.tail _ he')) i hi
    refine ⟨x, .inr ?_, hx2⟩
    rcases hx with rfl | hx
    · exact List.mem_append_left _ hd1
    · exact List.mem_append_right _ hx
structure Mid (r : Rgn) (F f0 : Fr) (c : CallT) (He : Hp) (dn : Nat → Prop) (ld : List Nat) (last : Option Nat) (rest : List Ep) (fj : Fr) (H : Hp) : Prop where
 run : runR (rest.flatMap (Ep.out r)) c fj H = .norm F He
 slots : Slots r F f0 dn fj
 whole : Whole r dn
 eps : EpsOK r rest last ld
 order : OrderOK r (rest.flatMap Ep.order) dn
 isSome : ∀ e ∈ rest, e.hv.isSome = true
 lights : ∀ i, dn i → i ∈ ld ∨ r.k i = 3
 ldn : ∀ i ∈ ld, dn i
 lt : ∀ i ∈ rest.flatMap Ep.order, i < r.ss.length
 lt2 : ∀ i, dn i → i < r.ss.length
theorem out_once {r : Rgn} {ps : List Ep} {s : CS} (hs : s ∈ ps.flatMap (Ep.out r)) (ha : s.again = false) : ∃ j, j ∈ ps.flatMap Ep.order ∧ s = r.s j := by
 obtain ⟨e, he, hs⟩ := List.mem_flatMap.1 hs
 unfold Ep.out at hs
 rcases List.mem_append.1 hs with hs | hs
 · obtain ⟨j, hj, rfl⟩ := List.mem_map.1 hs
   exact ⟨j, List.mem_flatMap.2 ⟨e, he, hj⟩, rfl⟩
 · obtain ⟨j, _, rfl⟩ := List.mem_map.1 hs
   cases ha
theorem epoch_rest {r : Rgn} {F f0 : Fr} {c : CallT} {He : Hp} (hu : ∀ i, i < r.ss.length → r.okUse i = true) (ho : Once r) (hag : ∀ i, i < r.ss.length → (r.s i).again = false) {dn : Nat → Prop} {ld ls ck : List Nat} {last : Option Nat} {rest : List Ep} {f1 : Fr} {H1 : Hp}
 (hrun : runR (ls.map r.s ++ ((ck.map fun i => { r.s i with again := true }) ++ rest.flatMap (Ep.out r))) c f1 H1 = .norm F He)
 (hS : Slots r F f0 dn f1) (hW : Whole r dn) (heps : EpsOK r rest last (ld ++ ls)) (hord : OrderOK r (ls ++ rest.flatMap Ep.order) dn) (his : ∀ e ∈ rest, e.hv.isSome = true) (hl : ∀ i, dn i → i ∈ ld ∨ r.k i = 3) (hldn : ∀ i ∈ ld, dn i)
 (hlt : ∀ i ∈ ls ++ rest.flatMap Ep.order, i < r.ss.length) (hk3 : ∀ i ∈ ls, r.k i ≠ 3) (hck : ∀ i ∈ ck, r.k i = 1 ∧ (i ∈ ld ∨ i ∈ ls)) (hlt2 : ∀ i, dn i → i < r.ss.length) :
 ∃ (f2 : Fr) (H2 : Hp) (nm : Nat → Option Nat), Mid r F f0 c He (fun j => dn j ∨ j ∈ ls) (ld ++ ls) last rest f2 H2 ∧ H1.grew H2 ∧
  (∀ i ∈ ls, (r.k i = 1 → ∀ j ∈ ls, r.k j ≠ 2) → LFact r F f0 c H2 nm i) ∧ (∀ i ∈ ck, ∀ nm, LFact r F f0 c H2 nm i) ∧
  (∀ i b, nm i = some b → i ∈ ls ∧ H1.n ≤ b ∧ b < H2.n) ∧ (∀ i j b, nm i = some b → nm j = some b → i = j) := by
 obtain ⟨hseq, hord2⟩ := hord.append
 obtain ⟨f2, H2, nm, r1, r2, r3, r4, _, r6, r7, r8⟩ := lights_run hu ho hag ls dn f1 H1 _ (fun i hi => ⟨hlt i (List.mem_append_left _ hi), hk3 i hi⟩) hW hseq (fun s hs ha => by
  rcases List.mem_append.1 hs with hs | hs
  · obtain ⟨j, _, rfl⟩ := List.mem_map.1 hs
    cases ha
  · obtain ⟨j, hj, rfl⟩ := out_once hs ha
    exact ⟨j, hlt j (List.mem_append_right _ hj), rfl, fun hd => hord2.out j hj (.inl hd), fun hd => hord2.out j hj (.inr hd)⟩) hS hrun
 have hckr : ∀ nm, _ := fun nm => checks_run (nm := nm) hu ho r3 r4 ck (rest.flatMap (Ep.out r)) (fun i hi => by
  obtain ⟨h1, h2⟩ := hck i hi
  rcases h2 with h2 | h2
  · exact ⟨hlt2 i (hldn i h2), h1, .inl (hldn i h2)⟩
  · exact ⟨hlt i (List.mem_append_left _ h2), h1, .inr h2⟩) r1
 refine ⟨f2, H2, nm, ⟨(hckr nm).1, r3, r4, heps, hord2, his, ?_, ?_, fun i hi => hlt i (List.mem_append_right _ hi), fun i hi => hi.elim (hlt2 i) fun h => hlt i (List.mem_append_left _ h)⟩, r2, r6, fun i hi nm => (hckr nm).2 i hi, r7, r8⟩
 · rintro i (hi | hi)
   · exact (hl i hi).imp (List.mem_append_left _) id
   · exact .inl (List.mem_append_right _ hi)
 · intro i hi
   exact (List.mem_append.1 hi).imp (hldn i) id
end Go.Ab
namespace Go.Ab
variable [Val]
open Go
variable {C : Cx} {ds : List Deferred}
section
variable {n : Nat} {ops : Array Oper}
theorem of_again (i : Nat) : ((Rgn.of C n ops).s i).again = false := by
 show ((nthA (mkSeq C n ops.toList ops.toList) i).getD _).again = false
 rw [nthA_eq, mkSeq_get]
 cases ops.toList[i]? with
 | none => rfl
 | some o =>
  show (mkS C n ops.toList o).again = false
  rcases mkS_spec (C := C) (n := n) (ops := ops.toList) (o := o) with ⟨g, g1, g2, _⟩ | ⟨q, g2⟩ <;> rw [g2]
theorem of_far {i : Nat} (h : ¬ i < (Rgn.of C n ops).ss.length) : (Rgn.of C n ops).s i = ⟨.bad "region", none, none, false⟩ := by
 show (nthA (Rgn.of C n ops).ss i).getD _ = _
 rw [nthA_eq, List.getElem?_eq_none (by omega)]; rfl
theorem ancL_prefix : ∀ (l : List Oper) (acc : List Nat) (i : Nat), i < acc.length → nthA (ancL l acc) i = nthA acc i
 | [], acc, i, h => rfl
 | o :: l, acc, i, h => by
  show nthA (ancL l (acc ++ [ancE acc o.after.toList])) i = _
  rw [ancL_prefix l _ i (by simp; omega), nthA_eq, nthA_eq, List.getElem?_append_left h]
theorem ancE_edge (acc : List Nat) (e : Edge) (hb : Region.binds .any e = true) : ∀ (es : List Edge), e ∈ es → (ancE acc es).testBit e.on = true
 | d :: es, he => by
  show (ifb (Region.binds .any d) (Nat.lor (Nat.lor (2 ^ d.on) ((nthA acc d.on).getD 0)) (ancE acc es)) (ancE acc es)).testBit e.on = true
  rcases List.mem_cons.1 he with hh | he
  · rw [← hh, hb, ifb_true]
    show ((2 ^ e.on ||| (nthA acc e.on).getD 0) ||| ancE acc es).testBit e.on = true
    rw [Nat.testBit_or, Nat.testBit_or, Nat.testBit_two_pow_self]; rfl
  · have ih := ancE_edge acc e hb es he
    cases Region.binds .any d with
    | false => exact ih
    | true =>
     rw [ifb_true]
     show ((2 ^ d.on ||| (nthA acc d.on).getD 0) ||| ancE acc es).testBit e.on = true
     rw [Nat.testBit_or, ih, Bool.or_true]
theorem ancL_edge (o : Oper) (e : Edge) (he : e ∈ o.after.toList) (hb : Region.binds .any e = true) (l : List Oper) : ∀ (acc : List Nat) (k : Nat), l[k]? = some o → ((nthA (ancL l acc) (acc.length + k)).getD 0).testBit e.on = true := by
 induction l with
 | nil => intro acc k h; simp at h
 | cons o' l ih =>
  intro acc k h
  show ((nthA (ancL l (acc ++ [ancE acc o'.after.toList])) (acc.length + k)).getD 0).testBit e.on = true
  cases k with
  | zero =>
   have h : o' = o := by simpa using h
   rw [h, ancL_prefix l _ _ (by simp), nthA_eq, Nat.add_zero, List.getElem?_append_right (Nat.le_refl _), Nat.sub_self]
   exact ancE_edge acc e hb _ he
  | succ k =>
   have := ih (acc ++ [ancE acc o'.after.toList]) k (by simpa using h)
   rw [List.length_append, List.length_singleton, show acc.length + 1 + k = acc.length + (k + 1) by omega] at this
   exact this
theorem of_edge {i : Nat} {o : Oper} (ho : ops[i]? = some o) {e : Edge} (he : e ∈ o.after) (hb : Region.binds .any e = true) : ((Rgn.of C n ops).a i).testBit e.on = true := by
 have := ancL_edge o e (by simpa using he) hb ops.toList [] i (by simpa using ho)
 rw [List.length_nil, Nat.zero_add] at this
 exact this
structure Plan (r : Rgn) : Prop where
 use : ∀ i, i < r.ss.length → r.okUse i = true
 once : Once r
 again : ∀ i, (r.s i).again = false
 make : ∀ i, i < r.ss.length → r.k i = 2 → r.m i = true
theorem LFact.nm {r : Rgn} {F f0 : Fr} {c : CallT} {H : Hp} {nm nm' : Nat → Option Nat} {i : Nat} (h : LFact r F f0 c H nm i) (he : nm' i = nm i) : LFact r F f0 c H nm' i := by
 unfold LFact at *
 rw [he]; exact h
structure Inv (ds : List Deferred) (r : Rgn) (F f0 : Fr) (c : CallT) (He : Hp) (n : Nat) (e0 : Emb) (h0 : Hp) (w0 : World) (D : Nat → Prop) (a : Act) (w : World)
 (dn : Nat → Prop) (ld : List Nat) (last : Option Nat) (rest : List Ep) (fj : Fr) (H : Hp) (nm : Nat → Option Nat) (e : Emb) (f : Fr) : Prop where
 mid : Mid r F f0 c He dn ld last rest fj H
 ext : Ext e0 h0 w0 e H w
 fn : FN ds n e f a
 slots : Slots r F f0 D f
 sub : ∀ i, D i → dn i
 deeds : ∀ i, dn i → r.k i = 3 → D i
 facts : ∀ i, dn i → ¬ D i → LFact r F f0 c H nm i
 names : ∀ i b, ¬ D i → nm i = some b → h0.n ≤ b ∧ b < H.n ∧ ∀ g, e b g = none
 inj : ∀ i j b, ¬ D i → ¬ D j → nm i = some b → nm j = some b → i = j
def InvE (ds : List Deferred) (r : Rgn) (F f0 : Fr) (c : CallT) (He : Hp) (n : Nat) (e0 : Emb) (h0 : Hp) (w0 : World) (D : Nat → Prop) (a : Act) (w : World) : Prop :=
 ∃ dn ld last rest fj H nm e f, Inv ds r F f0 c He n e0 h0 w0 D a w dn ld last rest fj H nm e f
theorem Ext.none {e e' : Emb} {h h' : Hp} {w w' : World} (x : Ext e h w e' h' w') {b : Nat} (hb : b < h.n) (hno : ∀ g, e b g = none) (g : Nat) : e' b g = none := by
 cases hx : e' b g with
 | none => rfl
 | some y =>
  rcases x.names b g y hx with ⟨g0, x0, h0⟩ | hge
  · rw [hno g0] at h0; cases h0
  · omega
section
variable {F f0 : Fr} {c : CallT} {He : Hp} {e0 : Emb} {h0 : Hp} {w0 : World} {D : Nat → Prop} {a : Act} {w : World} {dn : Nat → Prop} {ld : List Nat} {last : Option Nat} {rest : List Ep} {fj : Fr} {H : Hp} {nm : Nat → Option Nat} {e : Emb} {f : Fr} {Q : Exit → Act → World → Prop}
theorem light_step (hP : Plan (Rgn.of C n ops)) (hg : GR C e0) (hc : CallOK C c) (I : Inv ds (Rgn.of C n ops) F f0 c He n e0 h0 w0 D a w dn ld last rest fj H nm e f) {i : Nat} {o : Oper} (hi : ops[i]? = some o) (hd : dn i) (hn : ¬ D i)
 (hanc : ∀ p, ((Rgn.of C n ops).a i).testBit p = true → D p) (hW : Whole (Rgn.of C n ops) D) : owOp C.P ops Q i (InvE ds (Rgn.of C n ops) F f0 c He n e0 h0 w0 fun j => D j ∨ j = i) a w := by
 have hlen := I.mid.lt2 i hd
 have hview : View (Rgn.of C n ops) F f0 i f := I.slots.view (hP.use i hlen) hP.once hanc fun _ p _ hor hD => hor.elim (fun h => hn (h ▸ hD)) fun hb => hn (hW p hD i hb)
 obtain ⟨v, hv, hcase⟩ := I.facts i hd hn
 have hgr : GR C e := hg.mono I.ext.le
 have fin : ∀ (e' : Emb) (v' : Value) (w' : World), e.le e' → Ext e0 h0 w0 e' H w' → VR e' v v' → (∀ j b, ¬ D j → j ≠ i → nm j = some b → ∀ g, e' b g = none) → (((Rgn.of C n ops).s i).d = o.dst.map path ∧ ∀ t, o.dst = some t → t < n) →
  InvE ds (Rgn.of C n ops) F f0 c He n e0 h0 w0 (fun j => D j ∨ j = i) (a.put o.dst v') w' := by
  intro e' v' w' hle hext hvr hnone ⟨hd1, hd2⟩
  refine ⟨dn, ld, last, rest, fj, H, nm, e', (putD ((Rgn.of C n ops).s i).d v f).out, I.mid, hext, ?_, I.slots.step hlen hv, ?_, fun j h1 h2 => .inl (I.deeds j h1 h2), fun j h1 h2 => I.facts j h1 fun h => h2 (.inl h), ?_, ?_⟩
  · rw [hd1]; exact (I.fn.mono hle).putO hd2 hvr
  · rintro j (h | rfl)
    · exact I.sub j h
    · exact hd
  · intro j b h1 h2
    have h3 := I.names j b (fun h => h1 (.inl h)) h2
    exact ⟨h3.1, h3.2.1, hnone j b (fun h => h1 (.inl h)) (fun h => h1 (.inr h)) h2⟩
  · exact fun j k b h1 h2 => I.inj j k b (fun h => h1 (.inl h)) fun h => h2 (.inl h)
 rcases hcase with ⟨_, hx⟩ | ⟨_, hx⟩ | ⟨hk, ht, ht', hx, hmade⟩
 · have hx := hx f H hview
   exact stepS_sim hc hi hx hgr I.fn I.ext.hr fun e' v' w' hext hvr => fin e' v' w' hext.le (I.ext.trans hext) hvr (fun j b h1 _ h2 => hext.none (I.names j b h1 h2).2.1 (I.names j b h1 h2).2.2) (of_d hi hx)
 · have hx := hx f hview
   exact stepS_sim hc hi hx hgr I.fn I.ext.hr fun e' v' w' hext hvr => fin e' v' w' hext.le (I.ext.trans hext) hvr (fun j b h1 _ h2 => hext.none (I.names j b h1 h2).2.1 (I.names j b h1 h2).2.2) (of_d hi hx)
 · have hx := hx f hview
   have hm : isMkOp o = true := by rw [← of_m (C := C) (n := n) hi]; exact hP.make i hlen hk
   refine makeS_sim hi hm hk hx hgr I.fn (fun hu _ => ?_) fun v' w' B ob sz made => ?_
   · subst hu
     exact fin e undef w (.refl e) I.ext (undef_VR e) (fun j b h1 _ h2 => (I.names j b h1 h2).2.2) (of_d hi hx)
   · rcases hmade with hh | ⟨B2, hB2, hnm, hlt, hget⟩
     · have h1 := made.ours
       rw [hh] at h1
       have h2 : ht.n = ht.n + 1 := congrArg Hp.n h1
       omega
     · have hB : B = B2 := by
        have h1 := made.ours
        rw [hB2] at h1
        have h2 : Hp.get ⟨setT B2 (path ht.n) ht.t, ht.n + 1, ht.lk⟩ ht.n = Hp.get ⟨setT B (path ht.n) ht.t, ht.n + 1, ht.lk⟩ ht.n := by rw [h1]
        rw [Hp.get_set _ _ ht.n, Hp.get_set _ _ ht.n, if_pos rfl, if_pos rfl] at h2
        exact (Option.some.inj h2).symm
       subst hB
       obtain ⟨n1, n2, n3⟩ := I.names i _ hn hnm
       obtain ⟨e', hle, hnew, hoth, _, hext⟩ := I.ext.late n1 n2 n3 hget made.heap made.os made.output made.br
       refine fin e' v' w' hle hext (made.vr e' hle hnew) (fun j b h1 h2 h3 g => ?_) (of_d hi hx)
       have hne : b ≠ ht.n := fun hh => h2 (I.inj j i b h1 hn h3 (hh ▸ hnm))
       rw [hoth b g hne]
       exact (I.names j b h1 h3).2.2 g
theorem heavy_step (hP : Plan (Rgn.of C n ops)) (hg : GR C e0) (hc : CallOK C c) (I : Inv ds (Rgn.of C n ops) F f0 c He n e0 h0 w0 D a w dn ld last rest fj H nm e f) {i : Nat} {o : Oper} (hi : ops[i]? = some o) (hnd : ¬ dn i)
 (hanc : ∀ p, ((Rgn.of C n ops).a i).testBit p = true → D p) (hW : Whole (Rgn.of C n ops) D) : owOp C.P ops Q i (InvE ds (Rgn.of C n ops) F f0 c He n e0 h0 w0 fun j => D j ∨ j = i) a w := by
 have hlen : i < (Rgn.of C n ops).ss.length := by rw [of_length]; exact (Array.getElem?_eq_some_iff.1 hi).1
 have hmem : i ∈ rest.flatMap Ep.order := (I.mid.order.all i hlen).resolve_left hnd
 have hout := I.mid.order.out
 have hfirst : ∃ ep rest', rest = ep :: rest' ∧ ep.hv = some i := by
  cases hr : rest with
  | nil => rw [hr] at hmem; cases hmem
  | cons ep rest' =>
   refine ⟨ep, rest', rfl, ?_⟩
   rw [hr] at hmem hout
   obtain ⟨d, hd⟩ := Option.isSome_iff_exists.1 (I.mid.isSome ep (by rw [hr]; exact .head _))
   have heps := I.mid.eps
   rw [hr] at heps
   obtain ⟨h1, h2, _, _, h5⟩ := heps
   have hno : ∀ x, x ∈ (ep :: rest').flatMap Ep.order → ¬ ((Rgn.of C n ops).a i).testBit x = true := fun x hx hb => hout x hx (I.sub x (hanc x hb))
   have hdm : d ∈ (ep :: rest').flatMap Ep.order := by
    rw [List.flatMap_cons]
    refine List.mem_append_left _ ?_
    unfold Ep.order; rw [hd]; exact .head _
   by_cases hid : i = d
   · rw [hd, hid]
   · exfalso
     rw [List.flatMap_cons, List.mem_append] at hmem
     rcases hmem with hmem | hmem
     · unfold Ep.order at hmem
       rw [hd] at hmem
       have hmem : i ∈ d :: ep.ls := hmem
       rcases List.mem_cons.1 hmem with hh | hh
       · exact hid hh
       · exact hno d hdm ((h2 i hh).2 d hd)
     · rw [hd] at h5
       obtain ⟨x, hx, hx2⟩ := eps_behind h5 (fun e' he' => I.mid.isSome e' (by rw [hr]; exact .tail _ he')) i hmem
       rcases hx with rfl | hx
       · exact hno x hdm hx2
       · exact hno x (by rw [List.flatMap_cons]; exact List.mem_append_right _ hx) hx2
 obtain ⟨ep, rest', rfl, hep⟩ := hfirst
 have heps := I.mid.eps
 obtain ⟨h1, h2, h3, h4, h5⟩ := heps
 rw [hep] at h5
 have horder : ep.order = i :: ep.ls := by unfold Ep.order; rw [hep]; rfl
 have hord := I.mid.order
 rw [List.flatMap_cons, horder] at hord hout
 obtain ⟨_, hord1, hord2⟩ := hord
 have hrun := I.mid.run
 rw [List.flatMap_cons, Ep.out, horder, List.append_assoc, List.map_cons, List.cons_append] at hrun
 obtain ⟨v, H1, hst, hrun⟩ := runR_once (hP.again i) hrun
 have hviewj : View (Rgn.of C n ops) F f0 i fj := I.mid.slots.view (hP.use i hlen) hP.once hord1 fun _ p _ hor hD => hor.elim (fun h => hnd (h ▸ hD)) fun hb => hnd (I.mid.whole p hD i hb)
 have hviewf : View (Rgn.of C n ops) F f0 i f := I.slots.view (hP.use i hlen) hP.once hanc fun _ p _ hor hD => hor.elim (fun h => hnd (h ▸ I.sub p hD)) fun hb => hnd (I.sub i (hW p hD i hb))
 have hst' : stepS ((Rgn.of C n ops).s i) c f H = .ok v H1 := by rw [stepS_agree (hviewf.agree hviewj)]; exact hst
 have hlt : ∀ j ∈ ep.ls ++ rest'.flatMap Ep.order, j < (Rgn.of C n ops).ss.length := fun j hj => I.mid.lt j (by rw [List.flatMap_cons, horder]; exact List.mem_cons_of_mem _ hj)
 have hne : ∀ j ∈ ep.ls ++ rest'.flatMap Ep.order, j ≠ i := fun j hj hh => hord2.out j hj (.inr hh)
 have hVF : VF (Rgn.of C n ops) F i v := by
  intro t ht
  rw [runR_slot hrun, slot_putD, if_pos ht]
  intro s hs hsa hsd
  have hj : ∃ j, j ∈ ep.ls ++ rest'.flatMap Ep.order ∧ s = (Rgn.of C n ops).s j := by
   rcases List.mem_append.1 hs with hs | hs
   · obtain ⟨j, hj, rfl⟩ := List.mem_map.1 hs
     exact ⟨j, List.mem_append_left _ hj, rfl⟩
   · rcases List.mem_append.1 hs with hs | hs
     · obtain ⟨j, _, rfl⟩ := List.mem_map.1 hs
       cases hsa
     · obtain ⟨j, hj, rfl⟩ := out_once hs hsa
       exact ⟨j, List.mem_append_right _ hj, rfl⟩
  obtain ⟨j, hj, rfl⟩ := hj
  exact hne j hj (hP.once j i t (hlt j hj) hlen hsd ht)
 obtain ⟨f2, H2, nm2, mid2, hgrew, hls, hck, hnm, hinj⟩ := epoch_rest hP.use hP.once (fun i _ => hP.again i) (dn := fun j => dn j ∨ j = i) (ld := ld) (ls := ep.ls) (ck := ep.ck) (last := some i) (rest := rest') hrun
  (I.mid.slots.step hlen hVF) (I.mid.whole.step hord1) h5 hord2 (fun e' he' => I.mid.isSome e' (.tail _ he')) (fun j hj => hj.elim (I.mid.lights j) fun hh => .inr (hh ▸ (h1 i hep).1)) (fun j hj => .inl (I.mid.ldn j hj)) hlt (fun j hj => (h2 j hj).1) h4
  (fun j hj => hj.elim (I.mid.lt2 j) fun hh => hh ▸ hlen)
 have hgr : GR C e := hg.mono I.ext.le
 refine stepS_sim hc hi hst' hgr I.fn I.ext.hr fun e' v' w' hext hvr => ?_
 have hlsn : ∀ j ∈ ep.ls, ¬ dn j := fun j hj hd => hord2.out j (List.mem_append_left _ hj) (.inl hd)
 refine ⟨_, _, _, _, f2, H2, fun j => if j ∈ ep.ls then nm2 j else nm j, e', (putD ((Rgn.of C n ops).s i).d v f).out, mid2, (I.ext.trans hext).grow hgrew, ?_, I.slots.step hlen hVF, ?_, ?_, ?_, ?_, ?_⟩
 · obtain ⟨hd1, hd2⟩ := of_d hi hst'
   rw [hd1]; exact (I.fn.mono hext.le).putO hd2 hvr
 · rintro j (h | rfl)
   · exact .inl (.inl (I.sub j h))
   · exact .inl (.inr rfl)
 · rintro j ((h | rfl) | h) hk
   · exact .inl (I.deeds j h hk)
   · exact .inr rfl
   · exact absurd hk (h2 j h).1
 · rintro j ((hj | hj) | hj) hjn
   · have hjl : j ∉ ep.ls := fun h => hlsn j h hj
     have hjD : ¬ D j := fun h => hjn (.inl h)
     have hcase := I.facts j hj hjD
     by_cases hk1 : (Rgn.of C n ops).k j = 1
     · rcases I.mid.lights j hj with hld | hk3
       · rcases h3 j (.inl hld) hk1 with ⟨d, hd, hb⟩ | hc
         · rw [hep] at hd; cases hd
           exact absurd (hanc j hb) hjD
         · exact hck j hc _
       · rw [hk1] at hk3; cases hk3
     · obtain ⟨u, hu, hcase⟩ := hcase
       refine ⟨u, hu, ?_⟩
       simp only [if_neg hjl]
       rcases hcase with hcase | hcase | ⟨hk, ht, ht', hx, hmade⟩
       · exact .inl hcase
       · exact absurd hcase.1 hk1
       · refine .inr (.inr ⟨hk, ht, ht', hx, hmade.imp id ?_⟩)
         rintro ⟨B, hB, hnmj, hlt', hget⟩
         obtain ⟨n1, n2, n3⟩ := I.names j _ hjD hnmj
         refine ⟨B, hB, hnmj, Nat.lt_of_lt_of_le hlt' (Nat.le_trans hext.n hgrew.1), ?_⟩
         rw [hgrew.2.1 _ (Nat.lt_of_lt_of_le hlt' hext.n), hext.ours _ hlt' n3, hget]
   · exact absurd (.inr hj) hjn
   · have hbase : LFact (Rgn.of C n ops) F f0 c H2 nm2 j := by
      by_cases hcond : (Rgn.of C n ops).k j = 1 → ∀ q ∈ ep.ls, (Rgn.of C n ops).k q ≠ 2
      · exact hls j hj hcond
      · have hk1 : (Rgn.of C n ops).k j = 1 := Classical.byContradiction fun h => hcond fun h' => absurd h' h
        have hmk : ∃ q ∈ ep.ls, (Rgn.of C n ops).k q = 2 := Classical.byContradiction fun h => hcond fun _ q hq hq2 => h ⟨q, hq, hq2⟩
        rcases h3 j (.inr ⟨hj, hmk⟩) hk1 with ⟨d, hd, hb⟩ | hc
        · rw [hep] at hd; cases hd
          exact absurd (I.sub j (hanc j hb)) (hlsn j hj)
        · exact hck j hc _
     exact hbase.nm (if_pos hj)
 · intro j b hjn hb
   have hb : (if j ∈ ep.ls then nm2 j else nm j) = some b := hb
   by_cases hj : j ∈ ep.ls
   · rw [if_pos hj] at hb
     obtain ⟨_, k1, k2⟩ := hnm j b hb
     refine ⟨Nat.le_trans I.ext.n (Nat.le_trans hext.n k1), k2, fun g => ?_⟩
     cases hx : e' b g with
     | none => rfl
     | some y => have := (hext.hr.lt b g y hx).2; omega
   · rw [if_neg hj] at hb
     obtain ⟨n1, n2, n3⟩ := I.names j b (fun h => hjn (.inl h)) hb
     exact ⟨n1, Nat.lt_of_lt_of_le n2 (Nat.le_trans hext.n hgrew.1), hext.none n2 n3⟩
 · intro j q b hjn hqn hb hb'
   have hb : (if j ∈ ep.ls then nm2 j else nm j) = some b := hb
   have hb' : (if q ∈ ep.ls then nm2 q else nm q) = some b := hb'
   by_cases hj : j ∈ ep.ls
   · rw [if_pos hj] at hb
     by_cases hq : q ∈ ep.ls
     · rw [if_pos hq] at hb'; exact hinj j q b hb hb'
     · rw [if_neg hq] at hb'
       have k1 := (hnm j b hb).2.1
       have k2 := (I.names q b (fun h => hqn (.inl h)) hb').2.1
       have := hext.n
       omega
   · rw [if_neg hj] at hb
     by_cases hq : q ∈ ep.ls
     · rw [if_pos hq] at hb'
       have k1 := (hnm q b hb').2.1
       have k2 := (I.names j b (fun h => hjn (.inl h)) hb).2.1
       have := hext.n
       omega
     · rw [if_neg hq] at hb'
       exact I.inj j q b (fun h => hjn (.inl h)) (fun h => hqn (.inl h)) hb hb'
end
end
end Go.Ab
