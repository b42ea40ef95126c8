/-
  An executable reading of the model's code on named blocks, and the proof that what it comes to is what the model does, in any order that is free: part 4.
-/
import Derived.Test.YtkpaphoeldcakaaDoorAbL3
import Derived.Laws.IdiomRangeMap
/- Regions whose order is drawn: what ours leaves. -/
namespace Go.Ab
open Go
variable {C : Cx} {ds : List Deferred}

theorem slot_putD (d : Option (List Bool)) (v : AV) (f : Fr) (t : Nat) : slot (putD d v f).out t = if d = some (path t) then v else slot f t := by
  cases d with
  | none => rw [if_neg (fun h => by cases h)]; rfl
  | some p =>
    show slot (setP v p f).out t = _
    rw [setP_eq, Bx.out_mk, ← path_unpath p, slot_set]
    by_cases h : t = unpath p
    · subst h; rw [if_pos rfl, if_pos rfl]
    · rw [if_neg h, if_neg]
      intro hh
      exact h (path_inj _ _ (Option.some.inj hh)).symm

/-- What is not set stays. -/
theorem runR_slot {c : CallT} {t : Nat} : ∀ {l : List CS} {f f' : Fr} {h h' : Hp}, runR l c f h = .norm f' h' → (∀ s ∈ l, s.again = false → s.d ≠ some (path t)) → slot f' t = slot f t
  | [], f, f', h, h', hx, _ => by cases hx; rfl
  | s :: l, f, f', h, h', hx, hl => by
    cases hs : s.again with
    | false =>
      obtain ⟨v, h2, _, h3⟩ := runR_once hs hx
      rw [runR_slot h3 fun s' hs' => hl s' (.tail _ hs'), slot_putD, if_neg (hl s (.head _) hs)]
    | true =>
      obtain ⟨v, h2, _, _, h3⟩ := runR_again hs hx
      exact runR_slot h3 fun s' hs' => hl s' (.tail _ hs')

/-- The same slots, as the operation i of a region should see them. -/
def View (r : Rgn) (F f0 : Fr) (i : Nat) (f' : Fr) : Prop := ∀ t, (r.s i).us.testBit t = true →
  ((∃ p, p < r.ss.length ∧ (r.a i).testBit p = true ∧ (r.s p).d = some (path t)) → slot f' t = slot F t) ∧
  ((¬ ∃ p, p < r.ss.length ∧ (r.a i).testBit p = true ∧ (r.s p).d = some (path t)) → slot f' t = slot f0 t)
theorem View.agree {r : Rgn} {F f0 : Fr} {i : Nat} {f f' : Fr} (h : View r F f0 i f) (h' : View r F f0 i f') : Agree (r.s i).us f f' := by
  intro t ht
  by_cases hp : ∃ p, p < r.ss.length ∧ (r.a i).testBit p = true ∧ (r.s p).d = some (path t)
  · rw [(h t ht).1 hp, (h' t ht).1 hp]
  · rw [(h t ht).2 hp, (h' t ht).2 hp]

/-- Slots with a set of operations done. -/
def Slots (r : Rgn) (F f0 : Fr) (D : Nat → Prop) (f : Fr) : Prop :=
  (∀ i, i < r.ss.length → D i → ∀ t, (r.s i).d = some (path t) → slot f t = slot F t) ∧ (∀ t, (∀ i, i < r.ss.length → D i → (r.s i).d ≠ some (path t)) → slot f t = slot f0 t)

/-- Who has what stands ahead of i done, and neither i nor what stands behind i, sees what i should. -/
theorem Slots.view {r : Rgn} {F f0 : Fr} {D : Nat → Prop} {f : Fr} (h : Slots r F f0 D f) {i : Nat} (hu : r.okUse i = true) (hd : ∀ p q t, p < r.ss.length → q < r.ss.length → (r.s p).d = some (path t) → (r.s q).d = some (path t) → p = q)
    (h1 : ∀ p, (r.a i).testBit p = true → D p) (h2 : r.k i ≠ 1 → ∀ p, p < r.ss.length → (p = i ∨ (r.a p).testBit i = true) → ¬ D p) : View r F f0 i f := by
  intro t ht
  constructor
  · rintro ⟨p, p1, p2, p3⟩
    exact h.1 p p1 (h1 p p2) t p3
  · intro hno
    refine h.2 t fun q q1 q2 q3 => ?_
    rcases okUse_spec hu ht q1 q3 with hp | ⟨hk, p, p1, p2, p3⟩
    · exact hno hp
    · have := hd p q t p1 q1 p3 q3
      subst this
      exact h2 hk p p1 p2 q2
/-! ### What is made -/
/-- What is made: a block and a value of its name; or nothing. -/
def Makes (ex : Hp → R2) : Prop := (∃ B vf, ∀ h, ex h = R2.new h B vf) ∨ ∀ h, ∃ w, ex h = .no w

theorem xO_make {o : CO} (hk : o.kd = 2) (c : CallT) (f : Fr) : Makes (xO o c f) := by
  cases o <;> first | (have hk : (0 : Nat) = 2 := hk; cases hk; done) | (have hk : (1 : Nat) = 2 := hk; cases hk; done) | (have hk : (3 : Nat) = 2 := hk; cases hk; done) | skip
  case box x =>
    show Makes fun h => (ev f x).onCells R2.no fun vs => R2.new h (.flat vs 0) fun n => .ptr n 0 0
    cases ev f x
    case nil t =>
      show Makes fun h => ifb (Nat.beq t 9) (R2.no "any") (R2.new h (.flat [.nil t] 0) fun n => .ptr n 0 0)
      cases Nat.beq t 9 with
      | true => exact .inr fun h => ⟨_, rfl⟩
      | false => exact .inl ⟨.flat [.nil t] 0, fun n => .ptr n 0 0, fun h => rfl⟩
    all_goals first | exact .inl ⟨_, _, fun h => by simp only [AV.onCells, force_eq]; rfl⟩ | exact .inr fun h => ⟨_, rfl⟩
  case alloc z => exact .inl ⟨.flat z 0, fun n => .ptr n 0 0, fun h => by
      show (forceL z).bd (fun z => R2.new h (.flat z 0) fun n => .ptr n 0 0) = _; rw [forceL_eq]; rfl⟩
  case cvTo x =>
    show Makes fun h => (ev f x).onStr R2.no fun n a => (bytesA n a).bd fun l => R2.new h (.flat l 1) fun m => .sl m 0 0 n 2
    cases ev f x <;> first | exact .inr fun h => ⟨_, rfl⟩ | skip
    case str n a => exact .inl ⟨.flat (bytesA n a).out 1, fun m => .sl m 0 0 n 2, fun h => by
      show (bytesA n a).bd (fun l => R2.new h (.flat l 1) fun m => .sl m 0 0 n 2) = _; rw [Bx.eta (bytesA n a)]; rfl⟩
  case bsl n z ps =>
    show Makes fun h => Option.rec (motive := fun _ => R2) (.no "buildSlice") (fun l => R2.new h (.flat l 0) fun m => .sl m 0 0 n (Nat.succ (Nat.mul 2 n))) ((forceL z).bd fun z => fillA f ps z)
    cases (forceL z).bd fun z => fillA f ps z with
    | none => exact .inr fun h => ⟨_, rfl⟩
    | some l => exact .inl ⟨_, _, fun h => rfl⟩
  case mks z bytes x y =>
    show Makes fun h => (ev f x).onInt R2.no fun _ l => (ev f y).onInt R2.no fun _ c => nat? l (.no "makeSlice") fun l => nat? c (.no "makeSlice") fun c =>
      ifb (and (Nat.ble l c) (Nat.ble (Nat.mul (Nat.succ bytes) (Nat.succ c)) maxMem)) ((zerosR c z).bd fun vs => R2.new h (.flat vs 0) fun n => .sl n 0 0 l (Nat.succ (Nat.mul 2 c))) (.no "makeSlice: size")
    cases ev f x <;> first | exact .inr fun h => ⟨_, rfl⟩ | skip
    case int k l =>
      cases ev f y <;> first | exact .inr fun h => ⟨_, rfl⟩ | skip
      case int k2 m =>
        cases l with
        | negSucc l => exact .inr fun h => ⟨_, rfl⟩
        | ofNat l => cases m with
          | negSucc m => exact .inr fun h => ⟨_, rfl⟩
          | ofNat m =>
            show Makes fun h => ifb (and (Nat.ble l m) (Nat.ble (Nat.mul (Nat.succ bytes) (Nat.succ m)) maxMem)) ((zerosR m z).bd fun vs => R2.new h (.flat vs 0) fun n => .sl n 0 0 l (Nat.succ (Nat.mul 2 m))) (.no "makeSlice: size")
            cases and (Nat.ble l m) (Nat.ble (Nat.mul (Nat.succ bytes) (Nat.succ m)) maxMem) with
            | false => exact .inr fun h => ⟨_, rfl⟩
            | true => exact .inl ⟨.flat (zerosR m z).out 0, fun n => .sl n 0 0 l (Nat.succ (Nat.mul 2 m)), fun h => by
                show (zerosR m z).bd (fun vs => R2.new h (.flat vs 0) fun n => .sl n 0 0 l (Nat.succ (Nat.mul 2 m))) = _; rw [Bx.eta (zerosR m z)]; rfl⟩
  case mkm r =>
    show Makes fun h => Option.rec (motive := fun _ => R2) (R2.new h (.map []) .map) (fun v => v.onInt R2.no fun _ _ => R2.new h (.map []) .map) (evO f r)
    cases evO f r with
    | none => exact .inl ⟨_, _, fun h => rfl⟩
    | some v => cases v <;> first | exact .inl ⟨_, _, fun h => rfl⟩ | exact .inr fun h => ⟨_, rfl⟩
  case rng x =>
    show Makes fun h => (ev f x).onStr R2.no fun n a => R2.new h (.sit n a 0) fun m => .ptr m 0 0
    cases ev f x <;> first | exact .inr fun h => ⟨ "str", rfl⟩ | skip
    case str n a => exact .inl ⟨.sit n a 0, fun m => .ptr m 0 0, fun h => rfl⟩

/-- A heap that has grown. -/
def Hp.grew (h h' : Hp) : Prop := h.n ≤ h'.n ∧ (∀ b, b < h.n → h'.get b = h.get b) ∧ h'.lk = h.lk
theorem Hp.grew.refl (h : Hp) : h.grew h := ⟨Nat.le_refl _, fun _ _ => rfl, rfl⟩
theorem Hp.grew.trans {a b c : Hp} (h : a.grew b) (h' : b.grew c) : a.grew c := ⟨Nat.le_trans h.1 h'.1, fun x hx => (h'.2.1 x (Nat.lt_of_lt_of_le hx h.1)).trans (h.2.1 x hx), h'.2.2.trans h.2.2⟩

/-- A step that makes a block: nothing, or one new block. -/
theorem stepS_make {s : CS} (hk : s.o.kd = 2) {c : CallT} {f : Fr} {h h' : Hp} {v : AV} (hx : stepS s c f h = .ok v h') : h' = h ∨ ∃ B, h' = ⟨setT B (path h.n) h.t, h.n + 1, h.lk⟩ := by
  unfold stepS at hx
  cases hok : okG s.g f with
  | false => rw [hok] at hx; cases hx
  | true =>
  rw [hok, ifb_true] at hx
  cases hw : wantG s.g f with
  | false => rw [hw, ifb_false] at hx; cases hx; exact .inl rfl
  | true =>
    rw [hw, ifb_true] at hx
    rcases xO_make hk c f with ⟨B, vf, hm⟩ | hm
    · rw [hm h] at hx
      obtain ⟨_, rfl⟩ := R2.new_ok hx
      exact .inr ⟨B, rfl⟩
    · obtain ⟨w, hw⟩ := hm h
      rw [hw] at hx; cases hx
theorem grew_new (h : Hp) (B : Blk) : h.grew ⟨setT B (path h.n) h.t, h.n + 1, h.lk⟩ :=
  ⟨Nat.le_succ _, (fun b hb => by rw [Hp.get_set _ _ h.n, if_neg (Nat.ne_of_lt hb)]), rfl⟩
theorem stepS_light {s : CS} (hk : s.o.kd ≠ 3) (hk4 : s.o.kd < 4) {c : CallT} {f : Fr} {h h' : Hp} {v : AV} (hx : stepS s c f h = .ok v h') : h.grew h' := by
  have h012 : s.o.kd = 0 ∨ s.o.kd = 1 ∨ s.o.kd = 2 := by omega
  rcases h012 with hk | hk | hk
  · have := at_eq (stepS_pure hk c f h h) hx; subst this; exact .refl _
  · have := at_eq (stepS_read hk c f h).symm hx; subst this; exact .refl _
  · rcases stepS_make hk hx with rfl | ⟨B, rfl⟩
    · exact .refl _
    · exact grew_new h B
theorem kd_lt (o : CO) : o.kd < 4 := by cases o <;> first | exact (show 0 < 4 by decide) | exact (show 1 < 4 by decide) | exact (show 2 < 4 by decide) | exact (show 3 < 4 by decide)
end Go.Ab

/- Regions whose order is drawn: what ours says of what is done in an epoch. -/
namespace Go.Ab
open Go

/-- What a step comes to is what its slot holds in the end. -/
def VF (r : Rgn) (F : Fr) (i : Nat) (v : AV) : Prop := ∀ t, (r.s i).d = some (path t) → slot F t = v

/-- What may be said of a step that is no deed, at a heap. -/
def LFact (r : Rgn) (F f0 : Fr) (c : CallT) (H : Hp) (nm : Nat → Option Nat) (i : Nat) : Prop := ∃ v, VF r F i v ∧
  ((r.k i = 0 ∧ ∀ f' h, View r F f0 i f' → stepS (r.s i) c f' h = .ok v h) ∨
   (r.k i = 1 ∧ ∀ f', View r F f0 i f' → stepS (r.s i) c f' H = .ok v H) ∨
   (r.k i = 2 ∧ ∃ ht ht', (∀ f', View r F f0 i f' → stepS (r.s i) c f' ht = .ok v ht') ∧ (ht' = ht ∨ ∃ B, ht' = ⟨setT B (path ht.n) ht.t, ht.n + 1, ht.lk⟩ ∧ nm i = some ht.n ∧ ht.n < H.n ∧ H.get ht.n = some B)))

/-- A set with all that stands ahead of it. -/
def Whole (r : Rgn) (D : Nat → Prop) : Prop := ∀ p, D p → ∀ q, (r.a p).testBit q = true → D q

/-- No two steps set one slot. -/
def Once (r : Rgn) : Prop := ∀ p q t, p < r.ss.length → q < r.ss.length → (r.s p).d = some (path t) → (r.s q).d = some (path t) → p = q

/-- One step more is done. -/
theorem Slots.step {r : Rgn} {F f0 : Fr} {D : Nat → Prop} {f : Fr} (h : Slots r F f0 D f) {i : Nat} (hi : i < r.ss.length) {v : AV} (hv : VF r F i v) : Slots r F f0 (fun j => D j ∨ j = i) (putD (r.s i).d v f).out := by
  constructor
  · intro j hj hD t ht
    rw [slot_putD]
    by_cases hd : (r.s i).d = some (path t)
    · rw [if_pos hd]; exact (hv t hd).symm
    · rw [if_neg hd]
      rcases hD with hD | rfl
      · exact h.1 j hj hD t ht
      · exact absurd ht hd
  · intro t hno
    rw [slot_putD, if_neg (hno i hi (.inr rfl))]
    exact h.2 t fun j hj hD => hno j hj (.inl hD)

/-- Each once, behind what stands ahead of it. -/
def Seq (r : Rgn) : List Nat → (Nat → Prop) → Prop
  | [], _ => True
  | i :: l, D => ¬ D i ∧ (∀ p, (r.a i).testBit p = true → D p) ∧ Seq r l fun j => D j ∨ j = i

theorem Whole.step {r : Rgn} {D : Nat → Prop} (h : Whole r D) {i : Nat} (hi : ∀ p, (r.a i).testBit p = true → D p) : Whole r fun j => D j ∨ j = i := by
  intro p hp q hq
  rcases hp with hp | rfl
  · exact .inl (h p hp q hq)
  · exact .inl (hi q hq)
theorem Seq.out {r : Rgn} : ∀ {l : List Nat} {D : Nat → Prop}, Seq r l D → ∀ i ∈ l, ¬ D i
  | i :: l, D, h, j, hj => by
    cases hj with
    | head => exact h.1
    | tail _ hj => exact fun hD => Seq.out h.2.2 j hj (.inl hD)

theorem Slots.congr {r : Rgn} {F f0 : Fr} {D D' : Nat → Prop} {f : Fr} (h : Slots r F f0 D f) (he : ∀ j, D j ↔ D' j) : Slots r F f0 D' f :=
  ⟨fun i hi hD t ht => h.1 i hi ((he i).2 hD) t ht, fun t hno => h.2 t fun i hi hD => hno i hi ((he i).1 hD)⟩
theorem Whole.congr {r : Rgn} {D D' : Nat → Prop} (h : Whole r D) (he : ∀ j, D j ↔ D' j) : Whole r D' := fun p hp q hq => (he q).1 (h p ((he p).2 hp) q hq)

/-- The steps of an epoch that are no deeds. -/
theorem lights_run {r : Rgn} {F f0 : Fr} {c : CallT} {He : Hp} (hu : ∀ i, i < r.ss.length → r.okUse i = true) (ho : Once r) (hag : ∀ i, i < r.ss.length → (r.s i).again = false) : ∀ (ls : List Nat) (D : Nat → Prop) (f : Fr) (h : Hp) (rest : List CS),
    (∀ i ∈ ls, i < r.ss.length ∧ r.k i ≠ 3) → Whole r D → Seq r ls D → (∀ s ∈ rest, s.again = false → ∃ j, j < r.ss.length ∧ s = r.s j ∧ ¬ D j ∧ j ∉ ls) → Slots r F f0 D f → runR (ls.map r.s ++ rest) c f h = .norm F He →
    ∃ (f2 : Fr) (h2 : Hp) (nm : Nat → Option Nat), runR rest c f2 h2 = .norm F He ∧ h.grew h2 ∧ Slots r F f0 (fun j => D j ∨ j ∈ ls) f2 ∧ Whole r (fun j => D j ∨ j ∈ ls) ∧ ((∀ i ∈ ls, r.k i ≠ 2) → h2 = h) ∧
      (∀ i ∈ ls, (r.k i = 1 → ∀ j ∈ ls, r.k j ≠ 2) → LFact r F f0 c h2 nm i) ∧ (∀ i b, nm i = some b → i ∈ ls ∧ h.n ≤ b ∧ b < h2.n) ∧ (∀ i j b, nm i = some b → nm j = some b → i = j)
  | [], D, f, h, rest, _, hW, _, _, hS, hx =>
    ⟨f, h, fun _ => none, hx, .refl h, hS.congr (fun j => by simp), hW.congr (fun j => by simp), fun _ => rfl, (fun i hi => by cases hi), (fun i b hb => by cases hb), (fun i j b hb => by cases hb)⟩
  | i :: ls, D, f, h, rest, hk, hW, hQ, hrest, hS, hx => by
    obtain ⟨hn, hanc, hseq⟩ := hQ
    obtain ⟨hi, hk3⟩ := hk i (.head _)
    obtain ⟨v, h1, hst, hx⟩ := runR_once (hag i hi) hx
    have hview : View r F f0 i f := hS.view (hu i hi) ho hanc fun _ p _ hor hD => by
      rcases hor with rfl | hb
      · exact hn hD
      · exact hn (hW p hD i hb)
    have hout := hseq.out
    have hVF : VF r F i v := by
      intro t ht
      rw [runR_slot hx, slot_putD, if_pos ht]
      intro s hs hsa hsd
      rcases List.mem_append.1 hs with hs | hs
      · obtain ⟨j, hj, rfl⟩ := List.mem_map.1 hs
        have := ho i j t hi (hk j (.tail _ hj)).1 ht hsd
        exact hout j hj (.inr this.symm)
      · obtain ⟨j, hj, rfl, _, hj2⟩ := hrest s hs hsa
        have := ho i j t hi hj ht hsd
        exact hj2 (this ▸ .head _)
    obtain ⟨f2, h2, nm, r1, r2, r3, r4, r5, r6, r7, r8⟩ := lights_run hu ho hag ls (fun j => D j ∨ j = i) _ h1 rest (fun j hj => hk j (.tail _ hj)) (hW.step hanc) hseq
      (fun s hs hsa => by
        obtain ⟨j, j1, j2, j3, j4⟩ := hrest s hs hsa
        exact ⟨j, j1, j2, (fun hD => hD.elim j3 fun hh => j4 (hh ▸ .head _)), fun hh => j4 (.tail _ hh)⟩) (hS.step hi hVF) hx
    have hD : ∀ j, ((D j ∨ j = i) ∨ j ∈ ls) ↔ (D j ∨ j ∈ i :: ls) := fun j => by simp [or_assoc]
    have hg1 : h.grew h1 := stepS_light hk3 (kd_lt _) hst
    have hnm : nm i = none := by
      cases hh : nm i with
      | none => rfl
      | some b => exact absurd (.inr rfl) (hout i (r7 i b hh).1)
    have hquiet : r.k i ≠ 2 → h1 = h := by
      intro h2
      have hk01 : (r.s i).o.kd = 0 ∨ (r.s i).o.kd = 1 := by
        have h4 := kd_lt (r.s i).o
        have h3 : (r.s i).o.kd ≠ 3 := hk3
        have h5 : (r.s i).o.kd ≠ 2 := h2
        omega
      rcases hk01 with h6 | h6
      · exact at_eq (stepS_pure h6 c f h h) hst
      · exact at_eq (stepS_read h6 c f h).symm hst
    have hnone : (∀ j ∈ i :: ls, r.k j ≠ 2) → h2 = h := fun hno => (r5 fun j hj => hno j (.tail _ hj)).trans (hquiet (hno i (.head _)))
    -- the name, if there is one
    have hname : ∃ b : Option Nat, (∀ x, b = some x → x = h.n ∧ h.n < h1.n) ∧ (r.k i = 2 → h1 = h ∨ ∃ B, h1 = ⟨setT B (path h.n) h.t, h.n + 1, h.lk⟩ ∧ b = some h.n) := by
      by_cases hk2 : r.k i = 2
      · rcases stepS_make hk2 hst with hh | ⟨B, hh⟩
        · exact ⟨none, (fun x hx => by cases hx), fun _ => .inl hh⟩
        · exact ⟨some h.n, (fun x hx => by cases hx; exact ⟨rfl, by rw [hh]; exact Nat.lt_succ_self _⟩), fun _ => .inr ⟨B, hh, rfl⟩⟩
      · exact ⟨none, (fun x hx => by cases hx), fun hh => absurd hh hk2⟩
    obtain ⟨b, hb1, hb2⟩ := hname
    refine ⟨f2, h2, fun j => if j = i then b else nm j, r1, hg1.trans r2, r3.congr hD, r4.congr hD, hnone, ?_, ?_, ?_⟩
    · intro j hj hcond
      by_cases hji : j = i
      · subst hji
        refine ⟨v, hVF, ?_⟩
        have h4 := kd_lt (r.s j).o
        have h012 : r.k j = 0 ∨ r.k j = 1 ∨ r.k j = 2 := by
          have h3 : (r.s j).o.kd ≠ 3 := hk3
          show (r.s j).o.kd = 0 ∨ (r.s j).o.kd = 1 ∨ (r.s j).o.kd = 2
          omega
        rcases h012 with h6 | h6 | h6
        · refine .inl ⟨h6, fun f' h' hf' => ?_⟩
          rw [stepS_agree (hf'.agree hview), stepS_pure h6 c f h h', hst]; rfl
        · refine .inr (.inl ⟨h6, fun f' hf' => ?_⟩)
          rw [hnone (hcond h6), stepS_agree (hf'.agree hview), hst, hquiet (by rw [h6]; decide)]
        · refine .inr (.inr ⟨h6, h, h1, fun f' hf' => by rw [stepS_agree (hf'.agree hview), hst], ?_⟩)
          rcases hb2 h6 with hh | ⟨B, hh, hbb⟩
          · exact .inl hh
          · have hlt : h.n < h1.n := by rw [hh]; exact Nat.lt_succ_self _
            refine .inr ⟨B, hh, (if_pos rfl).trans hbb, Nat.lt_of_lt_of_le hlt r2.1, ?_⟩
            rw [r2.2.1 h.n hlt, hh, Hp.get_set _ _ h.n, if_pos rfl]
      · have hjl : j ∈ ls := by
          cases hj with
          | head => exact absurd rfl hji
          | tail _ hj => exact hj
        obtain ⟨v', g1, g2⟩ := r6 j hjl fun hk1 j' hj' => hcond hk1 j' (.tail _ hj')
        refine ⟨v', g1, ?_⟩
        simp only [if_neg hji]
        exact g2
    · intro j x hx
      have hx : (if j = i then b else nm j) = some x := hx
      by_cases hji : j = i
      · subst hji
        rw [if_pos rfl] at hx
        obtain ⟨rfl, hlt⟩ := hb1 x hx
        exact ⟨.head _, Nat.le_refl _, Nat.lt_of_lt_of_le hlt r2.1⟩
      · rw [if_neg hji] at hx
        obtain ⟨g1, g2, g3⟩ := r7 j x hx
        exact ⟨.tail _ g1, Nat.le_trans hg1.1 g2, g3⟩
    · intro j j' x hx hx'
      have hx : (if j = i then b else nm j) = some x := hx
      have hx' : (if j' = i then b else nm j') = some x := hx'
      by_cases hji : j = i
      · by_cases hji' : j' = i
        · exact hji.trans hji'.symm
        · rw [if_pos hji] at hx
          rw [if_neg hji'] at hx'
          obtain ⟨rfl, hlt⟩ := hb1 x hx
          have := (r7 j' _ hx').2.1
          omega
      · by_cases hji' : j' = i
        · rw [if_neg hji] at hx
          rw [if_pos hji'] at hx'
          obtain ⟨rfl, hlt⟩ := hb1 x hx'
          have := (r7 j _ hx).2.1
          omega
        · rw [if_neg hji] at hx
          rw [if_neg hji'] at hx'
          exact r8 j j' x hx hx'
end Go.Ab

/- Regions whose order is drawn: what is read once more. -/
namespace Go.Ab
open Go

/-- What is read once more comes to what it came to. -/
theorem checks_run {r : Rgn} {F f0 : Fr} {c : CallT} {He : Hp} {D : Nat → Prop} {nm : Nat → Option Nat} (hu : ∀ i, i < r.ss.length → r.okUse i = true) (ho : Once r) {f : Fr} {h : Hp} (hS : Slots r F f0 D f) (hW : Whole r D) : ∀ (ck : List Nat) (rest : List CS),
    (∀ i ∈ ck, i < r.ss.length ∧ r.k i = 1 ∧ D i) → runR ((ck.map fun i => { r.s i with again := true }) ++ rest) c f h = .norm F He →
    runR rest c f h = .norm F He ∧ ∀ i ∈ ck, LFact r F f0 c h nm i
  | [], rest, _, hx => ⟨hx, fun i hi => by cases hi⟩
  | i :: ck, rest, hk, hx => by
    obtain ⟨hi, hk1, hD⟩ := hk i (.head _)
    obtain ⟨v, h1, hst, hv, hx2⟩ := runR_again (s := { r.s i with again := true }) rfl hx
    have hst : stepS (r.s i) c f h = .ok v h1 := hst
    have hh : h1 = h := at_eq (stepS_read hk1 c f h).symm hst
    subst hh
    obtain ⟨r1, r2⟩ := checks_run hu ho hS hW ck rest (fun j hj => hk j (.tail _ hj)) hx2
    have hview : View r F f0 i f := hS.view (hu i hi) ho (fun p hp => hW i hD p hp) fun hne => absurd hk1 hne
    refine ⟨r1, fun j hj => ?_⟩
    cases hj with
    | tail _ hj => exact r2 j hj
    | head =>
      refine ⟨v, fun t ht => ?_, .inr (.inl ⟨hk1, fun f' hf' => ?_⟩)⟩
      · rw [← hS.1 i hi hD t ht]; exact hv t ht
      · rw [stepS_agree (hf'.agree hview)]; exact hst
end Go.Ab

/- Regions whose order is drawn: the epochs of our plan. -/
namespace Go.Ab
open Go

/-- The epochs of a plan: deeds one behind the other; each of the others behind the deed of its epoch; what reads is read once more. -/
def EpsOK (r : Rgn) : List Ep → Option Nat → List Nat → Prop
  | [], _, _ => True
  | e :: l, last, done =>
    (∀ h, e.hv = some h → r.k h = 3 ∧ ∀ g, last = some g → (r.a h).testBit g = true) ∧
    (∀ i ∈ e.ls, r.k i ≠ 3 ∧ ∀ h, e.hv = some h → (r.a i).testBit h = true) ∧
    (∀ i, (i ∈ done ∨ (i ∈ e.ls ∧ ∃ j ∈ e.ls, r.k j = 2)) → r.k i = 1 → (∃ h, e.hv = some h ∧ (r.a h).testBit i = true) ∨ i ∈ e.ck) ∧
    (∀ i ∈ e.ck, r.k i = 1 ∧ (i ∈ done ∨ i ∈ e.ls)) ∧
    EpsOK r l (match e.hv with
      | some h => some h
      | none => last) (done ++ e.ls)

theorem any_mem {l : List Nat} {i : Nat} (h : l.any (Nat.beq i) = true) : i ∈ l := by
  obtain ⟨j, h1, h2⟩ := List.any_eq_true.1 h
  rw [beq_iff.1 h2]; exact h1

theorem okEps_spec {r : Rgn} : ∀ {l : List Ep} {last : Option Nat} {done : List Nat}, r.okEps l last done = true → EpsOK r l last done
  | [], _, _, _ => trivial
  | e :: l, last, done, h => by
    unfold Rgn.okEps at h
    simp only [Bool.and_eq_true] at h
    obtain ⟨h1, h2, h3, h4, h5⟩ := h
    refine ⟨?_, ?_, ?_, ?_, okEps_spec h5⟩
    · intro g hg
      rw [hg] at h1
      cases last with
      | none => exact ⟨beq_iff.1 h1, fun g' hg' => by cases hg'⟩
      | some g0 =>
        have h1 : and (Nat.beq (r.k g) 3) ((r.a g).testBit g0) = true := h1
        rw [Bool.and_eq_true] at h1
        exact ⟨beq_iff.1 h1.1, fun g' hg' => by cases hg'; exact h1.2⟩
    · intro i hi
      have := List.all_eq_true.1 h2 i hi
      rw [Bool.and_eq_true, Bool.not_eq_true'] at this
      refine ⟨(fun hk => by rw [beq_iff.2 hk] at this; cases this.1), fun g hg => ?_⟩
      have h6 := this.2
      rw [hg] at h6; exact h6
    · intro i hi hk
      have hmem : i ∈ done ++ ifb (e.ls.any fun i => Nat.beq (r.k i) 2) e.ls [] := by
        rcases hi with hi | ⟨hi, j, hj, hj2⟩
        · exact List.mem_append_left _ hi
        · refine List.mem_append_right _ ?_
          rw [show (e.ls.any fun i => Nat.beq (r.k i) 2) = true from List.any_eq_true.2 ⟨j, hj, beq_iff.2 hj2⟩]
          exact hi
      have := List.all_eq_true.1 h3 i hmem
      rw [Bool.or_eq_true, Bool.or_eq_true, Bool.not_eq_true'] at this
      rcases this with h | h | h
      · rw [beq_iff.2 hk] at h; cases h
      · left
        cases hv : e.hv with
        | none => rw [hv] at h; simp at h
        | some g => rw [hv] at h; exact ⟨g, rfl, h⟩
      · exact .inr (any_mem h)
    · intro i hi
      have := List.all_eq_true.1 h4 i hi
      rw [Bool.and_eq_true] at this
      exact ⟨beq_iff.1 this.1, List.mem_append.1 (any_mem this.2)⟩
end Go.Ab

/- Regions whose order is drawn: between two steps. -/
namespace Go.Ab
open Go
variable {C : Cx} {ds : List Deferred}

theorem Ext.grow {e0 e : Emb} {h0 h h2 : Hp} {w0 w : World} (x : Ext e0 h0 w0 e h w) (g : h.grew h2) : Ext e0 h0 w0 e h2 w where
  le := x.le
  hr := x.hr.congr g.1 fun b k y hb => g.2.1 b (x.hr.lt b k y hb).2
  names := x.names
  blocks := x.blocks
  frame := x.frame
  ours := fun b hb hno => (g.2.1 b (Nat.lt_of_lt_of_le hb x.n)).trans (x.ours b hb hno)
  ro := fun b hb => (g.2.1 b (Nat.lt_of_lt_of_le hb.1 x.n)).trans (x.ro b hb)
  n := Nat.le_trans x.n g.1
  size := x.size
  os := x.os
  output := x.output
  lk := g.2.2.trans x.lk

/-- A block of ours that the model makes only now. -/
theorem Ext.late {e0 e : Emb} {h0 H : Hp} {w0 w w' : World} (x : Ext e0 h0 w0 e H w) {b : Nat} (hb0 : h0.n ≤ b) (hbn : b < H.n) (hno : ∀ g, e b g = none) {B : Blk} (hB : H.get b = some B) {ob : Obj} {sz : Nat}
    (hh : w'.heap = w.heap.push ob) (hos : w'.os = w.os) (hout : w'.output = w.output) (hbr : ∀ e' : Emb, e.le e' → BR e' B 0 ⟨w.heap.size, 0, 0, sz⟩ (some ob)) :
    ∃ e', e.le e' ∧ e' b 0 = some ⟨w.heap.size, 0, 0, sz⟩ ∧ (∀ k g, k ≠ b → e' k g = e k g) ∧ (∀ k g x, e' k g = some x → e k g = some x ∨ x.r = w.heap.size) ∧ Ext e0 h0 w0 e' H w' := by
  let y : Loc := ⟨w.heap.size, 0, 0, sz⟩
  let e' : Emb := fun k g => if k = b ∧ g = 0 then some y else e k g
  have hle : e.le e' := fun k g z hz => by
    show (if k = b ∧ g = 0 then some y else e k g) = some z
    by_cases hc : k = b ∧ g = 0
    · rw [hc.1, hno g] at hz; cases hz
    · rw [if_neg hc]; exact hz
  have hnew : e' b 0 = some y := by simp [e']
  have hcase : ∀ k g z, e' k g = some z → (k = b ∧ g = 0 ∧ z = y) ∨ e k g = some z := fun k g z hz => by
    by_cases hc : k = b ∧ g = 0
    · have : e' k g = some y := by show (if k = b ∧ g = 0 then some y else e k g) = some y; rw [if_pos hc]
      rw [this] at hz; cases hz; exact .inl ⟨hc.1, hc.2, rfl⟩
    · have : e' k g = e k g := by show (if k = b ∧ g = 0 then some y else e k g) = _; rw [if_neg hc]
      rw [this] at hz; exact .inr hz
  have hold : ∀ q, q < w.heap.size → w'.heap[q]? = w.heap[q]? := fun q hq => by
    rw [hh, Array.getElem?_push, if_neg (by omega)]
  have hsz : w'.heap.size = w.heap.size + 1 := by rw [hh, Array.size_push]
  have hr := x.hr
  refine ⟨e', hle, hnew, (fun k g hk => by show (if k = b ∧ g = 0 then some y else e k g) = _; rw [if_neg (fun hc => hk hc.1)]), (fun k g z hz => (hcase k g z hz).symm.imp id fun hh => by rw [hh.2.2]), x.le.trans hle, ⟨?_, ?_, ?_⟩, ?_, ?_, ?_, x.ours, x.ro, x.n, by have := x.size; omega, hos.trans x.os, hout.trans x.output, x.lk⟩
  · intro k g z k' g' z' hz hz' hrr
    rcases hcase _ _ _ hz with ⟨h1, h2, h3⟩ | h1 <;> rcases hcase _ _ _ hz' with ⟨h1', h2', h3'⟩ | h1'
    · subst h3; subst h3'; exact ⟨h1.trans h1'.symm, rfl⟩
    · subst h3; have := (hr.lt _ _ _ h1').1; have hrr : w.heap.size = z'.r := hrr; omega
    · subst h3'; have := (hr.lt _ _ _ h1).1; have hrr : z.r = w.heap.size := hrr; omega
    · exact hr.inj _ _ _ _ _ _ h1 h1' hrr
  · intro k g z hz
    rw [hsz]
    rcases hcase _ _ _ hz with ⟨h1, h2, h3⟩ | h1
    · subst h3; exact ⟨Nat.lt_succ_self _, by omega⟩
    · have := hr.lt _ _ _ h1; exact ⟨by omega, by omega⟩
  · intro k g z hz
    rcases hcase _ _ _ hz with ⟨h1, h2, h3⟩ | h1
    · subst h1; subst h2; subst h3
      refine ⟨B, hB, ?_⟩
      have : w'.heap[w.heap.size]? = some ob := by rw [hh, Array.getElem?_push, if_pos rfl]
      show BR e' B 0 y w'.heap[w.heap.size]?
      rw [this]
      exact hbr e' hle
    · obtain ⟨bb, h2, h3⟩ := hr.at' _ _ _ h1
      refine ⟨bb, h2, ?_⟩
      rw [hold _ (hr.lt _ _ _ h1).1]
      exact h3.mono hle
  · intro k g z hz
    rcases hcase _ _ _ hz with ⟨h1, _, _⟩ | h1
    · exact .inr (by omega)
    · exact x.names k g z h1
  · intro k g z hz
    rcases hcase _ _ _ hz with ⟨h1, h2, h3⟩ | h1
    · subst h3; exact .inr x.size
    · exact x.blocks k g z h1
  · intro q hq hro
    rw [hold q (Nat.lt_of_lt_of_le hq x.size)]
    exact x.frame q hq hro

/-! ### Orders -/
theorem OrderOK.congr {r : Rgn} : ∀ {l : List Nat} {D D' : Nat → Prop}, OrderOK r l D → (∀ j, D j ↔ D' j) → OrderOK r l D'
  | [], D, D', h, he => fun i hi => (he i).1 (h i hi)
  | i :: l, D, D', h, he => ⟨fun hd => h.1 ((he i).2 hd), fun p hp => (he p).1 (h.2.1 p hp), OrderOK.congr h.2.2 fun j => by rw [he j]⟩
theorem OrderOK.out {r : Rgn} : ∀ {l : List Nat} {D : Nat → Prop}, OrderOK r l D → ∀ i ∈ l, ¬ D i
  | i :: l, D, h, j, hj => by
    cases hj with
    | head => exact h.1
    | tail _ hj => exact fun hD => OrderOK.out h.2.2 j hj (.inl hD)
theorem OrderOK.append {r : Rgn} : ∀ {l m : List Nat} {D : Nat → Prop}, OrderOK r (l ++ m) D → Seq r l D ∧ OrderOK r m (fun j => D j ∨ j ∈ l)
  | [], m, D, h => ⟨trivial, OrderOK.congr h fun j => by simp⟩
  | i :: l, m, D, h => by
    obtain ⟨h1, h2⟩ := OrderOK.append (l := l) h.2.2
    exact ⟨⟨h.1, h.2.1, h1⟩, h2.congr fun j => by simp [or_assoc]⟩
theorem OrderOK.all {r : Rgn} : ∀ {l : List Nat} {D : Nat → Prop}, OrderOK r l D → ∀ i, i < r.ss.length → D i ∨ i ∈ l
  | [], D, h, i, hi => .inl (h i hi)
  | j :: l, D, h, i, hi => by
    rcases OrderOK.all h.2.2 i hi with (h1 | h1) | h1
    · exact .inl h1
    · exact .inr (h1 ▸ .head _)
    · exact .inr (.tail _ h1)
/-- Who is not done, with all that stands ahead done. -/
theorem OrderOK.first {r : Rgn} : ∀ {l : List Nat} {D E : Nat → Prop}, OrderOK r l D → (∀ i, D i → E i) → (∃ i ∈ l, ¬ E i) → ∃ i ∈ l, ¬ E i ∧ ∀ p, (r.a i).testBit p = true → E p
  | i :: l, D, E, h, he, hn => by
    by_cases hi : E i
    · obtain ⟨j, hj, hj2⟩ := hn
      have hj3 : j ∈ l := by
        cases hj with
        | head => exact absurd hi hj2
        | tail _ hj => exact hj
      obtain ⟨k, h1, h2⟩ := OrderOK.first h.2.2 (E := E) (fun j hj => hj.elim (he j) fun hh => hh ▸ hi) ⟨j, hj3, hj2⟩
      exact ⟨k, .tail _ h1, h2⟩
    · exact ⟨i, .head _, hi, fun p hp => he p (h.2.1 p hp)⟩

/-- Who is to come stands behind a deed that is to come, or behind the last one. -/
theorem eps_behind {r : Rgn} : ∀ {l : List Ep} {g : Nat} {ld : List Nat}, EpsOK r l (some g) ld → (∀ e ∈ l, e.hv.isSome = true) → ∀ i ∈ l.flatMap Ep.order, ∃ x, (x = g ∨ x ∈ l.flatMap Ep.order) ∧ (r.a i).testBit x = true
  | e :: l, g, ld, h, hs, i, hi => by
    obtain ⟨h1, h2, _, _, h5⟩ := h
    obtain ⟨d, hd⟩ := Option.isSome_iff_exists.1 (hs e (.head _))
    have hd1 : d ∈ e.order := by unfold Ep.order; rw [hd]; exact .head _
    rw [List.flatMap_cons, List.mem_append] at hi
    rcases hi with hi | hi
    · unfold Ep.order at hi
      rw [hd] at hi
      have hi : i ∈ d :: e.ls := hi
      rcases List.mem_cons.1 hi with rfl | hi
      · exact ⟨g, .inl rfl, (h1 i hd).2 g rfl⟩
      · exact ⟨d, .inr (List.mem_append_left _ hd1), (h2 i hi).2 d hd⟩
    · rw [hd] at h5
      obtain ⟨x, hx, hx2⟩ := eps_behind h5 (fun e' he' => hs e' (.tail _ he')) i hi
      refine ⟨x, .inr ?_, hx2⟩
      rcases hx with rfl | hx
      · exact List.mem_append_left _ hd1
      · exact List.mem_append_right _ hx

/-- What we know between two epochs of ours. -/
structure Mid (r : Rgn) (F f0 : Fr) (c : CallT) (He : Hp) (dn : Nat → Prop) (ld : List Nat) (last : Option Nat) (rest : List Ep) (fj : Fr) (H : Hp) : Prop where
  run : runR (rest.flatMap (Ep.out r)) c fj H = .norm F He
  slots : Slots r F f0 dn fj
  whole : Whole r dn
  eps : EpsOK r rest last ld
  order : OrderOK r (rest.flatMap Ep.order) dn
  isSome : ∀ e ∈ rest, e.hv.isSome = true
  lights : ∀ i, dn i → i ∈ ld ∨ r.k i = 3
  ldn : ∀ i ∈ ld, dn i
  lt : ∀ i ∈ rest.flatMap Ep.order, i < r.ss.length
  lt2 : ∀ i, dn i → i < r.ss.length

/-- The steps of the rest's epochs that are done once. -/
theorem out_once {r : Rgn} {ps : List Ep} {s : CS} (hs : s ∈ ps.flatMap (Ep.out r)) (ha : s.again = false) : ∃ j, j ∈ ps.flatMap Ep.order ∧ s = r.s j := by
  obtain ⟨e, he, hs⟩ := List.mem_flatMap.1 hs
  unfold Ep.out at hs
  rcases List.mem_append.1 hs with hs | hs
  · obtain ⟨j, hj, rfl⟩ := List.mem_map.1 hs
    exact ⟨j, List.mem_flatMap.2 ⟨e, he, hj⟩, rfl⟩
  · obtain ⟨j, _, rfl⟩ := List.mem_map.1 hs
    cases ha

/-- The rest of an epoch: what is no deed, and what is read once more. -/
theorem epoch_rest {r : Rgn} {F f0 : Fr} {c : CallT} {He : Hp} (hu : ∀ i, i < r.ss.length → r.okUse i = true) (ho : Once r) (hag : ∀ i, i < r.ss.length → (r.s i).again = false) {dn : Nat → Prop} {ld ls ck : List Nat} {last : Option Nat} {rest : List Ep} {f1 : Fr} {H1 : Hp}
    (hrun : runR (ls.map r.s ++ ((ck.map fun i => { r.s i with again := true }) ++ rest.flatMap (Ep.out r))) c f1 H1 = .norm F He)
    (hS : Slots r F f0 dn f1) (hW : Whole r dn) (heps : EpsOK r rest last (ld ++ ls)) (hord : OrderOK r (ls ++ rest.flatMap Ep.order) dn) (his : ∀ e ∈ rest, e.hv.isSome = true) (hl : ∀ i, dn i → i ∈ ld ∨ r.k i = 3) (hldn : ∀ i ∈ ld, dn i)
    (hlt : ∀ i ∈ ls ++ rest.flatMap Ep.order, i < r.ss.length) (hk3 : ∀ i ∈ ls, r.k i ≠ 3) (hck : ∀ i ∈ ck, r.k i = 1 ∧ (i ∈ ld ∨ i ∈ ls)) (hlt2 : ∀ i, dn i → i < r.ss.length) :
    ∃ (f2 : Fr) (H2 : Hp) (nm : Nat → Option Nat), Mid r F f0 c He (fun j => dn j ∨ j ∈ ls) (ld ++ ls) last rest f2 H2 ∧ H1.grew H2 ∧
      (∀ i ∈ ls, (r.k i = 1 → ∀ j ∈ ls, r.k j ≠ 2) → LFact r F f0 c H2 nm i) ∧ (∀ i ∈ ck, ∀ nm, LFact r F f0 c H2 nm i) ∧
      (∀ i b, nm i = some b → i ∈ ls ∧ H1.n ≤ b ∧ b < H2.n) ∧ (∀ i j b, nm i = some b → nm j = some b → i = j) := by
  obtain ⟨hseq, hord2⟩ := hord.append
  obtain ⟨f2, H2, nm, r1, r2, r3, r4, _, r6, r7, r8⟩ := lights_run hu ho hag ls dn f1 H1 _ (fun i hi => ⟨hlt i (List.mem_append_left _ hi), hk3 i hi⟩) hW hseq (fun s hs ha => by
    rcases List.mem_append.1 hs with hs | hs
    · obtain ⟨j, _, rfl⟩ := List.mem_map.1 hs
      cases ha
    · obtain ⟨j, hj, rfl⟩ := out_once hs ha
      exact ⟨j, hlt j (List.mem_append_right _ hj), rfl, fun hd => hord2.out j hj (.inl hd), fun hd => hord2.out j hj (.inr hd)⟩) hS hrun
  have hckr : ∀ nm, _ := fun nm => checks_run (nm := nm) hu ho r3 r4 ck (rest.flatMap (Ep.out r)) (fun i hi => by
    obtain ⟨h1, h2⟩ := hck i hi
    rcases h2 with h2 | h2
    · exact ⟨hlt2 i (hldn i h2), h1, .inl (hldn i h2)⟩
    · exact ⟨hlt i (List.mem_append_left _ h2), h1, .inr h2⟩) r1
  refine ⟨f2, H2, nm, ⟨(hckr nm).1, r3, r4, heps, hord2, his, ?_, ?_, fun i hi => hlt i (List.mem_append_right _ hi), fun i hi => hi.elim (hlt2 i) fun h => hlt i (List.mem_append_left _ h)⟩, r2, r6, fun i hi nm => (hckr nm).2 i hi, r7, r8⟩
  · rintro i (hi | hi)
    · exact (hl i hi).imp (List.mem_append_left _) id
    · exact .inl (List.mem_append_right _ hi)
  · intro i hi
    exact (List.mem_append.1 hi).imp (hldn i) id
end Go.Ab

/- Regions whose order is drawn: whatever order is drawn, what ours says comes. -/
namespace Go.Ab
open Go
variable {C : Cx} {ds : List Deferred}

section
variable {n : Nat} {ops : Array Oper}

theorem of_again (i : Nat) : ((Rgn.of C n ops).s i).again = false := by
  show ((nthA (mkSeq C n ops.toList ops.toList) i).getD _).again = false
  rw [nthA_eq, mkSeq_get]
  cases ops.toList[i]? with
  | none => rfl
  | some o =>
    show (mkS C n ops.toList o).again = false
    rcases mkS_spec (C := C) (n := n) (ops := ops.toList) (o := o) with ⟨g, g1, g2, _⟩ | ⟨q, g2⟩ <;> rw [g2]
theorem of_far {i : Nat} (h : ¬ i < (Rgn.of C n ops).ss.length) : (Rgn.of C n ops).s i = ⟨.bad "region", none, none, false⟩ := by
  show (nthA (Rgn.of C n ops).ss i).getD _ = _
  rw [nthA_eq, List.getElem?_eq_none (by omega)]; rfl

theorem ancL_prefix : ∀ (l : List Oper) (acc : List Nat) (i : Nat), i < acc.length → nthA (ancL l acc) i = nthA acc i
  | [], acc, i, h => rfl
  | o :: l, acc, i, h => by
    show nthA (ancL l (acc ++ [ancE acc o.after.toList])) i = _
    rw [ancL_prefix l _ i (by simp; omega), nthA_eq, nthA_eq, List.getElem?_append_left h]
theorem ancE_edge (acc : List Nat) (e : Edge) (hb : Region.binds .any e = true) : ∀ (es : List Edge), e ∈ es → (ancE acc es).testBit e.on = true
  | d :: es, he => by
    show (ifb (Region.binds .any d) (Nat.lor (Nat.lor (2 ^ d.on) ((nthA acc d.on).getD 0)) (ancE acc es)) (ancE acc es)).testBit e.on = true
    rcases List.mem_cons.1 he with hh | he
    · rw [← hh, hb, ifb_true]
      show ((2 ^ e.on ||| (nthA acc e.on).getD 0) ||| ancE acc es).testBit e.on = true
      rw [Nat.testBit_or, Nat.testBit_or, Nat.testBit_two_pow_self]; rfl
    · have ih := ancE_edge acc e hb es he
      cases Region.binds .any d with
      | false => exact ih
      | true =>
        rw [ifb_true]
        show ((2 ^ d.on ||| (nthA acc d.on).getD 0) ||| ancE acc es).testBit e.on = true
        rw [Nat.testBit_or, ih, Bool.or_true]
theorem ancL_edge (o : Oper) (e : Edge) (he : e ∈ o.after.toList) (hb : Region.binds .any e = true) (l : List Oper) : ∀ (acc : List Nat) (k : Nat), l[k]? = some o → ((nthA (ancL l acc) (acc.length + k)).getD 0).testBit e.on = true := by
  induction l with
  | nil => intro acc k h; simp at h
  | cons o' l ih =>
    intro acc k h
    show ((nthA (ancL l (acc ++ [ancE acc o'.after.toList])) (acc.length + k)).getD 0).testBit e.on = true
    cases k with
    | zero =>
      have h : o' = o := by simpa using h
      rw [h, ancL_prefix l _ _ (by simp), nthA_eq, Nat.add_zero, List.getElem?_append_right (Nat.le_refl _), Nat.sub_self]
      exact ancE_edge acc e hb _ he
    | succ k =>
      have := ih (acc ++ [ancE acc o'.after.toList]) k (by simpa using h)
      rw [List.length_append, List.length_singleton, show acc.length + 1 + k = acc.length + (k + 1) by omega] at this
      exact this
theorem of_edge {i : Nat} {o : Oper} (ho : ops[i]? = some o) {e : Edge} (he : e ∈ o.after) (hb : Region.binds .any e = true) : ((Rgn.of C n ops).a i).testBit e.on = true := by
  have := ancL_edge o e (by simpa using he) hb ops.toList [] i (by simpa using ho)
  rw [List.length_nil, Nat.zero_add] at this
  exact this

/-- What a plan makes sure of. -/
structure Plan (r : Rgn) : Prop where
  use : ∀ i, i < r.ss.length → r.okUse i = true
  once : Once r
  again : ∀ i, (r.s i).again = false
  make : ∀ i, i < r.ss.length → r.k i = 2 → r.m i = true

theorem LFact.nm {r : Rgn} {F f0 : Fr} {c : CallT} {H : Hp} {nm nm' : Nat → Option Nat} {i : Nat} (h : LFact r F f0 c H nm i) (he : nm' i = nm i) : LFact r F f0 c H nm' i := by
  unfold LFact at *
  rw [he]; exact h

/-- Between two steps of the model's. -/
structure Inv (ds : List Deferred) (r : Rgn) (F f0 : Fr) (c : CallT) (He : Hp) (n : Nat) (e0 : Emb) (h0 : Hp) (w0 : World) (D : Nat → Prop) (a : Act) (w : World)
    (dn : Nat → Prop) (ld : List Nat) (last : Option Nat) (rest : List Ep) (fj : Fr) (H : Hp) (nm : Nat → Option Nat) (e : Emb) (f : Fr) : Prop where
  mid : Mid r F f0 c He dn ld last rest fj H
  ext : Ext e0 h0 w0 e H w
  fn : FN ds n e f a
  slots : Slots r F f0 D f
  sub : ∀ i, D i → dn i
  deeds : ∀ i, dn i → r.k i = 3 → D i
  facts : ∀ i, dn i → ¬ D i → LFact r F f0 c H nm i
  names : ∀ i b, ¬ D i → nm i = some b → h0.n ≤ b ∧ b < H.n ∧ ∀ g, e b g = none
  inj : ∀ i j b, ¬ D i → ¬ D j → nm i = some b → nm j = some b → i = j
def InvE (ds : List Deferred) (r : Rgn) (F f0 : Fr) (c : CallT) (He : Hp) (n : Nat) (e0 : Emb) (h0 : Hp) (w0 : World) (D : Nat → Prop) (a : Act) (w : World) : Prop :=
  ∃ dn ld last rest fj H nm e f, Inv ds r F f0 c He n e0 h0 w0 D a w dn ld last rest fj H nm e f

theorem Ext.none {e e' : Emb} {h h' : Hp} {w w' : World} (x : Ext e h w e' h' w') {b : Nat} (hb : b < h.n) (hno : ∀ g, e b g = none) (g : Nat) : e' b g = none := by
  cases hx : e' b g with
  | none => rfl
  | some y =>
    rcases x.names b g y hx with ⟨g0, x0, h0⟩ | hge
    · rw [hno g0] at h0; cases h0
    · omega

section
variable {F f0 : Fr} {c : CallT} {He : Hp} {e0 : Emb} {h0 : Hp} {w0 : World} {D : Nat → Prop} {a : Act} {w : World} {dn : Nat → Prop} {ld : List Nat} {last : Option Nat} {rest : List Ep} {fj : Fr} {H : Hp} {nm : Nat → Option Nat} {e : Emb} {f : Fr} {Q : Exit → Act → World → Prop}

/-- A step that is no deed. -/
theorem light_step (hP : Plan (Rgn.of C n ops)) (hg : GR C e0) (hc : CallOK C c) (I : Inv ds (Rgn.of C n ops) F f0 c He n e0 h0 w0 D a w dn ld last rest fj H nm e f) {i : Nat} {o : Oper} (hi : ops[i]? = some o) (hd : dn i) (hn : ¬ D i)
    (hanc : ∀ p, ((Rgn.of C n ops).a i).testBit p = true → D p) (hW : Whole (Rgn.of C n ops) D) : owOp C.P ops Q i (InvE ds (Rgn.of C n ops) F f0 c He n e0 h0 w0 fun j => D j ∨ j = i) a w := by
  have hlen := I.mid.lt2 i hd
  have hview : View (Rgn.of C n ops) F f0 i f := I.slots.view (hP.use i hlen) hP.once hanc fun _ p _ hor hD => hor.elim (fun h => hn (h ▸ hD)) fun hb => hn (hW p hD i hb)
  obtain ⟨v, hv, hcase⟩ := I.facts i hd hn
  have hgr : GR C e := hg.mono I.ext.le
  have fin : ∀ (e' : Emb) (v' : Value) (w' : World), e.le e' → Ext e0 h0 w0 e' H w' → VR e' v v' → (∀ j b, ¬ D j → j ≠ i → nm j = some b → ∀ g, e' b g = none) → (((Rgn.of C n ops).s i).d = o.dst.map path ∧ ∀ t, o.dst = some t → t < n) →
      InvE ds (Rgn.of C n ops) F f0 c He n e0 h0 w0 (fun j => D j ∨ j = i) (a.put o.dst v') w' := by
    intro e' v' w' hle hext hvr hnone ⟨hd1, hd2⟩
    refine ⟨dn, ld, last, rest, fj, H, nm, e', (putD ((Rgn.of C n ops).s i).d v f).out, I.mid, hext, ?_, I.slots.step hlen hv, ?_, fun j h1 h2 => .inl (I.deeds j h1 h2), fun j h1 h2 => I.facts j h1 fun h => h2 (.inl h), ?_, ?_⟩
    · rw [hd1]; exact (I.fn.mono hle).putO hd2 hvr
    · rintro j (h | rfl)
      · exact I.sub j h
      · exact hd
    · intro j b h1 h2
      have h3 := I.names j b (fun h => h1 (.inl h)) h2
      exact ⟨h3.1, h3.2.1, hnone j b (fun h => h1 (.inl h)) (fun h => h1 (.inr h)) h2⟩
    · exact fun j k b h1 h2 => I.inj j k b (fun h => h1 (.inl h)) fun h => h2 (.inl h)
  rcases hcase with ⟨_, hx⟩ | ⟨_, hx⟩ | ⟨hk, ht, ht', hx, hmade⟩
  · have hx := hx f H hview
    exact stepS_sim hc hi hx hgr I.fn I.ext.hr fun e' v' w' hext hvr => fin e' v' w' hext.le (I.ext.trans hext) hvr (fun j b h1 _ h2 => hext.none (I.names j b h1 h2).2.1 (I.names j b h1 h2).2.2) (of_d hi hx)
  · have hx := hx f hview
    exact stepS_sim hc hi hx hgr I.fn I.ext.hr fun e' v' w' hext hvr => fin e' v' w' hext.le (I.ext.trans hext) hvr (fun j b h1 _ h2 => hext.none (I.names j b h1 h2).2.1 (I.names j b h1 h2).2.2) (of_d hi hx)
  · have hx := hx f hview
    have hm : isMkOp o = true := by rw [← of_m (C := C) (n := n) hi]; exact hP.make i hlen hk
    refine makeS_sim hi hm hk hx hgr I.fn (fun hu _ => ?_) fun v' w' B ob sz made => ?_
    · subst hu
      exact fin e undef w (.refl e) I.ext (undef_VR e) (fun j b h1 _ h2 => (I.names j b h1 h2).2.2) (of_d hi hx)
    · rcases hmade with hh | ⟨B2, hB2, hnm, hlt, hget⟩
      · have h1 := made.ours
        rw [hh] at h1
        have h2 : ht.n = ht.n + 1 := congrArg Hp.n h1
        omega
      · have hB : B = B2 := by
          have h1 := made.ours
          rw [hB2] at h1
          have h2 : Hp.get ⟨setT B2 (path ht.n) ht.t, ht.n + 1, ht.lk⟩ ht.n = Hp.get ⟨setT B (path ht.n) ht.t, ht.n + 1, ht.lk⟩ ht.n := by rw [h1]
          rw [Hp.get_set _ _ ht.n, Hp.get_set _ _ ht.n, if_pos rfl, if_pos rfl] at h2
          exact (Option.some.inj h2).symm
        subst hB
        obtain ⟨n1, n2, n3⟩ := I.names i _ hn hnm
        obtain ⟨e', hle, hnew, hoth, _, hext⟩ := I.ext.late n1 n2 n3 hget made.heap made.os made.output made.br
        refine fin e' v' w' hle hext (made.vr e' hle hnew) (fun j b h1 h2 h3 g => ?_) (of_d hi hx)
        have hne : b ≠ ht.n := fun hh => h2 (I.inj j i b h1 hn h3 (hh ▸ hnm))
        rw [hoth b g hne]
        exact (I.names j b h1 h3).2.2 g

/-- The next deed. -/
theorem heavy_step (hP : Plan (Rgn.of C n ops)) (hg : GR C e0) (hc : CallOK C c) (I : Inv ds (Rgn.of C n ops) F f0 c He n e0 h0 w0 D a w dn ld last rest fj H nm e f) {i : Nat} {o : Oper} (hi : ops[i]? = some o) (hnd : ¬ dn i)
    (hanc : ∀ p, ((Rgn.of C n ops).a i).testBit p = true → D p) (hW : Whole (Rgn.of C n ops) D) : owOp C.P ops Q i (InvE ds (Rgn.of C n ops) F f0 c He n e0 h0 w0 fun j => D j ∨ j = i) a w := by
  have hlen : i < (Rgn.of C n ops).ss.length := by rw [of_length]; exact (Array.getElem?_eq_some_iff.1 hi).1
  have hmem : i ∈ rest.flatMap Ep.order := (I.mid.order.all i hlen).resolve_left hnd
  have hout := I.mid.order.out
  have hfirst : ∃ ep rest', rest = ep :: rest' ∧ ep.hv = some i := by
    cases hr : rest with
    | nil => rw [hr] at hmem; cases hmem
    | cons ep rest' =>
      refine ⟨ep, rest', rfl, ?_⟩
      rw [hr] at hmem hout
      obtain ⟨d, hd⟩ := Option.isSome_iff_exists.1 (I.mid.isSome ep (by rw [hr]; exact .head _))
      have heps := I.mid.eps
      rw [hr] at heps
      obtain ⟨h1, h2, _, _, h5⟩ := heps
      have hno : ∀ x, x ∈ (ep :: rest').flatMap Ep.order → ¬ ((Rgn.of C n ops).a i).testBit x = true := fun x hx hb => hout x hx (I.sub x (hanc x hb))
      have hdm : d ∈ (ep :: rest').flatMap Ep.order := by
        rw [List.flatMap_cons]
        refine List.mem_append_left _ ?_
        unfold Ep.order; rw [hd]; exact .head _
      by_cases hid : i = d
      · rw [hd, hid]
      · exfalso
        rw [List.flatMap_cons, List.mem_append] at hmem
        rcases hmem with hmem | hmem
        · unfold Ep.order at hmem
          rw [hd] at hmem
          have hmem : i ∈ d :: ep.ls := hmem
          rcases List.mem_cons.1 hmem with hh | hh
          · exact hid hh
          · exact hno d hdm ((h2 i hh).2 d hd)
        · rw [hd] at h5
          obtain ⟨x, hx, hx2⟩ := eps_behind h5 (fun e' he' => I.mid.isSome e' (by rw [hr]; exact .tail _ he')) i hmem
          rcases hx with rfl | hx
          · exact hno x hdm hx2
          · exact hno x (by rw [List.flatMap_cons]; exact List.mem_append_right _ hx) hx2
  obtain ⟨ep, rest', rfl, hep⟩ := hfirst
  have heps := I.mid.eps
  obtain ⟨h1, h2, h3, h4, h5⟩ := heps
  rw [hep] at h5
  have horder : ep.order = i :: ep.ls := by unfold Ep.order; rw [hep]; rfl
  have hord := I.mid.order
  rw [List.flatMap_cons, horder] at hord hout
  obtain ⟨_, hord1, hord2⟩ := hord
  have hrun := I.mid.run
  rw [List.flatMap_cons, Ep.out, horder, List.append_assoc, List.map_cons, List.cons_append] at hrun
  obtain ⟨v, H1, hst, hrun⟩ := runR_once (hP.again i) hrun
  have hviewj : View (Rgn.of C n ops) F f0 i fj := I.mid.slots.view (hP.use i hlen) hP.once hord1 fun _ p _ hor hD => hor.elim (fun h => hnd (h ▸ hD)) fun hb => hnd (I.mid.whole p hD i hb)
  have hviewf : View (Rgn.of C n ops) F f0 i f := I.slots.view (hP.use i hlen) hP.once hanc fun _ p _ hor hD => hor.elim (fun h => hnd (h ▸ I.sub p hD)) fun hb => hnd (I.sub i (hW p hD i hb))
  have hst' : stepS ((Rgn.of C n ops).s i) c f H = .ok v H1 := by rw [stepS_agree (hviewf.agree hviewj)]; exact hst
  have hlt : ∀ j ∈ ep.ls ++ rest'.flatMap Ep.order, j < (Rgn.of C n ops).ss.length := fun j hj => I.mid.lt j (by rw [List.flatMap_cons, horder]; exact List.mem_cons_of_mem _ hj)
  have hne : ∀ j ∈ ep.ls ++ rest'.flatMap Ep.order, j ≠ i := fun j hj hh => hord2.out j hj (.inr hh)
  have hVF : VF (Rgn.of C n ops) F i v := by
    intro t ht
    rw [runR_slot hrun, slot_putD, if_pos ht]
    intro s hs hsa hsd
    have hj : ∃ j, j ∈ ep.ls ++ rest'.flatMap Ep.order ∧ s = (Rgn.of C n ops).s j := by
      rcases List.mem_append.1 hs with hs | hs
      · obtain ⟨j, hj, rfl⟩ := List.mem_map.1 hs
        exact ⟨j, List.mem_append_left _ hj, rfl⟩
      · rcases List.mem_append.1 hs with hs | hs
        · obtain ⟨j, _, rfl⟩ := List.mem_map.1 hs
          cases hsa
        · obtain ⟨j, hj, rfl⟩ := out_once hs hsa
          exact ⟨j, List.mem_append_right _ hj, rfl⟩
    obtain ⟨j, hj, rfl⟩ := hj
    exact hne j hj (hP.once j i t (hlt j hj) hlen hsd ht)
  obtain ⟨f2, H2, nm2, mid2, hgrew, hls, hck, hnm, hinj⟩ := epoch_rest hP.use hP.once (fun i _ => hP.again i) (dn := fun j => dn j ∨ j = i) (ld := ld) (ls := ep.ls) (ck := ep.ck) (last := some i) (rest := rest') hrun
    (I.mid.slots.step hlen hVF) (I.mid.whole.step hord1) h5 hord2 (fun e' he' => I.mid.isSome e' (.tail _ he')) (fun j hj => hj.elim (I.mid.lights j) fun hh => .inr (hh ▸ (h1 i hep).1)) (fun j hj => .inl (I.mid.ldn j hj)) hlt (fun j hj => (h2 j hj).1) h4
    (fun j hj => hj.elim (I.mid.lt2 j) fun hh => hh ▸ hlen)
  have hgr : GR C e := hg.mono I.ext.le
  refine stepS_sim hc hi hst' hgr I.fn I.ext.hr fun e' v' w' hext hvr => ?_
  have hlsn : ∀ j ∈ ep.ls, ¬ dn j := fun j hj hd => hord2.out j (List.mem_append_left _ hj) (.inl hd)
  refine ⟨_, _, _, _, f2, H2, fun j => if j ∈ ep.ls then nm2 j else nm j, e', (putD ((Rgn.of C n ops).s i).d v f).out, mid2, (I.ext.trans hext).grow hgrew, ?_, I.slots.step hlen hVF, ?_, ?_, ?_, ?_, ?_⟩
  · obtain ⟨hd1, hd2⟩ := of_d hi hst'
    rw [hd1]; exact (I.fn.mono hext.le).putO hd2 hvr
  · rintro j (h | rfl)
    · exact .inl (.inl (I.sub j h))
    · exact .inl (.inr rfl)
  · rintro j ((h | rfl) | h) hk
    · exact .inl (I.deeds j h hk)
    · exact .inr rfl
    · exact absurd hk (h2 j h).1
  · rintro j ((hj | hj) | hj) hjn
    · have hjl : j ∉ ep.ls := fun h => hlsn j h hj
      have hjD : ¬ D j := fun h => hjn (.inl h)
      have hcase := I.facts j hj hjD
      by_cases hk1 : (Rgn.of C n ops).k j = 1
      · rcases I.mid.lights j hj with hld | hk3
        · rcases h3 j (.inl hld) hk1 with ⟨d, hd, hb⟩ | hc
          · rw [hep] at hd; cases hd
            exact absurd (hanc j hb) hjD
          · exact hck j hc _
        · rw [hk1] at hk3; cases hk3
      · obtain ⟨u, hu, hcase⟩ := hcase
        refine ⟨u, hu, ?_⟩
        simp only [if_neg hjl]
        rcases hcase with hcase | hcase | ⟨hk, ht, ht', hx, hmade⟩
        · exact .inl hcase
        · exact absurd hcase.1 hk1
        · refine .inr (.inr ⟨hk, ht, ht', hx, hmade.imp id ?_⟩)
          rintro ⟨B, hB, hnmj, hlt', hget⟩
          obtain ⟨n1, n2, n3⟩ := I.names j _ hjD hnmj
          refine ⟨B, hB, hnmj, Nat.lt_of_lt_of_le hlt' (Nat.le_trans hext.n hgrew.1), ?_⟩
          rw [hgrew.2.1 _ (Nat.lt_of_lt_of_le hlt' hext.n), hext.ours _ hlt' n3, hget]
    · exact absurd (.inr hj) hjn
    · have hbase : LFact (Rgn.of C n ops) F f0 c H2 nm2 j := by
        by_cases hcond : (Rgn.of C n ops).k j = 1 → ∀ q ∈ ep.ls, (Rgn.of C n ops).k q ≠ 2
        · exact hls j hj hcond
        · have hk1 : (Rgn.of C n ops).k j = 1 := Classical.byContradiction fun h => hcond fun h' => absurd h' h
          have hmk : ∃ q ∈ ep.ls, (Rgn.of C n ops).k q = 2 := Classical.byContradiction fun h => hcond fun _ q hq hq2 => h ⟨q, hq, hq2⟩
          rcases h3 j (.inr ⟨hj, hmk⟩) hk1 with ⟨d, hd, hb⟩ | hc
          · rw [hep] at hd; cases hd
            exact absurd (I.sub j (hanc j hb)) (hlsn j hj)
          · exact hck j hc _
      exact hbase.nm (if_pos hj)
  · intro j b hjn hb
    have hb : (if j ∈ ep.ls then nm2 j else nm j) = some b := hb
    by_cases hj : j ∈ ep.ls
    · rw [if_pos hj] at hb
      obtain ⟨_, k1, k2⟩ := hnm j b hb
      refine ⟨Nat.le_trans I.ext.n (Nat.le_trans hext.n k1), k2, fun g => ?_⟩
      cases hx : e' b g with
      | none => rfl
      | some y => have := (hext.hr.lt b g y hx).2; omega
    · rw [if_neg hj] at hb
      obtain ⟨n1, n2, n3⟩ := I.names j b (fun h => hjn (.inl h)) hb
      exact ⟨n1, Nat.lt_of_lt_of_le n2 (Nat.le_trans hext.n hgrew.1), hext.none n2 n3⟩
  · intro j q b hjn hqn hb hb'
    have hb : (if j ∈ ep.ls then nm2 j else nm j) = some b := hb
    have hb' : (if q ∈ ep.ls then nm2 q else nm q) = some b := hb'
    by_cases hj : j ∈ ep.ls
    · rw [if_pos hj] at hb
      by_cases hq : q ∈ ep.ls
      · rw [if_pos hq] at hb'; exact hinj j q b hb hb'
      · rw [if_neg hq] at hb'
        have k1 := (hnm j b hb).2.1
        have k2 := (I.names q b (fun h => hqn (.inl h)) hb').2.1
        have := hext.n
        omega
    · rw [if_neg hj] at hb
      by_cases hq : q ∈ ep.ls
      · rw [if_pos hq] at hb'
        have k1 := (hnm q b hb').2.1
        have k2 := (I.names j b (fun h => hjn (.inl h)) hb).2.1
        have := hext.n
        omega
      · rw [if_neg hq] at hb'
        exact I.inj j q b (fun h => hjn (.inl h)) (fun h => hqn (.inl h)) hb hb'
end
end
end Go.Ab

/- Regions whose order is drawn: DrawOK. -/
namespace Go.Ab
open Go
variable {C : Cx} {ds : List Deferred} {R : Option Nat → Prop}

/-- What is listed. -/
def Lst (listed : Array Bool) (i : Nat) : Prop := listed.getD i false = true
theorem Lst.not {listed : Array Bool} {i : Nat} (h : i < listed.size) : ¬ Lst listed i ↔ listed.getD i true = false := by
  unfold Lst
  rw [Array.getD_eq_getD_getElem?, Array.getD_eq_getD_getElem?, Array.getElem?_eq_getElem h]
  cases listed[i] <;> simp
theorem Lst.set {listed : Array Bool} {i : Nat} (h : i < listed.size) (j : Nat) : Lst (listed.setIfInBounds i true) j ↔ (Lst listed j ∨ j = i) := by
  unfold Lst
  by_cases hj : j = i
  · subst hj; simp [h]
  · rw [getD_set_ne false (fun hh => hj hh.symm)]
    constructor
    · exact .inl
    · rintro (h | h)
      · exact h
      · exact absurd h hj
theorem count_listed {listed : Array Bool} {i : Nat} (h : i < listed.size) (hi : listed.getD i true = false) : (listed.setIfInBounds i true).toList.count false + 1 = listed.toList.count false := by
  have h2 : listed[i] = false := by
    rw [Array.getD_eq_getD_getElem?, Array.getElem?_eq_getElem h] at hi
    exact hi
  have hmem : false ∈ listed.toList := by
    rw [← h2]; simp
  have hpos : 0 < listed.toList.count false := List.count_pos_iff.2 hmem
  rw [Array.toList_setIfInBounds, List.count_set (by simpa using h)]
  have : listed.toList[i]'(by simpa using h) = false := by simpa using h2
  rw [this, if_pos (by decide), if_neg (by decide)]
  omega

theorem runR_norm (c : CallT) : ∀ (l : List CS) (f : Fr) (h : Hp), (∃ f' h', runR l c f h = .norm f' h') ∨ ∃ q, runR l c f h = .no q
  | [], f, h => .inl ⟨f, h, rfl⟩
  | s :: l, f, h => by
    show (∃ f' h', oneS s (runR l) c f h = .norm f' h') ∨ ∃ q, oneS s (runR l) c f h = .no q
    cases hs : s.again with
    | false =>
      rw [oneS_once hs]
      cases stepS s c f h with
      | no w => exact .inr ⟨w, rfl⟩
      | ok v h2 => exact runR_norm c l _ h2
    | true =>
      rw [oneS_again hs]
      cases stepS s c f h with
      | no w => exact .inr ⟨w, rfl⟩
      | ok v h2 =>
        show (∃ f' h', ifb (slotIs s.d v f) (runR l c f h2) (.no "not the same once more") = .norm f' h') ∨ ∃ q, ifb (slotIs s.d v f) (runR l c f h2) (.no "not the same once more") = .no q
        cases slotIs s.d v f with
        | false => exact .inr ⟨_, rfl⟩
        | true => exact runR_norm c l f h2
theorem runR_bad {q : String} {c : CallT} : ∀ {l : List CS} {f f' : Fr} {h h' : Hp}, runR l c f h = .norm f' h' → ⟨.bad q, none, none, false⟩ ∉ l
  | s :: l, f, f', h, h', hx, hm => by
    cases hs : s.again with
    | false =>
      obtain ⟨v, h2, h3, h4⟩ := runR_once hs hx
      cases hm with
      | head =>
        have h3 : R2.no q = .ok v h2 := h3
        cases h3
      | tail _ hm => exact runR_bad h4 hm
    | true =>
      obtain ⟨v, h2, _, _, h4⟩ := runR_again hs hx
      cases hm with
      | head => cases hs
      | tail _ hm => exact runR_bad h4 hm

section
variable {n : Nat} {ops : Array Oper} {F f0 : Fr} {c : CallT} {He : Hp} {e0 : Emb} {h0 : Hp} {w0 : World} {Q : Exit → Act → World → Prop}

theorem end_sim {ps : List Ep} (hord : OrderOK (Rgn.of C n ops) (ps.flatMap Ep.order) fun _ => False) (hlt : ∀ i ∈ ps.flatMap Ep.order, i < (Rgn.of C n ops).ss.length) (hq : ∀ e a w, Ext e0 h0 w0 e He w → FN ds n e F a → Q .normal a w)
    {listed : Array Bool} (hsz : listed.size = ops.size) {a : Act} {w : World} (I : InvE ds (Rgn.of C n ops) F f0 c He n e0 h0 w0 (Lst listed) a w) (hr : Region.ready .any ops listed = []) : Q .normal a w := by
  obtain ⟨dn, ld, last, rest, fj, H, nm, e, f, I⟩ := I
  have hall : ∀ i ∈ ps.flatMap Ep.order, Lst listed i := by
    intro i hi
    refine Classical.byContradiction fun hn => ?_
    obtain ⟨j, hj, hjn, hja⟩ := hord.first (E := Lst listed) (fun _ h => h.elim) ⟨i, hi, hn⟩
    have hjl : j < ops.size := by have := hlt j hj; rwa [of_length] at this
    have : j ∈ Region.ready .any ops listed := mem_ready.2 ⟨(Lst.not (by omega)).1 hjn, ops[j], by simp [hjl], fun d hd hb => hja _ (of_edge (by simp [hjl]) hd hb)⟩
    rw [hr] at this; cases this
  have hD : ∀ i, i < (Rgn.of C n ops).ss.length → Lst listed i := fun i hi => (hord.all i hi).elim (fun h => h.elim) (hall i)
  have hrest : rest = [] := by
    cases hrs : rest with
    | nil => rfl
    | cons ep rest' =>
      have h1 := I.mid.isSome ep (by rw [hrs]; exact .head _)
      obtain ⟨d, hd⟩ := Option.isSome_iff_exists.1 h1
      have hdm : d ∈ rest.flatMap Ep.order := by
        rw [hrs, List.flatMap_cons]
        refine List.mem_append_left _ ?_
        unfold Ep.order; rw [hd]; exact .head _
      exact absurd (I.sub d (hD d (I.mid.lt d hdm))) (I.mid.order.out d hdm)
  have hrun := I.mid.run
  rw [hrest] at hrun
  have hrun : Out.norm fj H = .norm F He := hrun
  cases hrun
  refine hq e a w I.ext ⟨⟨fun t => ?_, I.fn.1.2⟩, I.fn.2⟩
  have hslot : slot F t = slot f t := by
    by_cases hs : ∃ i, i < (Rgn.of C n ops).ss.length ∧ ((Rgn.of C n ops).s i).d = some (path t)
    · obtain ⟨i, hi, hid⟩ := hs
      rw [I.slots.1 i hi (hD i hi) t hid]
    · have hno : ∀ i, i < (Rgn.of C n ops).ss.length → ((Rgn.of C n ops).s i).d ≠ some (path t) := fun i hi hid => hs ⟨i, hi, hid⟩
      rw [I.slots.2 t fun i hi _ => hno i hi, I.mid.slots.2 t fun i hi _ => hno i hi]
  rw [hslot]; exact I.fn.1.1 t

theorem any_sim {ps : List Ep} (hord : OrderOK (Rgn.of C n ops) (ps.flatMap Ep.order) fun _ => False) (hlt : ∀ i ∈ ps.flatMap Ep.order, i < (Rgn.of C n ops).ss.length) (hq : ∀ e a w, Ext e0 h0 w0 e He w → FN ds n e F a → Q .normal a w)
    (hP : Plan (Rgn.of C n ops)) (hg : GR C e0) (hc : CallOK C c) : ∀ (fuel : Nat) (listed : Array Bool) (a : Act) (w : World), listed.size = ops.size → listed.toList.count false ≤ fuel → Closed ops (Lst listed) →
      InvE ds (Rgn.of C n ops) F f0 c He n e0 h0 w0 (Lst listed) a w → owAny C.P .any ops Q fuel listed a w
  | 0, listed, a, w, hsz, hf, _, I => by
    have hr : Region.ready .any ops listed = [] := by
      refine List.eq_nil_iff_forall_not_mem.2 fun j hj => ?_
      obtain ⟨h1, o, ho, _⟩ := mem_ready.1 hj
      have := count_listed (by rw [hsz]; exact (Array.getElem?_eq_some_iff.1 ho).1) h1
      omega
    exact ⟨hr, end_sim hord hlt hq hsz I hr⟩
  | fuel + 1, listed, a, w, hsz, hf, hcl, I => by
    refine ⟨fun hr => end_sim hord hlt hq hsz I hr, fun i hi => ?_⟩
    obtain ⟨h1, o, ho, h2⟩ := mem_ready.1 hi
    have hil : i < listed.size := by rw [hsz]; exact (Array.getElem?_eq_some_iff.1 ho).1
    have hn : ¬ Lst listed i := (Lst.not hil).2 h1
    have hanc : ∀ p, ((Rgn.of C n ops).a i).testBit p = true → Lst listed p := fun p hp => hcl.ahead (of_a hp) fun o' d ho' hd hb => by
      rw [ho] at ho'; cases ho'
      exact h2 d hd hb
    have hW : Whole (Rgn.of C n ops) (Lst listed) := fun p hp q hq => hcl.dep (of_a hq) hp
    have hcl' : Closed ops (Lst (listed.setIfInBounds i true)) := fun j o' d hj ho' hd hb => by
      refine (Lst.set hil _).2 (.inl ?_)
      rcases (Lst.set hil j).1 hj with hj | rfl
      · exact hcl j o' d hj ho' hd hb
      · rw [ho] at ho'; cases ho'
        exact h2 d hd hb
    have hK : ∀ a' w', InvE ds (Rgn.of C n ops) F f0 c He n e0 h0 w0 (fun j => Lst listed j ∨ j = i) a' w' → owAny C.P .any ops Q fuel (listed.setIfInBounds i true) a' w' := fun a' w' I' => by
      refine any_sim hord hlt hq hP hg hc fuel _ a' w' (by simpa using hsz) ?_ hcl' ?_
      · have := count_listed hil h1
        omega
      · have : Lst (listed.setIfInBounds i true) = fun j => Lst listed j ∨ j = i := funext fun j => propext (Lst.set hil j)
        rw [this]; exact I'
    obtain ⟨dn, ld, last, rest, fj, H, nm, e, f, I⟩ := I
    by_cases hd : dn i
    · exact owOp_mono hK (light_step hP hg hc I ho hd hn hanc hW)
    · exact owOp_mono hK (heavy_step hP hg hc I ho hd hanc hW)
end

/-- Regions whose order is drawn. -/
theorem draw_by (hm : C.P.follows .mixedOrders = true) (n id : Nat) (ops : Array Oper) (c : CallT) (hc : CallOK C c) (f0 : Fr) (h0 : Hp) (e0 : Emb) (a : Act) (w : World) (Q : Exit → Act → World → Prop)
    (hg : GR C e0) (hf : FN ds n e0 f0 a) (hr : HR e0 h0 w) (hp : Post0 C ds n e0 h0 w Q (runR (drawBy (Rgn.of C n ops) (Rgn.of C n ops).plan) c f0 h0)) : (Code.region id ops true).ow R C.P Q a w := by

  refine ow_region_any hm ?_
  have hp : Post0 C ds n e0 h0 w Q (runR (ifb ((Rgn.of C n ops).ok (Rgn.of C n ops).plan) ((Rgn.of C n ops).plan.flatMap (Ep.out (Rgn.of C n ops))) [⟨.bad "a region that draws", none, none, false⟩]) c f0 h0) := hp
  cases hok : (Rgn.of C n ops).ok (Rgn.of C n ops).plan with
  | false => rw [hok] at hp; exact hp.elim
  | true =>
    rw [hok, ifb_true] at hp
    generalize (Rgn.of C n ops).plan = ps at hok hp
    rcases runR_norm c (ps.flatMap (Ep.out (Rgn.of C n ops))) f0 h0 with ⟨F, He, hx⟩ | ⟨q, hx⟩
    · rw [hx] at hp
      unfold Rgn.ok at hok
      simp only [Bool.and_eq_true] at hok
      obtain ⟨k1, k2, k3, k4, k5⟩ := hok
      have hord := okOrder_spec (seen := fun _ => False) (fun j => by simp) k1
      have hlt : ∀ i ∈ ps.flatMap Ep.order, i < (Rgn.of C n ops).ss.length := fun i hi => Classical.byContradiction fun hn => by
        obtain ⟨ep, hep, hi⟩ := List.mem_flatMap.1 hi
        refine runR_bad (q := "region") hx ?_
        rw [← of_far hn]
        refine List.mem_flatMap.2 ⟨ep, hep, ?_⟩
        unfold Ep.out
        exact List.mem_append_left _ (List.mem_map.2 ⟨i, hi, rfl⟩)
      have hP : Plan (Rgn.of C n ops) := by
        refine ⟨fun i hi => ?_, fun p q t hp hq h1 h2 => ?_, of_again, fun i hi hk => ?_⟩
        · have := List.all_eq_true.1 k3 i (all_mem.2 hi)
          rw [Bool.and_eq_true] at this
          exact this.1
        · obtain ⟨_, hpw⟩ := okDst_spec k2
          refine Classical.byContradiction fun hne => ?_
          have key : ∀ p q, p < (Rgn.of C n ops).ss.length → q < (Rgn.of C n ops).ss.length → p < q → ((Rgn.of C n ops).s p).d = some (path t) → ((Rgn.of C n ops).s q).d ≠ some (path t) := by
            intro p q hp hq hpq h1
            have := List.pairwise_iff_getElem.1 hpw p q (by simpa [Rgn.all] using hp) (by simpa [Rgn.all] using hq) hpq
            simp only [Rgn.all, List.getElem_range] at this
            exact this t h1
          rcases Nat.lt_or_gt_of_ne hne with hl | hl
          · exact key p q hp hq hl h1 h2
          · exact key q p hq hp hl h2 h1
        · have := List.all_eq_true.1 k3 i (all_mem.2 hi)
          rw [Bool.and_eq_true, Bool.or_eq_true, Bool.not_eq_true'] at this
          rcases this.2 with h | h
          · rw [beq_iff.2 hk] at h; cases h
          · exact h
      have heps := okEps_spec k4
      cases ps with
      | nil => cases k5
      | cons ep rest =>
        have k5 : and ep.hv.isNone (rest.all fun e => e.hv.isSome) = true := k5
        rw [Bool.and_eq_true] at k5
        obtain ⟨k6, k7⟩ := k5
        have hev : ep.hv = none := by simpa using k6
        have horder : ep.order = ep.ls := by unfold Ep.order; rw [hev]; rfl
        have hw0 : Ext e0 h0 w e0 h0 { w with drawn := w.drawn + 1 } := Ext.drew hr rfl rfl rfl
        obtain ⟨h1, h2, h3, h4, h5⟩ := heps
        rw [hev] at h5
        have hord0 := hord
        rw [List.flatMap_cons, horder] at hord0 hlt
        have hrun := hx
        rw [List.flatMap_cons, Ep.out, horder, List.append_assoc] at hrun
        have hS0 : Slots (Rgn.of C n ops) F f0 (fun _ => False) f0 := ⟨fun _ _ h => h.elim, fun _ _ => rfl⟩
        obtain ⟨f2, H2, nm, mid, hgrew, hls, hck, hnm, hinj⟩ := epoch_rest hP.use hP.once (fun i _ => hP.again i) (dn := fun _ => False) (ld := []) (ls := ep.ls) (ck := ep.ck) (last := none) (rest := rest) hrun hS0 (fun p h => h.elim) h5 hord0
          (fun e he => List.all_eq_true.1 k7 e he) (fun i h => h.elim) (fun i h => by cases h) hlt (fun i hi => (h2 i hi).1) (fun i hi => (h4 i hi)) (fun i h => h.elim)
        refine any_sim hord (by rw [List.flatMap_cons, horder]; exact hlt) (e0 := e0) (h0 := h0) (w0 := w) (c := c) (F := F) (f0 := f0) (He := He) (fun e' a' w' hext hfn => hp e' a' w' hext hfn) hP hg hc ops.size _ a _ (by simp) (by simp) ?_ ?_
        · intro i o d hi
          unfold Lst at hi
          rw [Array.getD_eq_getD_getElem?, Array.getElem?_replicate] at hi
          split at hi <;> cases hi
        · have hno : ∀ i, ¬ Lst (Array.replicate ops.size false) i := fun i hi => by
            unfold Lst at hi
            rw [Array.getD_eq_getD_getElem?, Array.getElem?_replicate] at hi
            split at hi <;> cases hi
          have hlst : Lst (Array.replicate ops.size false) = fun _ => False := funext fun i => propext ⟨hno i, False.elim⟩
          rw [hlst]
          refine ⟨_, _, _, _, f2, H2, nm, e0, f0, mid, hw0.grow hgrew, hf, hS0, fun i h => h.elim, ?_, ?_, ?_, fun i j b _ _ => hinj i j b⟩
          · rintro i (h | h) hk
            · exact h
            · exact absurd hk (h2 i h).1
          · rintro i (h | h) _
            · exact h.elim
            · by_cases hcond : (Rgn.of C n ops).k i = 1 → ∀ q ∈ ep.ls, (Rgn.of C n ops).k q ≠ 2
              · exact hls i h hcond
              · have hk1 : (Rgn.of C n ops).k i = 1 := Classical.byContradiction fun h => hcond fun h' => absurd h' h
                have hmk : ∃ q ∈ ep.ls, (Rgn.of C n ops).k q = 2 := Classical.byContradiction fun h => hcond fun _ q hq hq2 => h ⟨q, hq, hq2⟩
                rcases h3 i (.inr ⟨h, hmk⟩) hk1 with ⟨d, hd, _⟩ | hc'
                · rw [hev] at hd; cases hd
                · exact hck i hc' _
          · intro i b _ hb
            obtain ⟨_, k8, k9⟩ := hnm i b hb
            refine ⟨k8, k9, fun g => ?_⟩
            cases hy : e0 b g with
            | none => rfl
            | some y => have := (hr.lt b g y hy).2; omega
    · rw [hx] at hp; exact hp.elim
end Go.Ab

/- Loops over maps: what is put, what stays. -/
namespace Go.Ab
open Go
variable {C : Cx}

/-! ### Values that are known under fewer names -/
mutual
theorem VR.back {e e' : Emb} (h : e.le e') : ∀ {v : AV} {v1 v2 : Value}, VR e v v1 → VR e' v v2 → VR e v v2
  | _, _, _, .int k n, q => by cases q; exact .int k n
  | _, _, _, .bool b, q => by cases q; exact .bool b
  | _, _, _, .str s, q => by
    generalize hv : AV.str s.size (packB s.data.toList) = v at q
    cases q <;> first | (cases hv; done) | skip
    case str s2 => exact .str s2
  | _, _, _, .ptr b g o x a c d, q => by
    cases q with
    | ptr _ _ _ y a' c' d' =>
      have := h _ _ _ a
      rw [a'] at this; cases this
      exact .ptr b g o _ a c' d'
  | _, _, _, .slc b g o n c cap x ad p q r s t u k, q2 => by
    cases q2 with
    | slc _ _ _ _ _ cap2 y ad' p' q' r' s' t' u' k' =>
      have := h _ _ _ p
      rw [p'] at this; cases this
      exact .slc b g o n c cap2 _ ad' p q' r' s' t' u' k'
  | _, _, _, .nilp, q => VR.atNil q
  | _, _, _, .nils, q => VR.atNil q
  | _, _, _, .nilm, q => VR.atNil q
  | _, _, _, .nilf, q => VR.atNil q
  | _, _, _, .nili, q => VR.atNil q
  | _, _, _, .map r x p pb, q => by
    cases q with
    | map _ y p' =>
      have := h _ _ _ p
      rw [p'] at this; cases this
      exact .map r _ p pb
  | _, _, _, .fn g a b a' b' hy p q, q2 => by
    cases q2 with
    | fn _ _ _ a2 b2 _ p2 q2 => exact .fn g a b a2 b2 hy (VRL.back h p p2) (VRL.back h q q2)
    | yld m y _ _ => exact absurd hy (by decide)
  | _, _, _, .yld m x p pb, q2 => by
    cases q2 with
    | fn _ _ _ a2 b2 hy _ _ => exact absurd hy (by decide)
    | yld _ y p' _ =>
      have := h _ _ _ p
      rw [p'] at this; cases this
      exact .yld m _ p pb
  | _, _, _, .ifc t v v' p, q => by
    cases q with
    | ifc _ _ v2 p2 => exact .ifc t v v2 (VR.back h p p2)
  | _, _, _, .agg l l' p q, q2 => by
    cases q2 with
    | agg _ l2 p2 q2 => exact .agg l l2 (VRL.back h p p2) q
  | _, _, _, .tup l l' p, q2 => by
    cases q2 with
    | tup _ l2 p2 => exact .tup l l2 (VRL.back h p p2)
  | _, _, v2, .any _, _ => .any v2
  | _, _, v2, .modv _ _ _ _ _ _ _, q => VR.atNil q
  | _, _, v2, .remv _ _ _ _, q => VR.atNil q
  | _, _, v2, .opq _ _, q => VR.atNil q
theorem VRL.back {e e' : Emb} (h : e.le e') : ∀ {l : List AV} {l1 l2 : List Value}, VRL e l l1 → VRL e' l l2 → VRL e l l2
  | _, _, _, .nil, q => by cases q; exact .nil
  | _, _, _, .cons v v' l l' p q, q2 => by
    cases q2 with
    | cons _ v2 _ l2 p2 q2 => exact .cons v v2 l l2 (VR.back h p p2) (VRL.back h q q2)
end

theorem VR.prim {e e' : Emb} {v : AV} {v' : Value} (hp : primV v = true) (h : VR e v v') : VR e' v v' := by
  cases h <;> first | (cases hp; done) | constructor <;> assumption

/-! ### Slots -/
theorem slot_path (f : Fr) (p : List Bool) : slot f (unpath p) = (getP p f).getD undefA := by rw [slot_eq, path_unpath]
theorem slot_put (v : AV) (p : List Bool) (f : Fr) (t : Nat) : slot (setP v p f).out t = if path t = p then v else slot f t := by
  have := slot_putD (some p) v f t
  rw [show (putD (some p) v f).out = (setP v p f).out from rfl] at this
  rw [this]
  by_cases h : path t = p
  · rw [if_pos h, if_pos (by rw [h])]
  · rw [if_neg h, if_neg (fun hh => h (Option.some.inj hh).symm)]

theorem anyAll_slot : ∀ (l : List (List Bool)) (f : Fr) (t : Nat), slot (anyAll l f).out t = if path t ∈ l then anyA else slot f t
  | [], f, t => by rw [if_neg (by simp)]; rfl
  | p :: l, f, t => by
    have h1 : (anyAll (p :: l) f).out = (anyAll l (setP anyA p f).out).out := by
      show ((setP anyA p f).bd fun f => anyAll l f).out = _
      rw [Bx.eta (setP anyA p f)]; rfl
    rw [h1, anyAll_slot l, slot_put]
    by_cases h2 : path t ∈ l
    · rw [if_pos h2, if_pos (.tail _ h2)]
    · rw [if_neg h2]
      by_cases h3 : path t = p
      · rw [if_pos h3, if_pos (by rw [h3]; exact .head _)]
      · rw [if_neg h3, if_neg]
        intro h
        rcases List.mem_cons.1 h with h | h
        · exact h3 h
        · exact h2 h

theorem slotV_spec {f : Fr} {p : List Bool} {v : AV} (h : slotV f p = some v) : primV v = true ∧ getP p f = some v := by
  unfold slotV at h
  cases hg : getP p f with
  | none => rw [hg] at h; cases h
  | some u =>
    rw [hg] at h
    cases hp : primV u with
    | false => simp only [hp] at h; cases h
    | true => simp only [hp] at h; cases h; exact ⟨hp, rfl⟩
theorem putSs_slot : ∀ (l : List (List Bool)) (vs : List AV) (f g : Fr) (t : Nat), readSs g l = some vs → slot (putSs l vs f).out t = if path t ∈ l then slot g t else slot f t
  | [], vs, f, g, t, h => by rw [if_neg (by simp)]; cases vs <;> rfl
  | p :: l, vs, f, g, t, h => by
    unfold readSs at h
    cases hs : slotV g p with
    | none => rw [hs] at h; cases h
    | some v =>
      rw [hs] at h
      cases hr : readSs g l with
      | none => rw [hr] at h; cases h
      | some r =>
        rw [hr] at h; cases h
        have h1 : (putSs (p :: l) (v :: r) f).out = (putSs l r (setP v p f).out).out := by
          show ((setP v p f).bd fun f => putSs l r f).out = _
          rw [Bx.eta (setP v p f)]; rfl
        rw [h1, putSs_slot l r _ g t hr, slot_put]
        by_cases h2 : path t ∈ l
        · rw [if_pos h2, if_pos (.tail _ h2)]
        · rw [if_neg h2]
          by_cases h3 : path t = p
          · rw [if_pos h3, if_pos (by rw [h3]; exact .head _), slot_eq, h3, (slotV_spec hs).2]; rfl
          · rw [if_neg h3, if_neg]
            intro h
            rcases List.mem_cons.1 h with h | h
            · exact h3 h
            · exact h2 h
theorem readSs_prim : ∀ {l : List (List Bool)} {vs : List AV} {g : Fr} {t : Nat}, readSs g l = some vs → path t ∈ l → primV (slot g t) = true
  | p :: l, vs, g, t, h, hm => by
    unfold readSs at h
    cases hs : slotV g p with
    | none => rw [hs] at h; cases h
    | some v =>
      rw [hs] at h
      cases hr : readSs g l with
      | none => rw [hr] at h; cases h
      | some r =>
        rcases List.mem_cons.1 hm with hh | hh
        · rw [slot_eq, hh, (slotV_spec hs).2]; exact (slotV_spec hs).1
        · exact readSs_prim hr hh

/-! ### Cells -/
theorem cellV_spec {h : Hp} {b : Nat} {v : AV} (hc : cellV h b = some v) : primV v = true ∧ h.get b = some (.flat [v] 0) := by
  unfold cellV at hc
  split at hc
  · rename_i u z hg
    cases hz : Nat.beq z 0 with
    | false => rw [hz] at hc; cases hc
    | true => cases hp : primV u with
      | false => rw [hz, hp] at hc; cases hc
      | true =>
        rw [hz, hp] at hc; cases hc
        rw [hg, beq_iff.1 hz]; exact ⟨hp, rfl⟩
  · cases hc
theorem putCs_spec : ∀ (l : List Nat) (vs : List AV) (h h' : Hp), readCs h' l = some vs → (putCs l vs h).out.n = h.n ∧ (putCs l vs h).out.lk = h.lk ∧ ∀ b, (putCs l vs h).out.get b = if b ∈ l then h'.get b else h.get b
  | [], vs, h, h', _ => ⟨by cases vs <;> rfl, by cases vs <;> rfl, fun b => by rw [if_neg (by simp)]; cases vs <;> rfl⟩
  | p :: l, vs, h, h', hr => by
    unfold readCs at hr
    cases hs : cellV h' p with
    | none => rw [hs] at hr; cases hr
    | some v =>
      rw [hs] at hr
      cases hr2 : readCs h' l with
      | none => rw [hr2] at hr; cases hr
      | some r =>
        rw [hr2] at hr; cases hr
        have h1 : (putCs (p :: l) (v :: r) h).out = (putCs l r ⟨setT (.flat [v] 0) (path p) h.t, h.n, h.lk⟩).out := by
          show ((h.put p (.flat [v] 0)).bd fun h => putCs l r h).out = _
          rw [Hp.put_eq, Bx.bd_mk]
        rw [h1]
        obtain ⟨k1, k2, k3⟩ := putCs_spec l r ⟨setT (.flat [v] 0) (path p) h.t, h.n, h.lk⟩ h' hr2
        refine ⟨k1, k2, fun b => ?_⟩
        rw [k3 b, Hp.get_set _ _ h.n]
        by_cases h2 : b ∈ l
        · rw [if_pos h2, if_pos (.tail _ h2)]
        · rw [if_neg h2]
          by_cases h3 : b = p
          · rw [if_pos h3, if_pos (by rw [h3]; exact .head _), h3, (cellV_spec hs).2]
          · rw [if_neg h3, if_neg]
            intro h
            rcases List.mem_cons.1 h with h | h
            · exact h3 h
            · exact h2 h
theorem readCs_cell : ∀ {l : List Nat} {vs : List AV} {h : Hp} {b : Nat}, readCs h l = some vs → b ∈ l → ∃ v, primV v = true ∧ h.get b = some (.flat [v] 0)
  | p :: l, vs, h, b, hr, hm => by
    unfold readCs at hr
    cases hs : cellV h p with
    | none => rw [hs] at hr; cases hr
    | some v =>
      rw [hs] at hr
      cases hr2 : readCs h l with
      | none => rw [hr2] at hr; cases hr
      | some r =>
        rcases List.mem_cons.1 hm with hh | hh
        · rw [hh]; exact ⟨v, (cellV_spec hs).1, (cellV_spec hs).2⟩
        · exact readCs_cell hr2 hh
theorem readSt_spec {ex : List Nat} {cs : List (List Bool)} {f : Fr} {h : Hp} {s : St} (hr : readSt ex cs f h = .ok s) : readCs h ex = some s.1 ∧ readSs f cs = some s.2 := by
  unfold readSt at hr
  cases h1 : readCs h ex with
  | none => rw [h1] at hr; cases hr
  | some a => cases h2 : readSs f cs with
    | none => rw [h1, h2] at hr; cases hr
    | some b => rw [h1, h2] at hr; cases hr; exact ⟨rfl, rfl⟩

/-! ### What stays -/
theorem mem_setsR {l : List CS} {s : CS} {p : List Bool} (hs : s ∈ l) (hd : s.d = some p) : p ∈ setsR l := List.mem_filterMap.2 ⟨s, hs, hd⟩
theorem runR_keep {c : CallT} {l : List CS} {f f' : Fr} {h h' : Hp} (hx : runR l c f h = .norm f' h') {t : Nat} (ht : path t ∉ setsR l) : slot f' t = slot f t :=
  runR_slot hx fun _ hs _ hd => ht (mem_setsR hs hd)
def Out.keeps (t : Nat) (f : Fr) : Out → Prop
  | .norm f' _ => slot f' t = slot f t
  | .exit _ f' _ => slot f' t = slot f t
  | .ret f' _ => slot f' t = slot f t
  | .no _ => True
theorem Out.keeps.trans {t : Nat} {f f' : Fr} (h : slot f' t = slot f t) {o : Out} (ho : o.keeps t f') : o.keeps t f := by
  cases o with
  | norm g k => exact Eq.trans ho h
  | exit i g k => exact Eq.trans ho h
  | ret g k => exact Eq.trans ho h
  | no w => trivial
theorem runR_keeps {c : CallT} {l : List CS} {f : Fr} {h : Hp} {t : Nat} (ht : path t ∉ setsR l) : (runR l c f h).keeps t f := by
  rcases runR_norm c l f h with ⟨f', h', hx⟩ | ⟨q, hx⟩
  · rw [hx]; exact runR_keep hx ht
  · rw [hx]; trivial
theorem rounds_keeps {b : CallT → Fr → Hp → Out} {c : CallT} {t : Nat} (hb : ∀ f h, (b c f h).keeps t f) : ∀ (m : Nat) (f : Fr) (h : Hp), (rounds b c m f h).keeps t f
  | 0, _, _ => trivial
  | m + 1, f, h => by
    show ((b c f h).bd Out.no (rounds b c m) Out.exit).keeps t f
    have := hb f h
    cases hx : b c f h with
    | norm f' h' => rw [hx] at this; exact (rounds_keeps hb m f' h').trans this
    | exit i f' h' => rw [hx] at this; exact this
    | ret f' h' => rw [hx] at this; exact this
    | no w => trivial
end Go.Ab

/- Loops over maps: what code leaves; the ways through the rounds. -/
namespace Go.Ab
open Go
variable {C : Cx}

theorem putSs_out : ∀ (l : List (List Bool)) (vs : List AV) (f : Fr) (t : Nat), path t ∉ l → slot (putSs l vs f).out t = slot f t
  | [], vs, f, t, _ => by cases vs <;> rfl
  | p :: l, [], f, t, _ => rfl
  | p :: l, v :: vs, f, t, h => by
    have h1 : (putSs (p :: l) (v :: vs) f).out = (putSs l vs (setP v p f).out).out := by
      show ((setP v p f).bd fun f => putSs l vs f).out = _
      rw [Bx.eta (setP v p f)]; rfl
    rw [h1, putSs_out l vs _ t (fun hh => h (.tail _ hh)), slot_put, if_neg (fun hh => h (by rw [hh]; exact .head _))]

theorem mapEs_keeps (m : ML) (b : CallT → Fr → Hp → Out) (c : CallT) (f : Fr) (h : Hp) (es : Es) {t : Nat} (h1 : path t ∉ m.ds) (h2 : path t ∉ m.cs) : (mapEs m b c f h es).keeps t f := by
  unfold mapEs
  rw [Bx.eta (anyAll m.ds f), Bx.bd_mk]
  simp only
  split
  · trivial
  · rename_i s _
    split
    · trivial
    · rename_i rows _
      cases and ((exOf h f []).all h.okw) (okRows (lenA es) rows) with
      | false => trivial
      | true =>
        rw [ifb_true]
        split
        · rename_i s2 _
          rw [Bx.eta (putSs _ s2.2 _), Bx.bd_mk, Bx.eta (putCs _ s2.1 _), Bx.bd_mk]
          show slot (putSs _ s2.2 _).out t = slot f t
          rw [putSs_out _ _ _ _ (fun hh => h2 (List.mem_filter.1 hh).1), anyAll_slot, if_neg h1]
        · trivial

theorem fillEs_out {m : ML} {q : List CS × Nat × List Bool × List Bool × List Bool} {c : CallT} {f : Fr} {h : Hp} {r : Nat} {es : Es} : (∃ w, fillEs m q c f h r es = .no w) ∨ ∃ h', fillEs m q c f h r es = .norm (anyAll m.ds f).out h' := by
  generalize ho : fillEs m q c f h r es = o
  unfold fillEs at ho
  rw [Bx.eta (anyAll m.ds f), Bx.bd_mk] at ho
  split at ho
  · exact .inl ⟨_, ho.symm⟩
  · rename_i kv l
    split at ho
    · exact .inl ⟨_, ho.symm⟩
    · rename_i r0 hr0
      unfold Hp.onMap at ho
      cases hg : h.get r0.1 with
      | none => rw [hg] at ho; exact .inl ⟨_, ho.symm⟩
      | some blk =>
      rw [hg] at ho
      cases blk with
      | flat _ _ => exact .inl ⟨_, ho.symm⟩
      | grown _ _ _ _ => exact .inl ⟨_, ho.symm⟩
      | sit _ _ _ => exact .inl ⟨_, ho.symm⟩
      | lp _ => exact .inl ⟨_, ho.symm⟩
      | map est =>
      have ho : ifb (and (hasMap r0.1 f) (and (h.okw r0.1) (not (Nat.beq r0.1 r)))) ((h.put r0.1 (.sit 0 0 8)).bd fun hb =>
          match fillAll m q c (anyAll m.ds f).out ⟨hb.t, hb.n, ⟨hb.n, []⟩⟩ r0.1 (kv :: l) hb with
          | .no w => .no w
          | .ok p => (entsB p.2).bd fun ens => (appS est ens).bd fun esn => ifb (okKs esn) ((p.1.put r0.1 (.map esn)).bd fun hf => .norm (anyAll m.ds f).out hf) (.no "fill: keys")) (.no "fill: locked") = o := ho
      cases hc : and (hasMap r0.1 f) (and (h.okw r0.1) (not (Nat.beq r0.1 r))) with
      | false => rw [hc] at ho; exact .inl ⟨_, ho.symm⟩
      | true =>
      rw [hc, ifb_true, Bx.eta (h.put _ _), Bx.bd_mk] at ho
      split at ho
      · exact .inl ⟨_, ho.symm⟩
      · rename_i p hp
        rw [Bx.eta (entsB p.2), Bx.bd_mk, Bx.eta (appS _ _), Bx.bd_mk] at ho
        cases hk : okKs (appS est (entsB p.2).out).out with
        | false => rw [hk] at ho; exact .inl ⟨_, ho.symm⟩
        | true =>
        rw [hk, ifb_true, Bx.eta (p.1.put _ _), Bx.bd_mk] at ho
        exact .inr ⟨_, ho.symm⟩
theorem loopEs_cases (m : ML) (b : CallT → Fr → Hp → Out) (c : CallT) (f : Fr) (h : Hp) (r : Nat) (es : Es) : loopEs m b c f h r es = mapEs m b c f h es ∨
    ∃ q, m.fl = some q ∧ loopEs m b c f h r es = fillEs m q c f h r es ∧ ∃ h', fillEs m q c f h r es = .norm (anyAll m.ds f).out h' := by
  unfold loopEs
  cases hf : m.fl with
  | none => exact .inl rfl
  | some q =>
    simp only
    rcases fillEs_out (m := m) (q := q) (c := c) (f := f) (h := h) (r := r) (es := es) with ⟨w, ho⟩ | ⟨h', ho⟩
    · rw [ho]; exact .inl rfl
    · exact .inr ⟨q, rfl, by rw [ho], h', ho⟩
theorem loopEs_keeps (m : ML) (b : CallT → Fr → Hp → Out) (c : CallT) (f : Fr) (h : Hp) (r : Nat) (es : Es) {t : Nat} (h1 : path t ∉ m.ds) (h2 : path t ∉ m.cs) : (loopEs m b c f h r es).keeps t f := by
  rcases loopEs_cases m b c f h r es with hx | ⟨q, _, hx, h', ho⟩
  · rw [hx]; exact mapEs_keeps m b c f h es h1 h2
  · rw [hx, ho]
    show slot (anyAll m.ds f).out t = slot f t
    rw [anyAll_slot, if_neg h1]

theorem runC_rf (P : Cx) (x : Sx) (n : Nat) (ps : List Nat) (a b : Code) (k : Nat) (c : CallT) (f : Fr) (h : Hp) {g : Nat} {caps : List AV} (hx : ev f x = .fn g [] caps) (hb : and (hasBody P g) (not (Nat.ble yF g)) = true) :
    runC (.rf P x n ps a b) k c f h = (c g (.fn yF [] [.ptr h.n 0 0] :: caps) ⟨setT (.lp ⟨n, f, ps, a, b⟩) (path h.n) h.t, h.n + 1, h.lk⟩).bd Out.no fun _ h3 => .norm f ⟨setT (.sit 0 0 8) (path h.n) h3.t, h3.n, h3.lk⟩ := by
  show (ev f x).onFn Out.no _ = _
  rw [hx]
  show ifb (and (hasBody P g) (not (Nat.ble yF g))) (natF h.n fun m => (h.add (.lp ⟨n, f, ps, a, b⟩)).bd fun h2 => (c g (.fn yF [] [.ptr m 0 0] :: caps) h2).bd Out.no fun _ h3 => (h3.put m (.sit 0 0 8)).bd fun h4 => .norm f h4) (.no "range: no function") = _
  rw [hb, ifb_true]
  simp only [Hp.add_eq, Bx.bd_mk, natF_eq, Hp.put_eq]
theorem runC_rf_no (P : Cx) (x : Sx) (n : Nat) (ps : List Nat) (a b : Code) (k : Nat) (c : CallT) (f : Fr) (h : Hp) (hx : ∀ g caps, ev f x = .fn g [] caps → and (hasBody P g) (not (Nat.ble yF g)) = false) : ∃ w, runC (.rf P x n ps a b) k c f h = .no w := by
  show ∃ w, (ev f x).onFn Out.no _ = .no w
  cases hv : ev f x
  case fn g first caps =>
    cases first with
    | nil =>
      refine ⟨ "range: no function", ?_⟩
      show ifb (and (hasBody P g) (not (Nat.ble yF g))) _ _ = _
      rw [hx g caps hv]; rfl
    | cons _ _ => exact ⟨_, rfl⟩
  all_goals exact ⟨_, rfl⟩
theorem runC_keeps (k : Nat) {t : Nat} : ∀ (cc : CC) (c : CallT) (f : Fr) (h : Hp), path t ∉ cc.sets → (runC cc k c f h).keeps t f := by
  intro cc
  induction cc with
  | skip => intro c f h _; exact rfl
  | reg l => intro c f h ht; exact runR_keeps ht
  | exit i => intro c f h _; exact rfl
  | ret => intro c f h _; exact rfl
  | bad w => intro c f h _; trivial
  | seq x y ihx ihy =>
    intro c f h ht
    have ht : path t ∉ x.sets ++ y.sets := ht
    have h1 := ihx c f h (fun hh => ht (List.mem_append_left _ hh))
    show ((runC x k c f h).bd Out.no (runC y k c) Out.exit).keeps t f
    cases hx : runC x k c f h with
    | norm f' h' => rw [hx] at h1; exact (ihy c f' h' (fun hh => ht (List.mem_append_right _ hh))).trans h1
    | exit i f' h' => rw [hx] at h1; exact h1
    | ret f' h' => rw [hx] at h1; exact h1
    | no w => trivial
  | cond x y z ihy ihz =>
    intro c f h ht
    have ht : path t ∉ y.sets ++ z.sets := ht
    show ((ev f x).onBool Out.no fun b => Bool.rec (motive := fun _ => Out) (runC z k c f h) (runC y k c f h) b).keeps t f
    cases ev f x <;> try trivial
    case bool b =>
      cases b with
      | true => exact ihy c f h (fun hh => ht (List.mem_append_left _ hh))
      | false => exact ihz c f h (fun hh => ht (List.mem_append_right _ hh))
  | blk id b ih =>
    intro c f h ht
    have h1 := ih c f h ht
    show ((runC b k c f h).bd Out.no Out.norm fun i f h => Bool.rec (motive := fun _ => Out) (.exit i f h) (.norm f h) (Nat.beq i id)).keeps t f
    cases hx : runC b k c f h with
    | norm f' h' => rw [hx] at h1; exact h1
    | ret f' h' => rw [hx] at h1; exact h1
    | no w => trivial
    | exit i f' h' =>
      rw [hx] at h1
      show (Bool.rec (motive := fun _ => Out) (.exit i f' h') (.norm f' h') (Nat.beq i id) : Out).keeps t f
      cases Nat.beq i id <;> exact h1
  | loop b ih => intro c f h ht; exact rounds_keeps (fun f h => ih c f h ht) k f h
  | rf P x n ps a b =>
    intro c f h _
    by_cases hx : ∃ g caps, ev f x = .fn g [] caps ∧ and (hasBody P g) (not (Nat.ble yF g)) = true
    · obtain ⟨g, caps, hx, hb⟩ := hx
      rw [runC_rf P x n ps a b k c f h hx hb]
      cases c g (.fn yF [] [.ptr h.n 0 0] :: caps) ⟨setT (.lp ⟨n, f, ps, a, b⟩) (path h.n) h.t, h.n + 1, h.lk⟩ with
      | no w => trivial
      | ok v h3 => exact rfl
    · obtain ⟨w, hw⟩ := runC_rf_no P x n ps a b k c f h fun g caps hh => by
        cases hb : and (hasBody P g) (not (Nat.ble yF g)) with
        | false => rfl
        | true => exact absurd ⟨g, caps, hh, hb⟩ hx
      rw [hw]; trivial
  | mloop m b ih =>
    intro c f h ht
    have ht0 : path t ∉ m.it :: (setsR m.pre ++ (m.ds ++ (m.cs ++ b.sets))) := ht
    have ht : path t ∉ setsR m.pre ++ (m.ds ++ (m.cs ++ b.sets)) := fun hh => ht0 (.tail _ hh)
    show ((runR m.pre c f h).bd Out.no (fun f h => (ev f m.x).onMap Out.no (.no "range: nil map") fun r => h.onMap r (.no "range: no map") fun es => ifb (h.okw h.n) ((h.add (.sit 0 0 7)).bd fun h2 => (setP (.ptr h.n 0 0) m.it f).bd fun f2 => loopEs m (runC b k) c f2 h2 r es) (.no "range: locked")) Out.exit).keeps t f
    have h1 : (runR m.pre c f h).keeps t f := runR_keeps fun hh => ht (List.mem_append_left _ hh)
    rcases runR_norm c m.pre f h with ⟨f', h', hx⟩ | ⟨q, hx⟩
    · rw [hx] at h1 ⊢
      have h1 : slot f' t = slot f t := h1
      show ((ev f' m.x).onMap Out.no (.no "range: nil map") fun r => h'.onMap r (.no "range: no map") fun es => ifb (h'.okw h'.n) ((h'.add (.sit 0 0 7)).bd fun h2 => (setP (.ptr h'.n 0 0) m.it f').bd fun f2 => loopEs m (runC b k) c f2 h2 r es) (.no "range: locked")).keeps t f
      cases ev f' m.x <;> try trivial
      case nil u =>
        show (Bool.rec (motive := fun _ => Out) (.no "map") (.no "range: nil map") (Nat.beq u 2) : Out).keeps t f
        cases Nat.beq u 2 <;> trivial
      case map r =>
        show (h'.onMap r (.no "range: no map") fun es => ifb (h'.okw h'.n) ((h'.add (.sit 0 0 7)).bd fun h2 => (setP (.ptr h'.n 0 0) m.it f').bd fun f2 => loopEs m (runC b k) c f2 h2 r es) (.no "range: locked") : Out).keeps t f
        unfold Hp.onMap
        cases h'.get r with
        | none => trivial
        | some blk =>
          cases blk <;> try trivial
          case map es =>
            show (ifb (h'.okw h'.n) ((h'.add (.sit 0 0 7)).bd fun h2 => (setP (.ptr h'.n 0 0) m.it f').bd fun f2 => loopEs m (runC b k) c f2 h2 r es) (.no "range: locked")).keeps t f
            cases h'.okw h'.n with
            | false => trivial
            | true =>
              rw [ifb_true, Bx.eta (h'.add _), Bx.bd_mk, Bx.eta (setP (AV.ptr h'.n 0 0) m.it f'), Bx.bd_mk]
              have h2 := loopEs_keeps m (runC b k) c (setP (AV.ptr h'.n 0 0) m.it f').out (h'.add (.sit 0 0 7)).out r es (t := t) (fun hh => ht (List.mem_append_right _ (List.mem_append_left _ hh))) (fun hh => ht (List.mem_append_right _ (List.mem_append_right _ (List.mem_append_left _ hh))))
              refine h2.trans ?_
              rw [slot_put, if_neg (fun hh => ht0 (by rw [hh]; exact .head _))]
              exact h1
    · rw [hx]; trivial

/-! ### Ways through the rounds -/
theorem eqSt_eq {a b : St} (h : eqSt a b = true) : a = b := by
  unfold eqSt at h
  simp only [Bool.and_eq_true] at h
  exact Prod.ext (avEqL_eq h.1) (avEqL_eq h.2)
theorem rowOf_spec {s : St} : ∀ {rows : Rows} {ts : List St}, rowOf s rows = some ts → (s, ts) ∈ rows
  | r :: l, ts, h => by
    have h : ifb (eqSt s r.1) (some r.2) (rowOf s l) = some ts := h
    cases he : eqSt s r.1 with
    | true =>
      rw [he] at h; cases h
      rw [eqSt_eq he]; exact .head _
    | false => rw [he] at h; exact .tail _ (rowOf_spec h)
theorem walkM_append (rows : Rows) : ∀ (a b : List Nat) (s : St), walkM rows s (a ++ b) = (walkM rows s a).bind fun t => walkM rows t b
  | [], b, s => rfl
  | i :: a, b, s => by
    show (match rowOf s rows with
      | some ts => match nthA ts i with
        | some t => walkM rows t (a ++ b)
        | none => none
      | none => none) = (match rowOf s rows with
      | some ts => match nthA ts i with
        | some t => walkM rows t a
        | none => none
      | none => none).bind fun t => walkM rows t b
    cases rowOf s rows with
    | none => rfl
    | some ts => cases h : nthA ts i with
      | none => simp only [h]; rfl
      | some t => simp only [h]; exact walkM_append rows a b t
theorem okRows_spec {n : Nat} {rows : Rows} (h : okRows n rows = true) {s : St} {ts : List St} (hs : (s, ts) ∈ rows) : ∀ i j, i < n → j < n → i ≠ j → walkM rows s [i, j] = walkM rows s [j, i] := by
  have h3 := List.all_eq_true.1 h _ hs
  have key : ∀ i j, i < n → j < i → walkM rows s [i, j] = walkM rows s [j, i] := by
    intro i j hi hj
    have h4 := List.all_eq_true.1 (List.all_eq_true.1 h3 i (List.mem_range.2 hi)) j (List.mem_range.2 hj)
    unfold eqOS at h4
    split at h4
    · rename_i x y hx hy
      rw [hx, hy, eqSt_eq h4]
    · rename_i hx hy
      rw [hx, hy]
    · cases h4
  intro i j hi hj hne
  rcases Nat.lt_or_gt_of_ne hne with hl | hl
  · exact (key j i hj hl).symm
  · exact key i j hi hl
theorem walk_step {rows : Rows} {s : St} {ts : List St} (hs : rowOf s rows = some ts) (i : Nat) (l : List Nat) : walkM rows s (i :: l) = (nthA ts i).bind fun t => walkM rows t l := by
  show (match rowOf s rows with
    | some ts => match nthA ts i with
      | some t => walkM rows t l
      | none => none
    | none => none) = _
  rw [hs]
  cases h : nthA ts i with
  | none => simp only [h]; rfl
  | some t => simp only [h]; rfl
theorem walk_none {rows : Rows} {s : St} (hs : rowOf s rows = none) (i : Nat) (l : List Nat) : walkM rows s (i :: l) = none := by
  show (match rowOf s rows with
    | some ts => match nthA ts i with
      | some t => walkM rows t l
      | none => none
    | none => none) = none
  rw [hs]
theorem walk_perm {n : Nat} {rows : Rows} (h : okRows n rows = true) {l l' : List Nat} (hp : l.Perm l') : ∀ {s : St}, (∀ i ∈ l, i < n) → walkM rows s l = walkM rows s l' := by
  induction hp with
  | nil => intro s _; rfl
  | cons x hp ih =>
    intro s hl
    cases hs : rowOf s rows with
    | none => rw [walk_none hs, walk_none hs]
    | some ts =>
      rw [walk_step hs, walk_step hs]
      cases hx : nthA ts x with
      | none => rfl
      | some t => exact ih fun i hi => hl i (.tail _ hi)
  | swap x y l =>
    intro s hl
    by_cases hxy : x = y
    · rw [hxy]
    · cases hs : rowOf s rows with
      | none => rw [walk_none hs, walk_none hs]
      | some ts =>
        have := okRows_spec h (rowOf_spec hs) y x (hl y (.head _)) (hl x (.tail _ (.head _))) (fun hh => hxy hh.symm)
        rw [show y :: x :: l = [y, x] ++ l from rfl, show x :: y :: l = [x, y] ++ l from rfl, walkM_append, walkM_append, this]
  | trans h1 h2 ih1 ih2 =>
    intro s hl
    rw [ih1 hl, ih2 fun i hi => hl i (h1.mem_iff.2 hi)]

theorem eachM_get {step : AV × AV → Res St} : ∀ {es : Es} {ts : List St}, eachM step es = .ok ts → ts.length = es.length ∧ ∀ (i : Nat) (kv : AV × AV) (t : St), es[i]? = some kv → ts[i]? = some t → step kv = .ok t
  | [], ts, h => by
    cases h
    exact ⟨rfl, fun i kv t h => by simp at h⟩
  | kv :: es, ts, h => by
    unfold eachM at h
    cases hs : step kv with
    | no w => rw [hs] at h; cases h
    | ok t =>
      rw [hs] at h
      cases hr : eachM step es with
      | no w => rw [hr] at h; cases h
      | ok r =>
        rw [hr] at h; cases h
        obtain ⟨h1, h2⟩ := eachM_get hr
        refine ⟨by simp [h1], fun i kv' t' hi ht => ?_⟩
        cases i with
        | zero => simp at hi ht; subst hi; subst ht; exact hs
        | succ i => exact h2 i kv' t' (by simpa using hi) (by simpa using ht)
theorem growS_ok {step : St → Res (List St)} : ∀ (todo : List St) (rows0 : Rows) (next : List St) (q : Rows × List St), growS step todo rows0 next = .ok q → (∀ r ∈ rows0, step r.1 = .ok r.2) → ∀ r ∈ q.1, step r.1 = .ok r.2
  | [], rows0, next, q, h, h0 => by cases h; exact h0
  | s :: todo, rows0, next, q, h, h0 => by
    unfold growS at h
    cases hr : rowOf s rows0 with
    | some us => rw [hr] at h; exact growS_ok todo rows0 next q h h0
    | none =>
      rw [hr] at h
      cases hst : step s with
      | no w => rw [hst] at h; cases h
      | ok ts =>
        rw [hst] at h
        refine growS_ok todo ((s, ts) :: rows0) (ts ++ next) q h fun r hr' => ?_
        rcases List.mem_cons.1 hr' with rfl | hr'
        · exact hst
        · exact h0 r hr'
theorem growM_ok {step : St → Res (List St)} : ∀ (n : Nat) (todo : List St) (rows0 rows : Rows), growM step n todo rows0 = .ok rows → (∀ r ∈ rows0, step r.1 = .ok r.2) → ∀ r ∈ rows, step r.1 = .ok r.2
  | 0, _, rows0, rows, h, h0 => by cases h; exact h0
  | n + 1, todo, rows0, rows, h, h0 => by
    unfold growM at h
    cases hq : growS step todo rows0 [] with
    | no w => rw [hq] at h; cases h
    | ok q => rw [hq] at h; exact growM_ok n q.2 q.1 rows h (growS_ok todo rows0 [] q hq h0)
theorem walk_row {rows : Rows} {s s' : St} {i : Nat} {l : List Nat} (h : walkM rows s (i :: l) = some s') : ∃ ts, rowOf s rows = some ts := by
  cases hr : rowOf s rows with
  | some ts => exact ⟨ts, rfl⟩
  | none =>
    have h : (match rowOf s rows with
      | some ts => match nthA ts i with
        | some t => walkM rows t l
        | none => none
      | none => none) = some s' := h
    rw [hr] at h; cases h
end Go.Ab

/- Loops over maps: what a round leaves. -/
namespace Go.Ab
open Go
variable {C : Cx}

theorem memN_iff {b : Nat} : ∀ {l : List Nat}, memN b l = true ↔ b ∈ l
  | [] => by
    show false = true ↔ _
    simp
  | x :: l => by
    show ifb (Nat.beq b x) true (memN b l) = true ↔ _
    cases hb : Nat.beq b x with
    | true => rw [ifb_true, beq_iff.1 hb]; simp
    | false =>
      rw [ifb_false, memN_iff, List.mem_cons]
      constructor
      · exact .inr
      · rintro (h | h)
        · rw [beq_iff.2 h] at hb; cases hb
        · exact h

theorem run_nextM {P : Program} (w : World) (ty : TypeId) {I bm clock : Nat} {seen : Array Nat} {es : Array MapEntry} (hI : w.heap[I]? = some (.mapIter (some bm) clock seen clock)) (hb : w.heap[bm]? = some (.map es clock)) (hold : ∀ x ∈ es.toList, x.born < clock) :
    ((leftOf es seen).size = 0 ∧ (Instr.next (.pointer (some ⟨I, 0, none⟩)) false ty).run P w = .ok (.tuple #[.bool false]) w) ∨
    ∃ e ∈ (leftOf es seen).toList, ∃ w1 : World, w1.heap = w.heap ∧ w1.os = w.os ∧ w1.output = w.output ∧
      (Instr.next (.pointer (some ⟨I, 0, none⟩)) false ty).run P w = .ok (.tuple #[.bool true, e.key, e.val]) { w1 with heap := w1.heap.setIfInBounds I (.mapIter (some bm) clock (seen.push e.born) clock) } := by
  simp only [Instr.next, getObj, Sem.run_bind, Sem.run, hI, hb, Result.andThen, next_test_false seen es clock clock hold (Nat.le_refl _), Bool.false_eq_true, if_false]
  unfold leftOf
  have hmem : ∀ x ∈ (Array.filter (fun e => !seen.contains e.born) es).toList, x.born < clock := fun x hx => hold x (by simp at hx ⊢; exact hx.1)
  generalize Array.filter (fun e => !seen.contains e.born) es = L at hmem ⊢
  have e1 : L.filter (fun x => decide (x.born < clock)) = L := Array.filter_eq_self.2 (fun x hx => by simpa using hmem x (by simpa using hx))
  have e2 : L.filter (fun x => decide (x.born ≥ clock)) = #[] := by
    rw [Array.filter_eq_empty_iff]
    intro x hx
    have := hmem x (by simpa using hx)
    simp
    omega
  simp only [e1, e2, Array.append_empty]
  by_cases h0 : L.size = 0
  · left
    have : L = #[] := Array.eq_empty_of_size_eq_zero h0
    subst this
    refine ⟨rfl, ?_⟩
    simp [choose, Sem.run, Question.forced]
  · right
    have hne : L.isEmpty = false := by simp [Array.isEmpty, h0]
    simp only [hne, Bool.false_eq_true, if_false, Array.empty_append, Array.size_map]
    have hch : ∃ (j : Nat) (w1 : World), j < L.size ∧ (w1.heap = w.heap ∧ w1.os = w.os ∧ w1.output = w.output) ∧ (choose (Question.mapNext L.size)).run P w = .ok j w1 := by
      by_cases hf : L.size ≤ 1
      · exact ⟨0, w, by omega, ⟨rfl, rfl, rfl⟩, by simp [choose, Sem.run, Question.forced, hf]⟩
      · exact ⟨_, w.drew, Nat.mod_lt _ (by omega), ⟨rfl, rfl, rfl⟩, by
          simp only [choose, Sem.run, Question.forced, decide_eq_true_eq, hf, if_false, Question.cut]
          rfl⟩
    obtain ⟨j, w1, hj, hal, hrun⟩ := hch
    refine ⟨L[j], by simp, w1, hal.1, hal.2.1, hal.2.2, ?_⟩
    have hset : ∀ (o' : Obj), (setObj I o').run P w1 = .ok () { w1 with heap := w1.heap.setIfInBounds I o' } := fun o' => by
      simp only [setObj, Sem.run]
      rw [hal.1, hI]
    simp only [hrun, Array.getElem?_map, Array.getElem?_eq_getElem hj, Option.map_some, Sem.run_bind, hset, Result.andThen]
    rfl

theorem run_entryM {P : Program} (w : World) {I bm clock : Nat} {since : Nat} {seen : Array Nat} {es : Array MapEntry} {e : MapEntry} (hI : w.heap[I]? = some (.mapIter (some bm) since (seen.push e.born) clock)) (hb : w.heap[bm]? = some (.map es clock)) (he : e ∈ es.toList) (hn : (es.toList.map (·.born)).Nodup) :
    (Instr.entry (.pointer (some ⟨I, 0, none⟩))).run P w = .ok (.tuple #[e.key, e.val]) w := by
  have hf : es.find? (·.born == e.born) = some e := by rw [← Array.find?_toList]; exact find_born e es.toList hn he
  simp only [Instr.entry, getObj, Sem.run_bind, Sem.run, hI, hb, Result.andThen, Array.back?_push, bne_self_eq_false, Bool.false_eq_true, if_false, hf]
  rfl

/-- What is left behind a step. -/
theorem leftOf_push {es : Array MapEntry} {seen : Array Nat} {e : MapEntry} (hn : (es.toList.map (·.born)).Nodup) (he : e ∈ (leftOf es seen).toList) : (leftOf es seen).toList.Perm (e :: (leftOf es (seen.push e.born)).toList) := by
  have h1 : (leftOf es (seen.push e.born)).toList = (leftOf es seen).toList.filter fun m => m.born != e.born := by
    unfold leftOf
    rw [Array.toList_filter, Array.toList_filter, List.filter_filter]
    apply List.filter_congr
    intro m _
    simp only [Array.contains_eq_mem, Array.mem_push]
    by_cases h1 : m.born ∈ seen <;> by_cases h2 : m.born = e.born <;> simp [h1, h2]
  rw [h1]
  have h2 : ((leftOf es seen).toList.map (·.born)).Nodup := by
    unfold leftOf
    rw [Array.toList_filter]
    exact hn.sublist ((List.filter_sublist).map _)
  revert he h2
  generalize (leftOf es seen).toList = L
  intro he h2
  induction L with
  | nil => cases he
  | cons x L ih =>
    rw [List.map_cons, List.nodup_cons] at h2
    by_cases hx : x.born = e.born
    · have hxe : x = e := by
        rcases List.mem_cons.1 he with h | h
        · exact h.symm
        · exact absurd (by rw [hx]; exact List.mem_map.2 ⟨e, h, rfl⟩) h2.1
      subst hxe
      have h3 : (x :: L).filter (fun m => m.born != x.born) = L := by
        rw [List.filter_cons_of_neg (by simp), List.filter_eq_self]
        intro m hm
        simp only [bne_iff_ne, ne_eq]
        intro hh
        exact h2.1 (by rw [← hh]; exact List.mem_map.2 ⟨m, hm, rfl⟩)
      rw [h3]
    · have he' : e ∈ L := by
        rcases List.mem_cons.1 he with h | h
        · exact absurd (by rw [h]) hx
        · exact h
      rw [List.filter_cons_of_pos (by simpa using hx)]
      exact ((ih he' h2.2).cons x).trans (.swap _ _ _)

/-- Cells of one number are the same under fewer names. -/
theorem BR.prim {e e' : Emb} {v : AV} {g : Nat} {x : Loc} {ob : Option Obj} (hp : primV v = true) (h : BR e' (.flat [v] 0) g x ob) : BR e (.flat [v] 0) g x ob := by
  cases h with
  | map es es' clock l a _ _ _ _ _ => cases a
  | sit s pos a _ => cases a
  | iter m since seen stepped a _ => cases a
  | lp q0 fn0 tm0 df0 a => cases a
  | busy o0 a => cases a
  | dfr a => cases a
  | cells c t fr q =>
    refine .cells c t fr ⟨q.cells, q.lo, q.sz, q.gen, q.known, fun i u hi hu => ?_, q.fz2, q.fz0⟩
    obtain ⟨h1, v', h2, h3⟩ := q.at' i u hi hu
    have huv : u = v := by
      have hu : ifb (Nat.beq g 0) (nthA [v] i) none = some u := hu
      cases hg : Nat.beq g 0 with
      | false => rw [hg] at hu; cases hu
      | true =>
        rw [hg, ifb_true, nthA_eq] at hu
        cases i with
        | zero => simpa using hu.symm
        | succ i => simp at hu
    subst huv
    exact ⟨h1, v', h2, h3.prim hp⟩

/-- Behind a round: the cells that may change are what they are; all else stays; what came to be is forgotten. -/
theorem iter_back {e e' : Emb} {h h' : Hp} {w1 w w' : World} {ex : List Nat} {s s' : St} (hex : ∀ b ∈ ex, h.okw b = true ∧ ∃ v, h.get b = some (.flat [v] 0)) {hr0 : Hp} (hs : readCs hr0 ex = some s.1)
    (x0 : Ext e h w1 e (putCs ex s.1 h).out w) (x : Ext e ⟨(putCs ex s.1 h).out.t, (putCs ex s.1 h).out.n, ⟨(putCs ex s.1 h).out.n, ex⟩⟩ w e' h' w') (hs' : readCs h' ex = some s'.1) : Ext e h w1 e (putCs ex s'.1 h).out w' := by
  obtain ⟨k1, k2, k3⟩ := putCs_spec ex s.1 h hr0 hs
  obtain ⟨j1, j2, j3⟩ := putCs_spec ex s'.1 h h' hs'
  generalize (putCs ex s.1 h).out = hm at k1 k2 k3 x0 x
  generalize (putCs ex s'.1 h).out = hm' at j1 j2 j3
  have hget : ∀ b, Hp.get (⟨hm.t, hm.n, ⟨hm.n, ex⟩⟩ : Hp) b = hm.get b := fun b => rfl
  have hlock : ∀ b, b < h.n → b ∉ ex → Hp.ro (⟨hm.t, hm.n, ⟨hm.n, ex⟩⟩ : Hp) b := by
    intro b hb hbe
    refine ⟨by show b < hm.n; omega, .inr ?_⟩
    show ifb (Nat.ble hm.n b) true (memN b ex) = false
    have h1 : Nat.ble hm.n b = false := by
      cases hh : Nat.ble hm.n b with
      | false => rfl
      | true => have := Nat.le_of_ble_eq_true hh; omega
    have h2 : memN b ex = false := by
      cases hh : memN b ex with
      | false => rfl
      | true => exact absurd (memN_iff.1 hh) hbe
    rw [h1, h2]; rfl
  have hroex : ∀ b, h.ro b → b ∉ ex := by
    intro b hb hbe
    obtain ⟨h1, v, h2⟩ := hex b hbe
    rcases hb.2 with ⟨l, hl⟩ | hl
    · rw [h2] at hl; cases hl.1; exact absurd (show (0 : Nat) = 3 from hl.2) (by omega)
    · rw [h1] at hl; cases hl
  have hroms : ∀ b, h.ro b → Hp.ro (⟨hm.t, hm.n, ⟨hm.n, ex⟩⟩ : Hp) b := fun b hb => hlock b hb.1 (hroex b hb)
  refine ⟨.refl e, ⟨x0.hr.inj, ?_, ?_⟩, fun b g y hy => .inl ⟨g, y, hy⟩, fun b g y hy => .inl ⟨g, y, hy, rfl⟩, ?_, ?_, ?_, by omega, Nat.le_trans x0.size x.size, x.os.trans x0.os, x.output.trans x0.output, j2⟩
  · intro b g y hy
    have h1 := x0.hr.lt b g y hy
    exact ⟨Nat.lt_of_lt_of_le h1.1 x.size, by rw [j1]; have := h1.2; omega⟩
  · intro b g y hy
    by_cases hbe : b ∈ ex
    · obtain ⟨v, hp, hv⟩ := readCs_cell hs' hbe
      obtain ⟨blk, h1, h2⟩ := x.hr.at' b g y (x.le _ _ _ hy)
      rw [hv] at h1; cases h1
      exact ⟨.flat [v] 0, by rw [j3, if_pos hbe]; exact hv, h2.prim hp⟩
    · obtain ⟨blk, h1, h2⟩ := x0.hr.at' b g y hy
      have hlt := x0.hr.lt b g y hy
      refine ⟨blk, by rw [j3, if_neg hbe]; rw [k3, if_neg hbe] at h1; exact h1, ?_⟩
      rw [x.frame y.r hlt.1 fun b2 g2 y2 h3 h4 => by
        have := (x0.hr.inj _ _ _ _ _ _ h3 hy h4).1
        subst this
        exact hlock b2 (by have := hlt.2; omega) hbe]
      exact h2
  · intro r hr hro
    rw [x.frame r (Nat.lt_of_lt_of_le hr x0.size) fun b g y hy hyr => hroms b (hro b g y hy hyr)]
    exact x0.frame r hr hro
  · intro b hb hno
    rw [j3]
    by_cases hbe : b ∈ ex
    · rw [if_pos hbe, x.ours b (by show b < hm.n; omega) hno, hget]
      exact x0.ours b hb hno
    · rw [if_neg hbe]
  · intro b hb
    rw [j3, if_neg (hroex b hb)]

/-- The iterator goes on. -/
theorem Ext.setIter {e0 e : Emb} {h hm : Hp} {w1 w : World} (x : Ext e0 h w1 e hm w) {N I : Nat} {xN : Loc} (hN0 : e0 N 0 = some xN) (hN : e N 0 = some xN) (hI : xN.r = I) (hblk : h.get N = some (.sit 0 0 7)) (hblk' : hm.get N = some (.sit 0 0 7)) (hok : h.okw N = true)
    {m : Option Nat} {since : Nat} {seen : Array Nat} {stp : Nat} (hob : w.heap[I]? = some (.mapIter m since seen stp)) {m' : Option Nat} {since' : Nat} {seen' : Array Nat} {stp' : Nat} {w2 : World} (h1 : w2.heap = w.heap.setIfInBounds I (.mapIter m' since' seen' stp')) (h2 : w2.os = w.os) (h3 : w2.output = w.output) : Ext e0 h w1 e hm w2 := by
  have hIlt : I < w.heap.size := (Array.getElem?_eq_some_iff.1 hob).1
  have hne : ∀ r, r ≠ I → w2.heap[r]? = w.heap[r]? := fun r hr => by rw [h1, Array.getElem?_setIfInBounds_ne (Ne.symm hr)]
  have hsz : w2.heap.size = w.heap.size := by rw [h1, Array.size_setIfInBounds]
  refine ⟨x.le, ⟨x.hr.inj, fun b g y hy => by rw [hsz]; exact x.hr.lt b g y hy, ?_⟩, x.names, x.blocks, ?_, x.ours, x.ro, x.n, by rw [hsz]; exact x.size, h2.trans x.os, h3.trans x.output, x.lk⟩
  · intro b g y hy
    obtain ⟨blk, k1, k2⟩ := x.hr.at' b g y hy
    refine ⟨blk, k1, ?_⟩
    by_cases hr : y.r = I
    · have hb : b = N := (x.hr.inj _ _ _ _ _ _ hy hN (hr.trans hI.symm)).1
      subst hb
      rw [hblk'] at k1; cases k1
      rw [hr, hob] at k2
      have hob2 : w2.heap[y.r]? = some (.mapIter m' since' seen' stp') := by rw [h1, hr]; simp [hIlt]
      rw [hob2]
      cases k2 with
      | iter _ _ _ _ _ hg hb => exact .iter _ _ _ _ rfl hg hb
      | busy o0 hh => cases hh
    · rw [hne _ hr]; exact k2
  · intro r hr hro
    rw [hne r]
    · exact x.frame r hr hro
    · intro hh
      subst hh
      rcases (hro N 0 xN hN0 hI).2 with ⟨l, hl⟩ | hl
      · rw [hblk] at hl; cases hl.1
        have hl2 : (0 = 0 ∧ 0 = 0 ∧ (7 = 8 ∨ 7 = 9)) := hl.2
        omega
      · rw [hok] at hl; cases hl
end Go.Ab

/- Loops over maps: whatever order the rounds come in. -/
namespace Go.Ab
open Go
variable {C : Cx} {ds : List Deferred} {b0 : Nat}

/-- Operations in text order, and what comes behind them. -/
theorem seq_simK {n : Nat} {ops : Array Oper} {c : CallT} (hc : CallOK C c) {Q : Exit → Act → World → Prop} {js : List Nat} : ∀ (l : List Oper) (s : Nat), (∀ i o, l[i]? = some o → ops[s + i]? = some o) → ∀ (f : Fr) (h : Hp) (e : Emb) (a : Act) (w : World) (f' : Fr) (h' : Hp),
    GR C e → FN ds n e f a → HR e h w → runR (mkSeq C n ops.toList l) c f h = .norm f' h' → (∀ e' a' w', Ext e h w e' h' w' → FN ds n e' f' a' → owOps C.P ops Q js a' w') → owOps C.P ops Q (List.range' s l.length ++ js) a w
  | [], s, _, f, h, e, a, w, f', h', _, hf, hr, hx, hk => by
    cases hx
    exact hk e a w (.refl hr) hf
  | o :: l, s, hl, f, h, e, a, w, f', h', hg, hf, hr, hx, hk => by
    have ho : ops[s]? = some o := by simpa using hl 0 o rfl
    have hag : (mkS C n ops.toList o).again = false := by rw [← of_s (C := C) (n := n) ho]; exact of_again s
    obtain ⟨v, h2, hst, hx⟩ := runR_once hag hx
    have hst' : stepS ((Rgn.of C n ops).s s) c f h = .ok v h2 := by rw [of_s ho]; exact hst
    obtain ⟨hd1, hd2⟩ := of_d ho hst'
    rw [of_s ho] at hd1
    show owOps C.P ops Q (s :: (List.range' (s + 1) l.length ++ js)) a w
    rw [owOps_cons]
    refine stepS_sim hc ho hst' hg hf hr fun e' v' w' hext hvr => ?_
    refine seq_simK hc l (s + 1) (fun i o' hi => ?_) _ h2 e' _ w' f' h' (hg.mono hext.le) ?_ hext.hr hx fun e2 a2 w2 x2 f2 => hk e2 a2 w2 (hext.trans x2) f2
    · have := hl (i + 1) o' (by simpa using hi)
      rw [show s + 1 + i = s + (i + 1) by omega]; exact this
    · rw [hd1]; exact (hf.mono hext.le).putO hd2 hvr

theorem owOp_val {P : Program} {ops : Array Oper} {Q : Exit → Act → World → Prop} {i : Nat} {o : Oper} {K : Act → World → Prop} {a : Act} {w w' : World} {v : Value} (ho : ops[i]? = some o) (hg : o.guard = none) (h : (execOp a.eval o).run P w = .ok (.value v) w') (hk : K (a.put o.dst v) w') : owOp P ops Q i K a w := by
  unfold owOp
  simp only [ho]
  rw [if_pos (by simp [Region.wanted, hg])]
  exact .inl (wp_val h hk)

theorem FN.putAny {n : Nat} {e : Emb} {f : Fr} {a : Act} (h : FN ds n e f a) {d : Nat} (hd : slot f d = anyA) (v' : Value) : FN ds n e f (a.put (some d) v') := by
  refine ⟨⟨fun t => ?_, h.1.2⟩, by simpa [Act.put] using h.2.1, h.2.2⟩
  by_cases ht : t = d
  · subst ht; rw [hd]; exact .any _
  · have : (a.put (some d) v').tmps.getD t undef = a.tmps.getD t undef := by
      simp [Act.put, Array.getElem?_setIfInBounds_ne (Ne.symm ht)]
    rw [this]; exact h.1.1 t

theorem slotOK_spec {n : Nat} {o : Oper} {d : Nat} (h : slotOK n o = some d) : o.guard = none ∧ o.dst = some d ∧ d < n := by
  unfold slotOK at h
  cases hg : o.guard with
  | some g => rw [hg] at h; cases h
  | none => cases hd : o.dst with
    | none => rw [hg, hd] at h; cases h
    | some d' =>
      rw [hg, hd] at h
      obtain ⟨h1, h2⟩ := (show Nat.ble (Nat.succ d') n = true ∧ d' = d by
        have h : ifb (Nat.ble (Nat.succ d') n) (some d') none = some d := h
        cases hb : Nat.ble (Nat.succ d') n with
        | false => rw [hb] at h; cases h
        | true => rw [hb] at h; cases h; exact ⟨rfl, rfl⟩)
      exact ⟨rfl, by rw [h2], h2 ▸ Nat.le_of_ble_eq_true h1⟩

theorem put_get {a : Act} {d : Nat} {v : Value} (h : d < a.tmps.size) : (a.put (some d) v).eval (.tmp d) = v := by
  simp [Act.eval, Act.put, h]

/-- What one round comes to. -/
theorem round1_spec {m : ML} {b : CallT → Fr → Hp → Out} {c : CallT} {fa : Fr} {h : Hp} {ex : List Nat} {cs : List (List Bool)} {s t : St} {kv : AV × AV} (hx : round1 m b c fa h ex cs s kv = .ok t) :
    ∃ f3 h3 f4 h4, runR m.ent c (entF m.pr kv (putSs cs s.2 fa).out).out ⟨(putCs ex s.1 h).out.t, (putCs ex s.1 h).out.n, ⟨(putCs ex s.1 h).out.n, ex⟩⟩ = .norm f3 h3 ∧ (b c f3 h3 = .norm f4 h4 ∨ b c f3 h3 = .exit m.nxt f4 h4) ∧ readSt ex cs f4 h4 = .ok t := by
  unfold round1 at hx
  rw [Bx.eta (putSs cs s.2 fa), Bx.bd_mk, Bx.eta (entF _ _ _), Bx.bd_mk, Bx.eta (putCs ex s.1 h), Bx.bd_mk] at hx
  generalize hr : runR m.ent c (entF m.pr kv (putSs cs s.2 fa).out).out ⟨(putCs ex s.1 h).out.t, (putCs ex s.1 h).out.n, ⟨(putCs ex s.1 h).out.n, ex⟩⟩ = o at hx
  cases o with
  | no w => cases hx
  | exit i f' h' => cases hx
  | ret f' h' => cases hx
  | norm f3 h3 =>
    simp only at hx
    cases hb : b c f3 h3 with
    | no w => rw [hb] at hx; cases hx
    | ret f' h' => rw [hb] at hx; cases hx
    | norm f4 h4 => rw [hb] at hx; exact ⟨f3, h3, f4, h4, rfl, .inl hb, hx⟩
    | exit i f4 h4 =>
      rw [hb] at hx
      have hx : ifb (Nat.beq i m.nxt) (readSt ex cs f4 h4) (.no "map: a round that leaves") = .ok t := hx
      cases hi : Nat.beq i m.nxt with
      | false => rw [hi] at hx; cases hx
      | true =>
        rw [hi] at hx
        rw [beq_iff.1 hi] at hb
        exact ⟨f3, h3, f4, h4, rfl, .inr hb, hx⟩

theorem ERL.getM {e : Emb} {es : Es} {l : List (Value × Value)} (h : ERL e es l) {i : Nat} {kv' : Value × Value} (hi : l[i]? = some kv') : ∃ kv : AV × AV, (es : List (AV × AV))[i]? = some kv ∧ VR e kv.1 kv'.1 ∧ VR e kv.2 kv'.2 := by
  induction h generalizing i with
  | nil => simp at hi
  | cons k v k' v' l l' a b _ _ ih =>
    cases i with
    | zero => simp at hi; subst hi; exact ⟨(k, v), rfl, a, b⟩
    | succ i => simpa using ih (by simpa using hi)

/-- What a loop over a map is, in our terms: the names and slots; the map; the iterator. -/
structure MapAt (C : Cx) (n : Nat) (m : ML) (b : CC) (it nx mr : Nat) (e : Emb) (h : Hp) (w1 : World) (f : Fr) (ex : List Nat) (cs : List (List Bool)) (N I rm bm clock : Nat) (xN xm : Loc) (es : Es) (l : List (Value × Value)) (es' : Array MapEntry) : Prop where
  it' : m.it = path it
  itds : path it ∉ m.ds
  itcs : path it ∉ cs
  nxds : path nx ∈ m.ds
  nxcs : path nx ∉ cs
  mrds : path mr ∈ m.ds
  mrcs : path mr ∉ cs
  mrn : mr < n
  ent : ∀ p ∈ setsR m.ent, p ∈ m.ds
  body : ∀ p ∈ b.sets, p ∈ m.ds
  prds : ∀ p, m.pr = some p → p ∈ m.ds
  ex : ∀ b ∈ ex, h.okw b = true ∧ ∃ v, h.get b = some (.flat [v] 0)
  hN : e N 0 = some xN
  hNI : xN = ⟨I, 0, 0, 0⟩
  bN : h.get N = some (.sit 0 0 7)
  okN : h.okw N = true
  hm : e rm 0 = some xm
  hmb : xm.r = bm
  bm' : h.get rm = some (.map es)
  erl : ERL e es l
  born : bornOK es' clock
  itf : slot f it = .ptr N 0 0
  gr : GR C e

/-- Between two rounds: what is left; where we are. -/
structure Rd (b0 n : Nat) (m : ML) (it : Nat) (e : Emb) (h : Hp) (w1 : World) (f : Fr) (ex : List Nat) (cs : List (List Bool)) (I bm clock : Nat) (es : Es) (l : List (Value × Value)) (es' : Array MapEntry) (rows : Rows) (sf : St) (L : List Nat) (s : St) (a : Act) (w : World) : Prop where
  ext : Ext e h w1 e (putCs ex s.1 h).out w
  fn : FN a.defers n e (putSs cs s.2 (anyAll m.ds f).out).out a
  map : w.heap[bm]? = some (.map es' clock)
  iter : ∃ seen, w.heap[I]? = some (.mapIter (some bm) clock seen clock) ∧ (L.map fun i => l[i]?).Perm ((leftOf es' seen).toList.map fun m => some (m.key, m.val))
  lt : ∀ i ∈ L, i < es.length
  walk : walkM rows s L = some sf
  read : ∃ f0 h0, readSt ex cs f0 h0 = .ok s
  df : DF b0 e w a.defers

section
variable {n : Nat} {m : ML} {b : CC} {it nx mr : Nat} {e : Emb} {h : Hp} {w1 : World} {f : Fr} {ex : List Nat} {cs : List (List Bool)} {N I rm bm clock : Nat} {xN xm : Loc} {es : Es} {l : List (Value × Value)} {es' : Array MapEntry} {rows : Rows} {sf : St} {k : Nat} {c : CallT}

theorem MapAt.nex (M : MapAt C n m b it nx mr e h w1 f ex cs N I rm bm clock xN xm es l es') : N ∉ ex := fun hh => by
  obtain ⟨_, v, hv⟩ := M.ex N hh
  rw [M.bN] at hv; cases hv
theorem MapAt.rex (M : MapAt C n m b it nx mr e h w1 f ex cs N I rm bm clock xN xm es l es') : rm ∉ ex := fun hh => by
  obtain ⟨_, v, hv⟩ := M.ex rm hh
  rw [M.bm'] at hv; cases hv
theorem lock_ro {hm : Hp} {ex : List Nat} {b : Nat} (hb : b < hm.n) (hbe : b ∉ ex) : Hp.ro (⟨hm.t, hm.n, ⟨hm.n, ex⟩⟩ : Hp) b := by
  refine ⟨hb, .inr ?_⟩
  show ifb (Nat.ble hm.n b) true (memN b ex) = false
  have h1 : Nat.ble hm.n b = false := by
    cases hh : Nat.ble hm.n b with
    | false => rfl
    | true => have := Nat.le_of_ble_eq_true hh; omega
  have h2 : memN b ex = false := by
    cases hh : memN b ex with
    | false => rfl
    | true => exact absurd (memN_iff.1 hh) hbe
  rw [h1, h2]; rfl

/-- Behind a round. -/
theorem round_after (M : MapAt C n m b it nx mr e h w1 f ex cs N I rm bm clock xN xm es l es') {s t : St} {a : Act} {w : World} (x0 : Ext e h w1 e (putCs ex s.1 h).out w) (fn0 : FN ds n e (putSs cs s.2 (anyAll m.ds f).out).out a) (hread : ∃ f0 h0, readSt ex cs f0 h0 = .ok s)
    (hmap : w.heap[bm]? = some (.map es' clock)) {seen : Array Nat} (hiter : w.heap[I]? = some (.mapIter (some bm) clock seen clock)) {L : List Nat} (hleft : (L.map fun i => l[i]?).Perm ((leftOf es' seen).toList.map fun m => some (m.key, m.val))) (hlt : ∀ i ∈ L, i < es.length) (hwalk : walkM rows t L = some sf)
    {kv : AV × AV} {f3 f4 : Fr} {h3 h4 : Hp} (hr3 : runR m.ent c (entF m.pr kv (putSs cs s.2 (anyAll m.ds f).out).out).out ⟨(putCs ex s.1 h).out.t, (putCs ex s.1 h).out.n, ⟨(putCs ex s.1 h).out.n, ex⟩⟩ = .norm f3 h3) (hb4 : runC b k c f3 h3 = .norm f4 h4 ∨ runC b k c f3 h3 = .exit m.nxt f4 h4) (ht : readSt ex cs f4 h4 = .ok t)
    {e' : Emb} {a' : Act} {w' : World} (hext : Ext e ⟨(putCs ex s.1 h).out.t, (putCs ex s.1 h).out.n, ⟨(putCs ex s.1 h).out.n, ex⟩⟩ w e' h4 w') (hfn : FN a'.defers n e' f4 a') (hdf : DF b0 e' w' a'.defers) : Rd b0 n m it e h w1 f ex cs I bm clock es l es' rows sf L t a' w' := by
  obtain ⟨f0, h0, hread⟩ := hread
  obtain ⟨hr1, hr2⟩ := readSt_spec hread
  obtain ⟨ht1, ht2⟩ := readSt_spec ht
  obtain ⟨k1, k2, k3⟩ := putCs_spec ex s.1 h h0 hr1
  have hframe : ∀ b2 x2, e b2 0 = some x2 → b2 ∉ ex → w'.heap[x2.r]? = w.heap[x2.r]? := by
    intro b2 x2 h2 hne
    have hl := x0.hr.lt _ _ _ h2
    exact hext.frame x2.r hl.1 fun b3 g3 x3 h3' h4' => by
      have := (x0.hr.inj _ _ _ _ _ _ h3' h2 h4').1
      subst this
      exact lock_ro hl.2 hne
  refine ⟨iter_back M.ex hr1 x0 hext ht1, ⟨⟨fun q => ?_, hfn.1.2⟩, hfn.2⟩, ?_, ⟨seen, ?_, hleft⟩, hlt, hwalk, ⟨f4, h4, ht⟩, hdf.sub hext.le⟩
  · rw [putSs_slot cs t.2 _ f4 q ht2]
    by_cases hq : path q ∈ cs
    · rw [if_pos hq]
      exact (hfn.1.1 q).prim (readSs_prim ht2 hq)
    · rw [if_neg hq, anyAll_slot]
      by_cases hd : path q ∈ m.ds
      · rw [if_pos hd]; exact .any _
      · rw [if_neg hd]
        have h1 : slot f4 q = slot f3 q := by
          have hk := runC_keeps k b c f3 h3 (fun hh => hd (M.body _ hh)) (t := q)
          rcases hb4 with hb4 | hb4 <;> rw [hb4] at hk <;> exact hk
        have h2 : slot f3 q = slot (entF m.pr kv (putSs cs s.2 (anyAll m.ds f).out).out).out q := runR_keep hr3 fun hh => hd (M.ent _ hh)
        have h3 : slot (entF m.pr kv (putSs cs s.2 (anyAll m.ds f).out).out).out q = slot (putSs cs s.2 (anyAll m.ds f).out).out q := by
          unfold entF
          cases hp : m.pr with
          | none => rfl
          | some p =>
            simp only
            rw [slot_put, if_neg (fun hh => hd (by rw [hh]; exact M.prds p hp))]
        have h4 : slot (putSs cs s.2 (anyAll m.ds f).out).out q = slot f q := by
          rw [putSs_out _ _ _ _ hq, anyAll_slot, if_neg hd]
        have h5 := fn0.1.1 q
        rw [h4] at h5
        have h6 := hfn.1.1 q
        rw [h1, h2, h3, h4] at h6
        exact h5.back hext.le h6
  · have := hframe rm xm M.hm M.rex
    rw [M.hmb] at this
    rw [this]; exact hmap
  · have := hframe N xN M.hN M.nex
    rw [M.hNI] at this
    exact this.trans hiter
end
end Go.Ab

/- Loops over maps: the rounds, and the loop. -/
namespace Go.Ab
open Go
variable {C : Cx} {ds : List Deferred} {R : Option Nat → Prop} {b0 : Nat}

/-- A round's code is done as it should be. -/
def RoundOK (C : Cx) (R : Option Nat → Prop) (n : Nat) (m : ML) (b : CC) (it : Nat) (body : Code) : Prop := ∀ (b0 k : Nat) (c : CallT), CallOK C c → ∀ (kv : AV × AV) (key val : Value) (fs f3 f4 : Fr) (hl h3 h4 : Hp) (e : Emb) (a : Act) (w : World) (I bm clock : Nat) (seen : Array Nat) (es' : Array MapEntry) (en : MapEntry) (Q : Exit → Act → World → Prop),
  GR C e → FN a.defers n e fs a → DF b0 e w a.defers → HR e hl w → a.eval (.tmp it) = .pointer (some ⟨I, 0, none⟩) → w.heap[I]? = some (.mapIter (some bm) clock (seen.push en.born) clock) → w.heap[bm]? = some (.map es' clock) → en ∈ es'.toList → (es'.toList.map (·.born)).Nodup → en.key = key → en.val = val → VR e kv.1 key → VR e kv.2 val →
  runR m.ent c (entF m.pr kv fs).out hl = .norm f3 h3 → (runC b k c f3 h3 = .norm f4 h4 ∨ runC b k c f3 h3 = .exit m.nxt f4 h4) →
  (∀ e' a' w', Ext e hl w e' h4 w' → FN a'.defers n e' f4 a' → DF b0 e' w' a'.defers → Q .normal a' w' ∧ Q (.exit m.nxt) a' w') → body.ow R C.P Q a w

theorem round_plain {n : Nat} {m : ML} {b : CC} {it : Nat} {body : Code} (hp : m.pr = none) (he : m.ent = []) (hb : b = mkC C n body) (hcode : CodeOK C R n body) : RoundOK C R n m b it body := by
  intro b0 k c hc kv key val fs f3 f4 hl h3 h4 e a w I bm clock seen es' en Q hg hf hd hr _ _ _ _ _ _ _ _ _ hx hb4 hk
  rw [hp, he] at hx
  have hx : Out.norm fs hl = .norm f3 h3 := hx
  cases hx
  refine hcode b0 k c hc fs hl e a w Q hg hf hd hr ?_
  rw [← hb]
  rcases hb4 with hb4 | hb4
  · rw [hb4]; exact fun e' a' w' hext hfn hdf => (hk e' a' w' hext hfn hdf).1
  · rw [hb4]; exact fun e' a' w' hext hfn hdf => (hk e' a' w' hext hfn hdf).2

theorem round_entry {n : Nat} {m : ML} {b : CC} {it pr id : Nat} {ops2 : Array Oper} {oe : Oper} {ents : List Oper} {code : Code} (hops : ops2.toList = oe :: ents) (hoe : oe.op = .entry (.tmp it)) (hsl : slotOK n oe = some pr) (hp : m.pr = some (path pr)) (he : m.ent = mkSeq C n ops2.toList ents) (hb : b = mkC C n code) (hcode : CodeOK C R n code) :
    RoundOK C R n m b it (.seq (.region id ops2 false) code) := by
  intro b0 k c hc kv key val fs f3 f4 hl h3 h4 e a w I bm clock seen es' en Q hg hf hd hr hit hI hbm hen hnd hkey hval v1 v2 hx hb4 hk
  obtain ⟨g1, g2, g3⟩ := slotOK_spec hsl
  have ho : ops2[0]? = some oe := by rw [← Array.getElem?_toList, hops]; rfl
  have hsz : ops2.size = ents.length + 1 := by rw [← Array.length_toList, hops]; rfl
  refine ow_seq (ow_region ?_)
  rw [hsz, List.range_eq_range']
  show owOps C.P ops2 _ (0 :: List.range' 1 ents.length) a w
  rw [owOps_cons]
  refine owOp_val (v := .tuple #[key, val]) (w' := w) ho g1 ?_ ?_
  · have := run_entryM (P := C.P) w hI hbm hen hnd
    simp only [execOp, hoe, hit, this, Sem.run_bind, Result.andThen_ok, Sem.run_pure, hkey, hval]
  · rw [g2]
    have hfn : FN a.defers n e (entF m.pr kv fs).out (a.put (some pr) (.tuple #[key, val])) := by
      rw [hp]
      show FN a.defers n e (setP (.tup [kv.1, kv.2]) (path pr) fs).out _
      rw [setP_eq]
      exact hf.put g3 (.tup _ [key, val] (.cons _ _ _ _ v1 (.cons _ _ _ _ v2 .nil)))
    have hl' : ∀ (i : Nat) (o : Oper), ents[i]? = some o → ops2[1 + i]? = some o := by
      intro i o hi
      rw [← Array.getElem?_toList, hops, Nat.add_comm 1 i]
      simpa using hi
    rw [he] at hx
    have := seq_simK (C := C) hc (Q := Exit.then (code.ow R C.P Q) Q) (js := []) ents 1 hl' _ hl e _ w f3 h3 hg hfn hr hx fun e' a' w' hext hfn' => ?_
    · rw [List.append_nil] at this
      exact this
    · show code.ow R C.P Q a' w'
      refine hcode b0 k c hc f3 h3 e' a' w' Q (hg.mono hext.le) (by rw [hfn'.2.2]; exact hfn') (by rw [hfn'.2.2]; exact hd.ext hext) hext.hr ?_
      rw [← hb]
      rcases hb4 with hb4 | hb4
      · rw [hb4]; exact fun e2 a2 w2 x2 fn2 d2 => (hk e2 a2 w2 (hext.trans x2) fn2 d2).1
      · rw [hb4]; exact fun e2 a2 w2 x2 fn2 d2 => (hk e2 a2 w2 (hext.trans x2) fn2 d2).2

section
variable {n : Nat} {m : ML} {b : CC} {it nx mr : Nat} {e : Emb} {h : Hp} {w1 : World} {f : Fr} {ex : List Nat} {cs : List (List Bool)} {N I rm bm clock : Nat} {xN xm : Loc} {es : Es} {l : List (Value × Value)} {es' : Array MapEntry} {rows : Rows} {sf : St} {k : Nat} {c : CallT}

theorem iter_slot (M : MapAt C n m b it nx mr e h w1 f ex cs N I rm bm clock xN xm es l es') {vs : List AV} {a : Act} (fn : FN ds n e (putSs cs vs (anyAll m.ds f).out).out a) : a.eval (.tmp it) = .pointer (some ⟨I, 0, none⟩) := by
  have h1 := fn.1.1 it
  rw [putSs_out _ _ _ _ M.itcs, anyAll_slot, if_neg M.itds, M.itf] at h1
  have h2 : a.eval (.tmp it) = a.tmps.getD it undef := by simp [Act.eval]
  rw [h2]
  generalize a.tmps.getD it undef = u at h1
  cases h1 with
  | ptr _ _ _ x p1 p2 p3 =>
    have := M.hN
    rw [p1] at this; cases this
    rw [M.hNI]
    rfl

theorem rounds_sim (M : MapAt C n m b it nx mr e h w1 f ex cs N I rm bm clock xN xm es l es') (hrows1 : ∀ r ∈ rows, eachM (round1 m (runC b k) c (anyAll m.ds f).out h ex cs r.1) es = .ok r.2) (hrows2 : okRows es.length rows = true) (hc : CallOK C c) {body : Code} (hround : RoundOK C R n m b it body)
    {id1 out nxt : Nat} {ops1 : Array Oper} {o1 o2 : Oper} (hops : ops1.toList = [o1, o2]) (ho1 : o1.op = .next (.tmp it) false) (hs1 : slotOK n o1 = some nx) (ho2 : o2.op = .extract (.tmp nx) 0) (hs2 : slotOK n o2 = some mr) (hnxt : nxt = m.nxt)
    {Q : Exit → Act → World → Prop} (hQ : ∀ a w, Ext e h w1 e (putCs ex sf.1 h).out w → FN a.defers n e (putSs cs sf.2 (anyAll m.ds f).out).out a → DF b0 e w a.defers → Q (.exit out) a w) :
    ∀ (q : Nat) (L : List Nat), L.length = q → ∀ (s : St) (a : Act) (w : World), Rd b0 n m it e h w1 f ex cs I bm clock es l es' rows sf L s a w → owL R C.P (.seq (.region id1 ops1 false) (.seq (.cond (.tmp mr) .skip (.exit out)) (.block nxt body))) Q a w := by
  subst hnxt
  intro q
  induction q using Nat.strongRecOn with
  | ind q ih =>
    intro L hL s a w R
    obtain ⟨g1, g2, g3⟩ := slotOK_spec hs1
    obtain ⟨i1, i2, i3⟩ := slotOK_spec hs2
    have e1 : ops1[0]? = some o1 := by rw [← Array.getElem?_toList, hops]; rfl
    have e2 : ops1[1]? = some o2 := by rw [← Array.getElem?_toList, hops]; rfl
    have hsz : ops1.size = 2 := by rw [← Array.length_toList, hops]; rfl
    have hit := iter_slot M R.fn
    obtain ⟨seen, hI, hperm⟩ := R.iter
    have hold : ∀ x ∈ es'.toList, x.born < clock := fun x hx => M.born.1 _ (List.mem_map.2 ⟨x, hx, rfl⟩)
    have hnd : (es'.toList.map (·.born)).Nodup := M.born.2
    have hslot : ∀ (vs : List AV) (d : Nat), path d ∈ m.ds → path d ∉ cs → slot (putSs cs vs (anyAll m.ds f).out).out d = anyA := fun vs d h1 h2 => by rw [putSs_out _ _ _ _ h2, anyAll_slot, if_pos h1]
    refine owL_step (ow_seq (ow_region ?_))
    rw [hsz]
    show owOps C.P ops1 _ [0, 1] a w
    rw [owOps_cons]
    rcases run_nextM (P := C.P) w o1.type hI R.map hold with ⟨h0, hrun⟩ | ⟨en, hen, w1', u1, u2, u3, hrun⟩
    · -- nothing is left
      refine owOp_val (v := .tuple #[.bool false]) (w' := w) e1 g1 (by simp only [execOp, ho1, hit, hrun, Sem.run_bind, Result.andThen_ok, Sem.run_pure]) ?_
      rw [g2, owOps_cons]
      have hf1 := R.fn.putAny (hslot s.2 nx M.nxds M.nxcs) (.tuple #[.bool false])
      have hev : (a.put (some nx) (.tuple #[.bool false])).eval (.tmp nx) = .tuple #[.bool false] := put_get (Nat.lt_of_lt_of_le g3 R.fn.2.1)
      refine owOp_val (v := .bool false) (w' := w) e2 i1 (by simp [execOp, ho2, hev, Instr.extract]) ?_
      rw [i2]
      have hf2 := hf1.putAny (hslot s.2 mr M.mrds M.mrcs) (.bool false)
      have hLn : L = [] := by
        have h1 := hperm.length_eq
        simp at h1
        have : L.length = 0 := by omega
        exact List.eq_nil_of_length_eq_zero this
      have hsf : s = sf := by
        have h1 := R.walk
        rw [hLn] at h1
        cases h1; rfl
      refine ow_seq (ow_cond_false (put_get (Nat.lt_of_lt_of_le i3 hf1.2.1)) (ow_exit ?_))
      subst hsf
      exact hQ _ w R.ext (by rw [put_defers, put_defers]; exact hf2) (by rw [put_defers, put_defers]; exact R.df)
    · -- an entry comes out
      have hhm : (putCs ex s.1 h).out.get N = some (.sit 0 0 7) := by
        obtain ⟨f0, h0, hread⟩ := R.read
        obtain ⟨_, _, k3⟩ := putCs_spec ex s.1 h h0 (readSt_spec hread).1
        rw [k3, if_neg M.nex]; exact M.bN
      have hx2 : Ext e h w1 e (putCs ex s.1 h).out { w1' with heap := w1'.heap.setIfInBounds I (.mapIter (some bm) clock (seen.push en.born) clock) } :=
        R.ext.setIter M.hN M.hN (by rw [M.hNI]) M.bN hhm M.okN hI (by show w1'.heap.setIfInBounds I _ = _; rw [u1]) u2 u3
      refine owOp_val (v := .tuple #[.bool true, en.key, en.val]) (w' := { w1' with heap := w1'.heap.setIfInBounds I (.mapIter (some bm) clock (seen.push en.born) clock) }) e1 g1 (by simp only [execOp, ho1, hit, hrun, Sem.run_bind, Result.andThen_ok, Sem.run_pure]) ?_
      have hIlt : I < w.heap.size := (Array.getElem?_eq_some_iff.1 hI).1
      have hI2 : ({ w1' with heap := w1'.heap.setIfInBounds I (.mapIter (some bm) clock (seen.push en.born) clock) } : World).heap[I]? = some (.mapIter (some bm) clock (seen.push en.born) clock) := by
        show (w1'.heap.setIfInBounds I _)[I]? = _
        rw [u1]; simp [hIlt]
      have hbI : bm ≠ I := by
        intro hh
        have := R.map
        rw [hh, hI] at this; cases this
      have hm2 : ({ w1' with heap := w1'.heap.setIfInBounds I (.mapIter (some bm) clock (seen.push en.born) clock) } : World).heap[bm]? = some (.map es' clock) := by
        show (w1'.heap.setIfInBounds I _)[bm]? = _
        rw [u1, Array.getElem?_setIfInBounds_ne (Ne.symm hbI)]; exact R.map
      have hd2 : DF b0 e ({ w1' with heap := w1'.heap.setIfInBounds I (.mapIter (some bm) clock (seen.push en.born) clock) } : World) a.defers := by
        refine ⟨fun d hd => ?_, R.df.2.1, by show b0 ≤ (w1'.heap.setIfInBounds I _).size; rw [u1, Array.size_setIfInBounds]; exact R.df.2.2⟩
        obtain ⟨D, j1, j2, j3, j4⟩ := R.df.1 d hd
        have hne : I ≠ D := by
          intro hh
          subst hh
          rw [hI] at j2; cases j2
        refine ⟨D, j1, ?_, j3, j4⟩
        show (w1'.heap.setIfInBounds I _)[D]? = _
        rw [u1, Array.getElem?_setIfInBounds_ne hne]; exact j2
      generalize ({ w1' with heap := w1'.heap.setIfInBounds I (.mapIter (some bm) clock (seen.push en.born) clock) } : World) = w2 at hx2 hI2 hm2 hd2
      rw [g2, owOps_cons]
      have hf1 := R.fn.putAny (hslot s.2 nx M.nxds M.nxcs) (.tuple #[.bool true, en.key, en.val])
      have hev : (a.put (some nx) (.tuple #[.bool true, en.key, en.val])).eval (.tmp nx) = .tuple #[.bool true, en.key, en.val] := put_get (Nat.lt_of_lt_of_le g3 R.fn.2.1)
      refine owOp_val (v := .bool true) (w' := w2) e2 i1 (by simp [execOp, ho2, hev, Instr.extract]) ?_
      rw [i2]
      have hf2 := hf1.putAny (hslot s.2 mr M.mrds M.mrcs) (.bool true)
      refine ow_seq (ow_cond_true (put_get (Nat.lt_of_lt_of_le i3 hf1.2.1)) (ow_skip (ow_block ?_)))
      have hit2 := iter_slot M hf2
      -- which entry
      have hmem : some (en.key, en.val) ∈ (leftOf es' seen).toList.map fun m => some (m.key, m.val) := List.mem_map.2 ⟨en, hen, rfl⟩
      obtain ⟨i, hiL, hil⟩ := List.mem_map.1 (hperm.mem_iff.2 hmem)
      obtain ⟨kv, hkv, v1, v2⟩ := M.erl.getM hil
      have hpe : L.Perm (i :: L.erase i) := List.perm_cons_erase hiL
      have hwalk : walkM rows s (i :: L.erase i) = some sf := by
        obtain ⟨ts, hts⟩ : ∃ ts, rowOf s rows = some ts := by
          cases hLL : L with
          | nil => rw [hLL] at hiL; cases hiL
          | cons j L' => have := R.walk; rw [hLL] at this; exact walk_row this
        rw [← walk_perm hrows2 hpe R.lt]; exact R.walk
      obtain ⟨ts, hts⟩ := walk_row hwalk
      rw [walk_step hts] at hwalk
      cases hti : nthA ts i with
      | none => rw [hti] at hwalk; cases hwalk
      | some t =>
        rw [hti] at hwalk
        have hwalk : walkM rows t (L.erase i) = some sf := hwalk
        rw [nthA_eq] at hti
        have hr1 := (eachM_get (hrows1 _ (rowOf_spec hts))).2 i kv t hkv hti
        obtain ⟨f3, h3, f4, h4, q1, q2, q3⟩ := round1_spec hr1
        have hHR : HR e (⟨(putCs ex s.1 h).out.t, (putCs ex s.1 h).out.n, ⟨(putCs ex s.1 h).out.n, ex⟩⟩ : Hp) w2 := ⟨hx2.hr.inj, hx2.hr.lt, hx2.hr.at'⟩
        have hen2 : en ∈ es'.toList := by
          unfold leftOf at hen
          rw [Array.toList_filter] at hen
          exact (List.mem_filter.1 hen).1
        refine hround b0 k c hc kv en.key en.val _ f3 f4 _ h3 h4 e _ w2 I bm clock seen es' en _ M.gr (by rw [put_defers, put_defers]; exact hf2) (by rw [put_defers, put_defers]; exact hd2) hHR hit2 hI2 hm2 hen2 hnd rfl rfl v1 v2 q1 q2 fun e' a' w' hext hfn hdf => ?_
        have hlen : (L.erase i).length < q := by
          have := hpe.length_eq
          simp only [List.length_cons] at this
          omega
        have hleft : ((L.erase i).map fun i => l[i]?).Perm ((leftOf es' (seen.push en.born)).toList.map fun m => some (m.key, m.val)) := by
          have p1 := (hpe.map fun i => l[i]?).symm.trans (hperm.trans ((leftOf_push hnd hen).map fun m => some (m.key, m.val)))
          simp only [List.map_cons, hil] at p1
          exact p1.cons_inv
        have R' := round_after M hx2 hf2 R.read hm2 hI2 hleft (fun j hj => R.lt j (List.mem_of_mem_erase hj)) hwalk q1 q2 q3 hext hfn hdf
        have hfin := ih (L.erase i).length hlen (L.erase i) rfl t a' w' R'
        refine ⟨hfin, ?_⟩
        show Exit.inBlock m.nxt _ (.exit m.nxt) a' w'
        simp only [Exit.inBlock, if_true]
        exact hfin
end
end Go.Ab

/- Calls of which it is known what they come to: what is done once from the package-level variables alone is so in any memory. -/
namespace Go.Ab
open Go
variable {C : Cx}

mutual
theorem VR.closedT {e e2 : Emb} : ∀ {v : AV} {v' : Value}, VR e v v' → v.closed = true → VR e2 v v'
  | _, _, .int k n, _ => .int k n
  | _, _, .bool b, _ => .bool b
  | _, _, .str s, _ => .str s
  | _, _, .ptr b g o x _ _ _, hc => by cases hc
  | _, _, .slc b g o n c cap x ad _ _ _ _ _ _ _, hc => by cases hc
  | _, _, .nilp, _ => .nilp
  | _, _, .nils, _ => .nils
  | _, _, .nilm, _ => .nilm
  | _, _, .nilf, _ => .nilf
  | _, _, .nili, _ => .nili
  | _, _, .map r x p _, hc => by cases hc
  | _, _, .yld m x p _, hc => by cases hc
  | _, _, .fn g a b a' b' hy p q, hc => by
    have hc : and (closedL a) (closedL b) = true := hc
    rw [Bool.and_eq_true] at hc
    exact .fn g a b a' b' hy (VRL.closedT p hc.1) (VRL.closedT q hc.2)
  | _, _, .ifc t v v' p, hc => .ifc t v v' (VR.closedT p hc)
  | _, _, .agg l l' p q, hc => .agg l l' (VRL.closedT p hc) q
  | _, _, .tup l l' p, hc => .tup l l' (VRL.closedT p hc)
  | _, _, .any v', _ => .any v'
  | _, _, .modv t n a b c d f, _ => .modv t n a b c d f
  | _, _, .remv t n a b, _ => .remv t n a b
  | _, _, .opq v' a, _ => .opq v' a
theorem VRL.closedT {e e2 : Emb} : ∀ {l : List AV} {l' : List Value}, VRL e l l' → closedL l = true → VRL e2 l l'
  | _, _, .nil, _ => .nil
  | _, _, .cons v v' l l' p q, hc => by
    have hc : and v.closed (closedL l) = true := hc
    rw [Bool.and_eq_true] at hc
    exact .cons v v' l l' (VR.closedT p hc.1) (VRL.closedT q hc.2)
end
theorem closedL_mem : ∀ {l : List AV} {v : AV}, closedL l = true → v ∈ l → v.closed = true
  | x :: l, v, hc, hm => by
    have hc : and x.closed (closedL l) = true := hc
    rw [Bool.and_eq_true] at hc
    rcases List.mem_cons.1 hm with rfl | hm
    · exact hc.1
    · exact closedL_mem hc.2 hm

theorem BR.closedT {e e2 : Emb} {l : List AV} {z g : Nat} {x : Loc} {ob : Option Obj} (hc : closedL l = true) (h : BR e (.flat l z) g x ob) : BR e2 (.flat l z) g x ob := by
  cases h with
  | map es es' clock l a _ _ _ _ _ => cases a
  | sit s pos a _ => cases a
  | iter m since seen stepped a _ => cases a
  | lp q0 fn0 tm0 df0 a => cases a
  | busy o0 a => cases a
  | dfr a => cases a
  | cells c t fr q =>
    refine .cells c t fr ⟨q.cells, q.lo, q.sz, q.gen, q.known, fun i u hi hu => ?_, q.fz2, q.fz0⟩
    obtain ⟨h1, v', h2, h3⟩ := q.at' i u hi hu
    have hm : u ∈ l := by
      have hu : ifb (Nat.beq g 0) (nthA l i) none = some u := hu
      cases hg : Nat.beq g 0 with
      | false => rw [hg] at hu; cases hu
      | true =>
        rw [hg, ifb_true, nthA_eq] at hu
        exact List.mem_of_getElem? hu
    exact ⟨h1, v', h2, h3.closedT (closedL_mem hc hm)⟩

/-! ### Other names -/
theorem isCell_ren (u : AV) (ρ ρ' : Nat → Nat × Nat) : (u.ren ρ).isCell = (u.ren ρ').isCell := by
  cases u <;> try rfl
  rename_i g a b
  simp only [AV.ren]
  cases Nat.ble yF g <;> rfl
theorem renL_get (ρ : Nat → Nat × Nat) : ∀ (l : List AV) (i : Nat), (renL ρ l)[i]? = (l[i]?).map fun u => u.ren ρ
  | [], i => by simp [renL]
  | v :: l, 0 => by simp [renL]
  | v :: l, i + 1 => by simp [renL, renL_get ρ l i]
theorem renL_mem {ρ : Nat → Nat × Nat} {l : List AV} {v : AV} (h : v ∈ renL ρ l) : ∃ u ∈ l, v = u.ren ρ := by
  obtain ⟨i, hi⟩ := List.mem_iff_getElem?.1 h
  rw [renL_get] at hi
  cases hl : l[i]? with
  | none => rw [hl] at hi; cases hi
  | some u => rw [hl] at hi; cases hi; exact ⟨u, List.mem_of_getElem? hl, rfl⟩
theorem renL_length (ρ : Nat → Nat × Nat) : ∀ l : List AV, (renL ρ l).length = l.length
  | [] => rfl
  | v :: l => by simp [renL, renL_length ρ l]

section
variable {e1 e' : Emb} {ρ1 ρ2 : Nat → Nat × Nat}
mutual
theorem VR.ren (hk : ∀ i x, e1 (ρ1 i).1 (ρ1 i).2 = some x → e' (ρ2 i).1 (ρ2 i).2 = some x) : ∀ (u : AV) {u' : Value}, VR e1 (u.ren ρ1) u' → VR e' (u.ren ρ2) u'
  | .int k n, u', h => VR.closedT (v := .int k n) h rfl
  | .bool b, u', h => VR.closedT (v := .bool b) h rfl
  | .str n b, u', h => VR.closedT (v := .str n b) h rfl
  | .nil t, u', h => VR.closedT (v := .nil t) h rfl
  | .map r, u', _ => .any u'
  | .ptr b g o, u', h => by
    have h : VR e1 (.ptr (ρ1 b).1 (ρ1 b).2 o) u' := h
    cases h with
    | ptr _ _ _ x p1 p2 p3 => exact .ptr _ _ o x (hk b x p1) p2 p3
  | .sl b g o n c, u', h => by
    have h : VR e1 (.sl (ρ1 b).1 (ρ1 b).2 o n c) u' := h
    cases h with
    | slc _ _ _ _ _ cap x ad p1 p2 p3 p4 p5 p6 p7 => exact .slc _ _ o n c cap x ad (hk b x p1) p2 p3 p4 p5 p6 p7
  | .fn g a b, u', h => by
    cases hy : Nat.ble yF g with
    | true =>
      rw [show (AV.fn g a b).ren ρ2 = anyA by simp only [AV.ren, hy]]
      exact .any u'
    | false =>
    rw [show (AV.fn g a b).ren ρ2 = .fn g (renL ρ2 a) (renL ρ2 b) by simp only [AV.ren, hy]]
    rw [show (AV.fn g a b).ren ρ1 = .fn g (renL ρ1 a) (renL ρ1 b) by simp only [AV.ren, hy]] at h
    rcases (VR.onFn h (no := fun _ => ()) (k := fun _ _ _ => ())) with ⟨g2, a2, b2, hv, hf, _⟩ | ⟨_, _⟩
    · cases hv
      cases hf with
      | fn a' b' hg p q => exact .fn g _ _ a' b' hy (VRL.ren hk a p) (VRL.ren hk b q)
      | yld m x hg _ _ _ _ => subst hg; exact absurd hy (by decide)
    · generalize hv : AV.fn g (renL ρ1 a) (renL ρ1 b) = vv at h
      generalize ha : renL ρ1 a = ra at hv
      generalize hb : renL ρ1 b = rb at hv
      cases h <;> first | (cases hv; done) | skip
      case fn g' a2 b2 a' b' hg p q =>
        cases hv
        subst ha hb
        exact .fn g _ _ a' b' hy (VRL.ren hk a p) (VRL.ren hk b q)
      case yld m x p pb =>
        cases hv
        exact absurd hy (by decide)
  | .ifc t v, u', h => by
    have h : VR e1 (.ifc t (v.ren ρ1)) u' := h
    cases h with
    | ifc _ _ v' p => exact .ifc t _ v' (VR.ren hk v p)
  | .agg l, u', h => by
    have h : VR e1 (.agg (renL ρ1 l)) u' := h
    cases h with
    | agg _ l' p q =>
      refine .agg _ l' (VRL.ren hk l p) fun v hv => ?_
      obtain ⟨u, hu, rfl⟩ := renL_mem hv
      rw [isCell_ren u ρ2 ρ1]
      obtain ⟨i, hi⟩ := List.mem_iff_getElem?.1 hu
      exact q _ (List.mem_of_getElem? (i := i) (by rw [renL_get, hi]; rfl))
  | .tup l, u', h => by
    have h : VR e1 (.tup (renL ρ1 l)) u' := h
    generalize hv : AV.tup (renL ρ1 l) = v at h
    cases h <;> first | (cases hv; done) | skip
    case tup l2 l' p =>
      cases hv
      exact .tup _ l' (VRL.ren hk l p)
theorem VRL.ren (hk : ∀ i x, e1 (ρ1 i).1 (ρ1 i).2 = some x → e' (ρ2 i).1 (ρ2 i).2 = some x) : ∀ (l : List AV) {l' : List Value}, VRL e1 (renL ρ1 l) l' → VRL e' (renL ρ2 l) l'
  | [], l', h => by
    have h : VRL e1 [] l' := h
    cases h; exact .nil
  | v :: l, l', h => by
    have h : VRL e1 (v.ren ρ1 :: renL ρ1 l) l' := h
    cases h with
    | cons _ v' _ l2 p q => exact .cons _ v' _ l2 (VR.ren hk v p) (VRL.ren hk l q)
end
end

theorem addAll_spec (ρ : Nat → Nat × Nat) : ∀ (bs : List (List AV × Nat)) (h : Hp), (addAll ρ bs h).out.n = h.n + bs.length ∧ (addAll ρ bs h).out.lk = h.lk ∧ (∀ b, b < h.n → (addAll ρ bs h).out.get b = h.get b) ∧ ∀ i q, bs[i]? = some q → (addAll ρ bs h).out.get (h.n + i) = some (.flat (renL ρ q.1) q.2)
  | [], h => ⟨rfl, rfl, fun _ _ => rfl, fun i q hq => by simp at hq⟩
  | q :: bs, h => by
    have h1 : (addAll ρ (q :: bs) h).out = (addAll ρ bs ⟨setT (.flat (renL ρ q.1) q.2) (path h.n) h.t, h.n + 1, h.lk⟩).out := by
      show ((forceL (renL ρ q.1)).bd fun c => (h.add (.flat c q.2)).bd fun h => addAll ρ bs h).out = _
      rw [forceL_eq, Bx.bd_mk, Hp.add_eq, Bx.bd_mk]
    obtain ⟨k1, k2, k3, k4⟩ := addAll_spec ρ bs ⟨setT (.flat (renL ρ q.1) q.2) (path h.n) h.t, h.n + 1, h.lk⟩
    rw [h1]
    refine ⟨by rw [k1]; simp; omega, k2, fun b hb => ?_, fun i q' hq => ?_⟩
    · rw [k3 b (Nat.lt_succ_of_lt hb), Hp.get_set _ _ h.n, if_neg (Nat.ne_of_lt hb)]
    · cases i with
      | zero =>
        simp at hq; subst hq
        show (addAll ρ bs ⟨setT (.flat (renL ρ q.1) q.2) (path h.n) h.t, h.n + 1, h.lk⟩).out.get h.n = _
        rw [k3 h.n (Nat.lt_succ_self _), Hp.get_set _ _ h.n, if_pos rfl]
      | succ i =>
        have := k4 i q' (by simpa using hq)
        rw [show h.n + (i + 1) = h.n + 1 + i by omega]
        exact this

theorem globOK_get {gl : List (Nat × List AV)} {h : Hp} (hg : globOK gl h = true) {b : Nat} {l : List AV} (hm : (b, l) ∈ gl) : h.get b = some (.flat l 3) := by
  have h1 := List.all_eq_true.1 hg _ hm
  simp only at h1
  split at h1
  · rename_i l2 z hget
    rw [Bool.and_eq_true, beq_iff] at h1
    obtain ⟨rfl, h3⟩ := h1
    rw [hget, avEqL_eq h3]
  · cases h1
theorem globHp_n (gl : List (Nat × List AV)) (n : Nat) : (globHp gl n).n = n := by
  have key : ∀ (gl : List (Nat × List AV)) (h : Hp), (gl.foldl (fun h q => (h.put q.1 (.flat q.2 3)).bd fun h => h) h).n = h.n := by
    intro gl
    induction gl with
    | nil => intro h; rfl
    | cons q gl ih =>
      intro h
      rw [List.foldl_cons, ih, Hp.put_eq]; rfl
  exact key gl _

theorem cellsOK_spec {ρ : Nat → Nat × Nat} {b : Blk} {g : Nat} : ∀ {l : List AV} {k : Nat}, cellsOK ρ b g k l = true → ∀ i u, l[i]? = some u → b.read1 g (k + i) = some (u.ren ρ)
  | x :: l, k, h, i, u, hu => by
    have h : and (match b.read1 g k with
      | some v => avEq v (x.ren ρ)
      | none => false) (cellsOK ρ b g (k + 1) l) = true := h
    rw [Bool.and_eq_true] at h
    cases i with
    | zero =>
      simp at hu; subst hu
      have h1 := h.1
      split at h1
      · rename_i v hv
        rw [Nat.add_zero, hv, avEq_eq h1]
      · cases h1
    | succ i =>
      have := cellsOK_spec h.2 i u (by simpa using hu)
      rw [show k + (i + 1) = k + 1 + i by omega]; exact this
theorem blkOK_spec {ρ : Nat → Nat × Nat} {h : Hp} {p : Nat × Nat} {q : List AV × Nat} (hb : blkOK ρ h p q = true) : ∃ b, h.get p.1 = some b ∧ b.isCells ∧ b.fz = q.2 ∧ q.1.length ≤ b.known p.2 ∧ ∀ i u, q.1[i]? = some u → b.read1 p.2 i = some (u.ren ρ) := by
  unfold blkOK at hb
  split at hb
  · rename_i b hget
    simp only [Bool.and_eq_true] at hb
    obtain ⟨h1, h2, h3, h4⟩ := hb
    refine ⟨b, hget, ?_, beq_iff.1 h2, ?_, fun i u hu => ?_⟩
    · cases b <;> first | trivial | cases h1
    · have := Nat.le_of_ble_eq_true h3
      simpa using this
    · have := cellsOK_spec h4 i u hu
      rwa [Nat.zero_add] at this
  · cases hb
theorem blksOK_spec {ρ : Nat → Nat × Nat} {h : Hp} {n : Nat} : ∀ {ps : List (Nat × Nat)} {qs : List (List AV × Nat)}, blksOK ρ h n ps qs = true → ps.length = qs.length ∧ (∀ p ∈ ps, n ≤ p.1) ∧ ps.Pairwise (fun a b => a.1 ≠ b.1) ∧ ∀ (i : Nat) p q, ps[i]? = some p → qs[i]? = some q → blkOK ρ h p q = true
  | [], [], _ => ⟨rfl, fun p hp => (by cases hp), .nil, fun i p q hp => by simp at hp⟩
  | [], _ :: _, hb => by cases hb
  | _ :: _, [], hb => by cases hb
  | p :: ps, q :: qs, hb => by
    have hb : and (and (Nat.ble n p.1) (not (ps.any fun r => Nat.beq p.1 r.1))) (and (blkOK ρ h p q) (blksOK ρ h n ps qs)) = true := hb
    simp only [Bool.and_eq_true, Bool.not_eq_true'] at hb
    obtain ⟨⟨h1, h2⟩, h3, h4⟩ := hb
    obtain ⟨k1, k2, k3, k4⟩ := blksOK_spec h4
    refine ⟨by simp [k1], fun p' hp' => ?_, List.pairwise_cons.2 ⟨fun r hr hh => ?_, k3⟩, fun i p' q' hp' hq' => ?_⟩
    · rcases List.mem_cons.1 hp' with rfl | hp'
      · exact Nat.le_of_ble_eq_true h1
      · exact k2 p' hp'
    · rw [List.any_eq_false] at h2
      exact h2 r hr (beq_iff.2 hh)
    · cases i with
      | zero => simp at hp' hq'; subst hp'; subst hq'; exact h3
      | succ i => exact k4 i p' q' (by simpa using hp') (by simpa using hq')

/-- A block's cells, under other names. -/
theorem BR.ofBlk {e1 e' : Emb} {ρ1 ρ2 : Nat → Nat × Nat} (hk : ∀ i x, e1 (ρ1 i).1 (ρ1 i).2 = some x → e' (ρ2 i).1 (ρ2 i).2 = some x) {h1 : Hp} {p : Nat × Nat} {bq : List AV × Nat} (hb : blkOK ρ1 h1 p bq = true) {blk : Blk} (hget : h1.get p.1 = some blk) {x : Loc} {ob : Option Obj} (m2 : BR e1 blk p.2 x ob) :
    BR e' (.flat (renL ρ2 bq.1) bq.2) 0 x ob := by
  obtain ⟨blk2, j1, j2, j3, j4, j5⟩ := blkOK_spec hb
  rw [hget] at j1; cases j1
  cases m2 with
  | map es es' clock l a _ _ _ _ _ => subst a; exact j2.elim
  | sit s pos a _ => subst a; exact j2.elim
  | iter _ _ _ _ a _ => subst a; exact j2.elim
  | lp q0 fn0 tm0 df0 a => subst a; exact j2.elim
  | busy o0 a => subst a; exact j2.elim
  | dfr a => subst a; exact j2.elim
  | cells c t fr bc =>
    refine .cells c t fr ⟨trivial, bc.lo, bc.sz, Nat.zero_le _, ?_, fun k u hk' hu => ?_, ?_, ?_⟩
    · have : (Blk.flat (renL ρ2 bq.1) bq.2).known 0 = bq.1.length := by
        show lenA (renL ρ2 bq.1) = _
        simp [renL_length]
      rw [this]
      exact Nat.le_trans j4 bc.known
    · have hu : nthA (renL ρ2 bq.1) k = some u := hu
      rw [nthA_eq, renL_get] at hu
      cases hbk : bq.1[k]? with
      | none => rw [hbk] at hu; cases hu
      | some u0 =>
        rw [hbk] at hu
        cases hu
        obtain ⟨n1, y', n2, n3⟩ := bc.at' k _ hk' (j5 k u0 hbk)
        exact ⟨by rw [isCell_ren u0 _ ρ1]; exact n1, y', n2, VR.ren hk u0 n3⟩
    · rw [← j3] at *; exact bc.fz2
    · exact fun hz => bc.fz0 (by rw [j3]; exact hz)

theorem renU_lt {mu : List (Nat × Nat)} {n i : Nat} {p : Nat × Nat} (h : mu[i]? = some p) : renU mu n i = p := by
  unfold renU; rw [nthA_eq, h]; rfl
theorem renU_ge {mu : List (Nat × Nat)} {n i : Nat} (h : mu[i]? = none) : renU mu n i = (n + (i - mu.length), 0) := by
  unfold renU; rw [nthA_eq, h]
  show (n + (i - lenA mu), 0) = _
  simp
theorem renK_lt {mu keep : List (Nat × Nat)} {far i : Nat} {p : Nat × Nat} (h : mu[i]? = some p) : renK mu keep far i = p := by
  unfold renK; rw [nthA_eq, h]; rfl
theorem renK_ge {mu keep : List (Nat × Nat)} {far i : Nat} (h : mu[i]? = none) : renK mu keep far i = (keep[i - mu.length]?).getD (far, 0) := by
  unfold renK; rw [nthA_eq, h, nthA_eq]
  show (keep[i - lenA mu]?).getD (far, 0) = _
  simp
theorem argMu_get {n k i : Nat} : (argMu n k)[i]? = if i < k then some (n + i, 0) else none := by
  unfold argMu
  rw [List.getElem?_map]
  by_cases h : i < k
  · rw [List.getElem?_range h, if_pos h]; rfl
  · rw [List.getElem?_eq_none (by simpa using h), if_neg h]; rfl
theorem argMu_length (n k : Nat) : (argMu n k).length = k := by simp [argMu]
end Go.Ab

