/- The words of signs and functions: closed runs. -/
import Derived.Test.YtkpaphoeldcakaaDoorAbS2
import Derived.Test.YtkpaphoeldcakaaDoorH8
namespace Go.Proofs.YtkpaphoeldcakaaDoor
open Go Go.Ab
def isTell (last : Bool) : AV → Bool
  | .tup [.str _ _, .bool b] => !(last && b)
  | _ => false
theorem isTell_eq {last : Bool} {v : AV} (h : isTell last v = true) : ∃ n x b, v = .tup [.str n x, .bool b] ∧ (last = true → b = false) := by
  unfold isTell at h
  split at h
  · rename_i n x b
    exact ⟨n, x, b, rfl, fun hl => by rw [hl] at h; simpa using h⟩
  · cases h
noncomputable section
def tellsB (g d : Nat) (last : Bool) : Bool := R2.rec (motive := fun _ => Bool) (fun v _ => isTell last v) (fun _ => false) (cK [] g [.int .i64 (.ofNat d)] (globHp gl0 12))
end
theorem tell_calls {g : Nat} {fn : Func} {b : Code} (hgy : Nat.ble yF g = false) (hf : Tryd.prog.funcs[g]? = some fn) (hname : (fn.name == "runtime.NumGoroutine") = false) (hb : fn.body = some b) {d : Nat} {last : Bool} (hx : tellsB g d last = true) {w : World} (h : Holds gl0 w) :
    Calls Tryd.prog g #[.int .i64 d] w fun e w' => ∃ t b, e = .returned (.tuple #[.string t, .bool b]) ∧ (last = true → b = false) ∧ Gr.Below w.heap.size w w' := by
  obtain ⟨hr, hg⟩ := init_sim laid0 h
  have L := laid0
  have hc := ck_ok [] known_nil
  have hv : VRL (initE gl0) [.int .i64 (.ofNat d)] [.int .i64 (d : Int)] := .cons _ _ _ _ (.int _ _) .nil
  unfold tellsB at hx
  cases hrun : cK [] g [.int .i64 (.ofNat d)] (globHp gl0 12) with
  | no q => rw [hrun] at hx; cases hx
  | ok v h' =>
    rw [hrun] at hx
    obtain ⟨n, x, b2, rfl, hl⟩ := isTell_eq (show isTell last v = true from hx)
    rcases hc _ _ _ _ _ hrun with ⟨_, _, hcall⟩ | ⟨_, hval⟩ | ⟨hh, _⟩
    case inr.inr => rw [hh] at hgy; exact absurd hgy (by decide)
    · refine Calls.mono (hcall _ w _ hg hv hr) fun en w' he => ?_
      obtain ⟨v', e', rfl, hvr, hext⟩ := he
      obtain ⟨t, rfl⟩ : ∃ t, v' = .tuple #[.string t, .bool b2] := by
        cases hvr with
        | tup _ l' hl' =>
          cases hl' with
          | cons _ v1 _ l1 q1 q2 =>
            cases q2 with
            | cons _ v2 _ l2 q3 q4 =>
              cases q4
              cases q3
              generalize hu : AV.str n x = u at q1
              cases q1 <;> first | (cases hu; done) | skip
              case str s => exact ⟨s, rfl⟩
      refine ⟨t, b2, rfl, hl, hext.os, hext.output, hext.size, fun i hi => ?_⟩
      refine hext.frame i hi fun b g x hb hxr => ?_
      obtain ⟨_, q, hq, rfl, rfl⟩ := initE_spec hb
      have h1 := List.all_eq_true.1 (show gl0.all _ = true from L.ok) q hq
      refine ⟨by rw [globHp_n]; exact L.lt' (List.mem_map_of_mem hq), .inl ?_⟩
      split at h1
      · rename_i l z hh
        rw [Bool.and_eq_true] at h1
        have hz := beq_iff.1 h1.1
        subst hz
        exact ⟨.flat l 3, hh, show (3 : Nat) = 3 from rfl⟩
      · cases h1
    · obtain ⟨v', w', e', h1, _⟩ := hval _ w _ hg hv hr
      rw [run_callFunc (P := C0.P) (show C0.P.funcs[g]? = some fn from hf) hname hb] at h1
      cases h1
theorem sign_0 : tellsB 31 0 false = true := by kernel_rfl
theorem sign_1 : tellsB 31 1 false = true := by kernel_rfl
theorem sign_2 : tellsB 31 2 false = true := by kernel_rfl
theorem sign_3 : tellsB 31 3 false = true := by kernel_rfl
theorem sign_4 : tellsB 31 4 false = true := by kernel_rfl
theorem sign_5 : tellsB 31 5 false = true := by kernel_rfl
theorem sign_6 : tellsB 31 6 false = true := by kernel_rfl
theorem sign_7 : tellsB 31 7 false = true := by kernel_rfl
theorem sign_8 : tellsB 31 8 false = true := by kernel_rfl
theorem sign_9 : tellsB 31 9 false = true := by kernel_rfl
theorem sign_10 : tellsB 31 10 false = true := by kernel_rfl
theorem sign_11 : tellsB 31 11 false = true := by kernel_rfl
theorem sign_12 : tellsB 31 12 false = true := by kernel_rfl
theorem sign_13 : tellsB 31 13 false = true := by kernel_rfl
theorem sign_14 : tellsB 31 14 false = true := by kernel_rfl
theorem sign_15 : tellsB 31 15 true = true := by kernel_rfl
theorem sign_all (d : Nat) (h : d ≤ 15) : tellsB 31 d (Nat.beq d 15) = true := by
  match d, h with
  | 0, _ => exact sign_0
  | 1, _ => exact sign_1
  | 2, _ => exact sign_2
  | 3, _ => exact sign_3
  | 4, _ => exact sign_4
  | 5, _ => exact sign_5
  | 6, _ => exact sign_6
  | 7, _ => exact sign_7
  | 8, _ => exact sign_8
  | 9, _ => exact sign_9
  | 10, _ => exact sign_10
  | 11, _ => exact sign_11
  | 12, _ => exact sign_12
  | 13, _ => exact sign_13
  | 14, _ => exact sign_14
  | 15, _ => exact sign_15
  | m + 16, h => exact absurd h (by omega)
theorem sign_tells {tb : Obj} (ht : ∀ w, Gr.TOK tb w → Holds gl0 w) : Gr.Tells tb 31 15 := fun d W hd hw => by
  have hy : Nat.ble Go.Ab.yF 31 = false := by kernel_rfl
  have hname : (Tryd.f31.name == "runtime.NumGoroutine") = false := by kernel_rfl
  refine (tell_calls (b := _) hy Tryd.func31 hname rfl (sign_all d hd) (ht W hw)).mono ?_
  rintro e w' ⟨t, b, h1, h2, h3⟩
  exact ⟨t, b, h1, fun hk => h2 (by rw [hk]; rfl), h3⟩
theorem func_0 : tellsB 32 0 false = true := by kernel_rfl
theorem func_1 : tellsB 32 1 false = true := by kernel_rfl
theorem func_2 : tellsB 32 2 false = true := by kernel_rfl
theorem func_3 : tellsB 32 3 false = true := by kernel_rfl
theorem func_4 : tellsB 32 4 false = true := by kernel_rfl
theorem func_5 : tellsB 32 5 false = true := by kernel_rfl
theorem func_6 : tellsB 32 6 false = true := by kernel_rfl
theorem func_7 : tellsB 32 7 false = true := by kernel_rfl
theorem func_8 : tellsB 32 8 false = true := by kernel_rfl
theorem func_9 : tellsB 32 9 false = true := by kernel_rfl
theorem func_10 : tellsB 32 10 true = true := by kernel_rfl
theorem func_all (d : Nat) (h : d ≤ 10) : tellsB 32 d (Nat.beq d 10) = true := by
  match d, h with
  | 0, _ => exact func_0
  | 1, _ => exact func_1
  | 2, _ => exact func_2
  | 3, _ => exact func_3
  | 4, _ => exact func_4
  | 5, _ => exact func_5
  | 6, _ => exact func_6
  | 7, _ => exact func_7
  | 8, _ => exact func_8
  | 9, _ => exact func_9
  | 10, _ => exact func_10
  | m + 11, h => exact absurd h (by omega)
theorem func_tells {tb : Obj} (ht : ∀ w, Gr.TOK tb w → Holds gl0 w) : Gr.Tells tb 32 10 := fun d W hd hw => by
  have hy : Nat.ble Go.Ab.yF 32 = false := by kernel_rfl
  have hname : (Tryd.f32.name == "runtime.NumGoroutine") = false := by kernel_rfl
  refine (tell_calls (b := _) hy Tryd.func32 hname rfl (func_all d hd) (ht W hw)).mono ?_
  rintro e w' ⟨t, b, h1, h2, h3⟩
  exact ⟨t, b, h1, fun hk => h2 (by rw [hk]; rfl), h3⟩
/-- The table of blanks, as it is laid. -/
theorem tab_of {w : World} (h : Holds gl0 w) : ∃ tb, Gr.TOK tb w ∧ ∀ w', Gr.TOK tb w' → Holds gl0 w' := by
  rw [gl0_eq] at h ⊢
  obtain ⟨h1, c, ty, h2, h3⟩ := h _ (List.mem_singleton.2 rfl)
  exact ⟨_, h2, fun w' hw' q hq => by
    rw [List.mem_singleton] at hq
    subst hq
    exact ⟨h1, c, ty, hw', h3⟩⟩
end Go.Proofs.YtkpaphoeldcakaaDoor
