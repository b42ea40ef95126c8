/- GenReads, by hand: part H8. -/
import Derived.Test.YtkpaphoeldcakaaDoorH7
namespace Go.Proofs.YtkpaphoeldcakaaDoor.Gr
open Go Go.Proofs Go.RowKit Go.Lib
set_option maxHeartbeats 1000000 in
set_option maxRecDepth 100000 in
theorem flag_any (b : Bool) (w : World) : Calls Tryd.prog 29 #[.bool b] w fun e w' => (∃ r : Int, e = .returned (.int .i64 r)) ∧ w = w' := by
  cases b <;>
  · go_enter Tryd.func29, Tryd.ntmps29
    go_wp2
    go_ret
    exact ⟨⟨_, rfl⟩, rfl⟩
/-- The library's table of blanks stands in block 0. -/
def TOK (tb : Obj) (w : World) : Prop := w.heap[0]? = some tb
theorem TOK.on {tb : Obj} {w w' : World} {B : Nat} (h : TOK tb w) (hb : Below B w w') (hB : 0 < B) : TOK tb w' := (hb.block 0 hB).trans h
theorem TOK.lt {tb : Obj} {w : World} (h : TOK tb w) : 0 < w.heap.size := (Array.getElem?_eq_some_iff.1 h).1
/-- A table of words: told at each place up to k, at which there is none. -/
def Tells (tb : Obj) (f k : Nat) : Prop := ∀ (d : Nat) (W : World), d ≤ k → TOK tb W → Calls Tryd.prog f #[.int .i64 d] W fun e w' => ∃ t b, e = .returned (.tuple #[.string t, .bool b]) ∧ (d = k → b = false) ∧ Below W.heap.size W w'
set_option maxHeartbeats 1000000 in
set_option maxRecDepth 100000 in
theorem number_sign {tb : Obj} (hT : Tells tb 31 15) (s : ByteArray) (w : World) (hw : TOK tb w) :
    Calls Tryd.prog 30 #[.string s, .func (.func 31) #[] #[]] w fun e w' => (∃ r : Int, e = .returned (.int .i64 r)) ∧ Below w.heap.size w w' := by
  go_enter Tryd.func30, Tryd.ntmps30
  go_wp2
  go_loopw [5] (fun i wr => ∃ d : Nat, d ≤ 15 ∧ i = .int .i64 d ∧ Below w.heap.size w wr) (fun i _ => 15 - (RowKit.intOf i).toNat)
  case atStart => exact ⟨0, by omega, rfl, Below.refl _ _⟩
  case round =>
    obtain ⟨d, hd, rfl, hb⟩ := hrel
    go_wp2_with (first | (go_at_call 31; refine (hT d _ hd (hw.on hb hw.lt)).mono ?_; rintro e w2 ⟨t, b, rfl, hb1, hb2⟩))
    · go_ret
      exact ⟨⟨_, rfl⟩, hb.trans (hb2.mono hb.size)⟩
    · go_ret
      exact ⟨⟨_, rfl⟩, hb.trans (hb2.mono hb.size)⟩
    · rename_i hnb _
      have hd2 : d ≠ 15 := fun e => by simp [hb1 e] at hnb
      exact ⟨⟨d + 1, by omega, by go_num, hb.trans (hb2.mono hb.size)⟩, by simp [RowKit.intOf]; omega⟩
set_option maxHeartbeats 1000000 in
set_option maxRecDepth 100000 in
theorem number_func {tb : Obj} (hT : Tells tb 32 10) (s : ByteArray) (w : World) (hw : TOK tb w) :
    Calls Tryd.prog 30 #[.string s, .func (.func 32) #[] #[]] w fun e w' => (∃ r : Int, e = .returned (.int .i64 r)) ∧ Below w.heap.size w w' := by
  go_enter Tryd.func30, Tryd.ntmps30
  go_wp2
  go_loopw [5] (fun i wr => ∃ d : Nat, d ≤ 10 ∧ i = .int .i64 d ∧ Below w.heap.size w wr) (fun i _ => 10 - (RowKit.intOf i).toNat)
  case atStart => exact ⟨0, by omega, rfl, Below.refl _ _⟩
  case round =>
    obtain ⟨d, hd, rfl, hb⟩ := hrel
    go_wp2_with (first | (go_at_call 32; refine (hT d _ hd (hw.on hb hw.lt)).mono ?_; rintro e w2 ⟨t, b, rfl, hb1, hb2⟩))
    · go_ret
      exact ⟨⟨_, rfl⟩, hb.trans (hb2.mono hb.size)⟩
    · go_ret
      exact ⟨⟨_, rfl⟩, hb.trans (hb2.mono hb.size)⟩
    · rename_i hnb _
      have hd2 : d ≠ 10 := fun e => by simp [hb1 e] at hnb
      exact ⟨⟨d + 1, by omega, by go_num, hb.trans (hb2.mono hb.size)⟩, by simp [RowKit.intOf]; omega⟩
end Go.Proofs.YtkpaphoeldcakaaDoor.Gr
