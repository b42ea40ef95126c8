/- GenReads, by hand: part H24. -/
import Derived.Test.YtkpaphoeldcakaaDoorH23
namespace Go.Proofs.YtkpaphoeldcakaaDoor.Gr
open Go Go.Proofs Go.RowKit Go.Lib
attribute [local go_sem ↓] Go.wp_at_zero Go.wp_at_succ
theorem neq53 (k n : Int) (s : ByteArray) (w : World) : (binOp .neq 53 (.agg #[.int .u8 k, .int .i64 n, .string s]) (.agg #[.int .u8 k, .int .i64 n, .string s])).run Tryd.prog w = .ok (.bool false) w := by
  have hS : Tryd.prog.underlying 53 = some (.struct (Tryd.prog.fieldsOf 53)) := by kernel_rfl
  have hp : Tryd.prog.stoodInHeld 53 = false := by kernel_rfl
  rw [run_neq_struct, show (10000 : Nat) = 9999 + 1 from rfl, run_equalIn_agg w 9999 53 _ _ hS hp]
  simp only [Program.fieldsOf, Tryd.underlying53]
  go_simp
theorem neq58 (s : ByteArray) (b c : Bool) (w : World) : (binOp .neq 58 (.agg #[.string s, .bool b, .bool c]) (.agg #[.string s, .bool b, .bool c])).run Tryd.prog w = .ok (.bool false) w := by
  have hS : Tryd.prog.underlying 58 = some (.struct (Tryd.prog.fieldsOf 58)) := by kernel_rfl
  have hp : Tryd.prog.stoodInHeld 58 = false := by kernel_rfl
  rw [run_neq_struct, show (10000 : Nat) = 9999 + 1 from rfl, run_equalIn_agg w 9999 58 _ _ hS hp]
  simp only [Program.fieldsOf, Tryd.underlying58]
  go_simp
theorem neq73 (s : ByteArray) (b : Bool) (w : World) : (binOp .neq 73 (.agg #[.string s, .bool b]) (.agg #[.string s, .bool b])).run Tryd.prog w = .ok (.bool false) w := by
  have hS : Tryd.prog.underlying 73 = some (.struct (Tryd.prog.fieldsOf 73)) := by kernel_rfl
  have hp : Tryd.prog.stoodInHeld 73 = false := by kernel_rfl
  rw [run_neq_struct, show (10000 : Nat) = 9999 + 1 from rfl, run_equalIn_agg w 9999 73 _ _ hS hp]
  simp only [Program.fieldsOf, Tryd.underlying73]
  go_simp
theorem neq46 (o a b c d : Int) (w : World) : (binOp .neq 46 (.agg #[.int .u8 o, .int .i64 a, .int .i64 b, .int .i64 c, .int .i64 d]) (.agg #[.int .u8 o, .int .i64 a, .int .i64 b, .int .i64 c, .int .i64 d])).run Tryd.prog w = .ok (.bool false) w := by
  have hS : Tryd.prog.underlying 46 = some (.struct (Tryd.prog.fieldsOf 46)) := by kernel_rfl
  have hp : Tryd.prog.stoodInHeld 46 = false := by kernel_rfl
  rw [run_neq_struct, show (10000 : Nat) = 9999 + 1 from rfl, run_equalIn_agg w 9999 46 _ _ hS hp]
  simp only [Program.fieldsOf, Tryd.underlying46]
  go_simp
theorem neqS (y : ByteArray) (w : World) : (binOp .neq 9 (.string y) (.string y)).run Tryd.prog w = .ok (.bool false) w := by
  go_simp
set_option maxHeartbeats 2000000 in
set_option maxRecDepth 100000 in
theorem texts_any (a : Option Addr) (n c : Nat) (W : World) (h : ListAt W.heap.size ⟨a, n, c⟩ 1 (Str0 W)) (hn : n ≤ 9223372036854775807) :
    Calls Tryd.prog 17 #[.slice a n c, .slice a n c] W fun e w' => e = .returned (.bool true) ∧ Below W.heap.size W w' := by
  have H := Lib.hid h
  clear h
  go_enter Tryd.func17, Tryd.ntmps17
  go_wp2
  go_loopg [5] n (fun lft i wr => ∃ kk : Nat, kk + lft = n ∧ i = .int .i64 kk ∧ Hid (Below W.heap.size W wr))
  case atStart => exact ⟨0, by omega, rfl, Lib.hid (Below.refl _ _)⟩
  case round =>
    obtain ⟨kk, hl, rfl, hb⟩ := hrel
    by_cases hlk : kk < n
    · have hlt : ((kk : Int) < (n : Int)) = True := by simp; omega
      obtain ⟨g, o, e1, hg, y, hy⟩ := H.out kk hlk
      simp only at e1
      subst e1
      have d : wr.cell? ⟨g, o + kk, none⟩ = some (.string y) := (hb.out.cell (p := ⟨g, o + kk, none⟩) hg).trans (by rw [Nat.mul_one] at hy; exact hy)
      have hq := fun w => neqS y w
      go_wp2
      go_quiet (fail)
      go_wp2
      go_roundg (n - kk - 1)
      case measure => omega
      case rel => exact ⟨kk + 1, by omega, by first | rfl | go_num, Lib.hid (below_drewN hb.out _)⟩
    · have hlt : ((kk : Int) < (n : Int)) = False := by simp; omega
      go_wp2
      go_ret
      exact ⟨rfl, hb.out⟩
end Go.Proofs.YtkpaphoeldcakaaDoor.Gr
