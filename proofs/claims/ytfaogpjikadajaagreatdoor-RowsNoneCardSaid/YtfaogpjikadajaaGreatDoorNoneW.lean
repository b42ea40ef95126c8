/- The law's call, at every operation and all values; and some closed facts. -/
import Derived.Test.YtfaogpjikadajaaGreatDoorLaw
import Derived.WalkKit
import Derived.ProofKit
import Derived.OpenShut
import Derived.Lay
import Derived.LaidOnce
namespace Go.Proofs.YtfaogpjikadajaaGreatDoor
open Go.ChangeShapes Go.WideShapes Go.ChangeAt Go.RowKit
theorem rowsNone_out : laidOutB Tryz.prog = true := by kernel_rfl
theorem rowsNone_rec0 : Tryz.prog.readableRec 35 = true := by kernel_rfl
theorem rowsNone_rec1 : Tryz.prog.readableRec 22 = true := by kernel_rfl
theorem rowsNone_lt0 : 35 < Tryz.prog.types.size := of_decide_eq_true (by kernel_rfl)
theorem rowsNone_lt1 : 22 < Tryz.prog.types.size := of_decide_eq_true (by kernel_rfl)
theorem keptBut_of {w w' : World} (h2 : w'.os = w.os) (h3 : w'.output = w.output) (h4 : ∀ i, i < w.heap.size → w'.heap[i]? = w.heap[i]?) : w.keptBut w' fun _ => False :=
  ⟨h2, h3, fun i hi => by
    rw [h4 i hi]
    cases w.heap[i]? with
    | none => rfl
    | some o => cases o <;> first | rfl | exact ⟨rfl, rfl, rfl, fun _ _ => rfl⟩ | exact .inr ⟨rfl, rfl⟩⟩
theorem rowsNone_types : Tryz.prog.cellTypes Tryz.prog.depth 35 = some [3, 9, 3, 22, 25, 9, 9, 26, 27, 28, 28, 29, 30, 31, 4, 3] := by kernel_rfl
theorem rowsNone_cells : Tryz.prog.cellsOf 35 = 16 := by kernel_rfl
set_option maxRecDepth 100000 in
theorem rowsNone_int {w : World} {b : Nat} {v : Value} (h : Cell.okWide Tryz.prog w .any b 3 v) : ∃ n, v = .int .i64 n := by
  have hu : Tryz.prog.underlying 3 = some (.int .i64) := Tryz.underlying3
  cases v <;> simp [Cell.okWide, Cell.ok, hu] at h
  rename_i k n
  obtain ⟨rfl, _⟩ := h
  exact ⟨n, rfl⟩
set_option maxRecDepth 100000 in
theorem rowsNone_runs (r : Nat) (hr : r < 13) : runsW [aw] 3 (opArg (1048576 + ((r + 250) + 512 * 7))) = true := by
  match r, hr with
  | 0, _ => exact run_0
  | 1, _ => exact run_1
  | 2, _ => exact run_2
  | 3, _ => exact run_3
  | 4, _ => exact run_4
  | 5, _ => exact run_5
  | 6, _ => exact run_6
  | 7, _ => exact run_7
  | 8, _ => exact run_8
  | 9, _ => exact run_9
  | 10, _ => exact run_10
  | 11, _ => exact run_11
  | 12, _ => exact run_12
  | m + 13, h => exact absurd h (by omega)
theorem isCell_nil {t : Nat} (h : t ≠ 9) : Go.Ab.AV.isCell (.nil t) = true := decide_eq_true h
set_option maxRecDepth 100000 in
theorem rowsNone_walk (n : Int) (l : List Value) (hl : l.length = 15) (hone : ∀ v ∈ l, v.oneCell' = true) (v1 : Value) (h1 : v1.oneCell' = true) (w : World) (h : laidMet Tryz.prog Rows.rowsNoneRow.laid w) :
    Calls Tryz.prog 3 #[.agg (.int .i64 n :: l).toArray, v1] w fun e w' => e = .returned (.bool true) ∧ w'.os = w.os ∧ w'.output = w.output ∧ ∀ i, i < w.heap.size → w'.heap[i]? = w.heap[i]? := by
  have hr : ∃ r : Nat, r < 13 ∧ n.tmod 7 = ((r + 250 : Nat) : Int) - 256 := by
    refine ⟨(n.tmod 7 + 6).toNat, ?_, ?_⟩ <;> · have := Int.tmod_lt_of_pos n (show (0 : Int) < 7 by omega); have := Int.lt_tmod_of_pos n (show (0 : Int) < 7 by omega); omega
  obtain ⟨r, hr, hn⟩ := hr
  have hop := Go.Ab.VRL_opq (Go.Ab.initE gl0) l hone
  rw [hl] at hop
  have hleft := Go.Ab.VR.left (e := Go.Ab.initE gl0) n 7 (r + 250) (by omega) hn
  have hrun := rowsNone_runs r hr
  have hcell : Go.Ab.AV.isCell (.nil (1048576 + ((r + 250) + 512 * 7))) = true := isCell_nil (by omega)
  generalize 1048576 + ((r + 250) + 512 * 7) = t at hleft hrun hcell
  have hagg : Go.Ab.VR (Go.Ab.initE gl0) (.agg (.nil t :: List.replicate 15 (.nil 8))) (.agg (.int .i64 n :: l).toArray) :=
    .agg _ _ (.cons _ _ _ _ hleft hop) (fun v hv => (List.mem_cons.1 hv).elim (fun e => by rw [e]; exact hcell) (fun hv => by rw [(List.mem_replicate.1 hv).2]; rfl))
  have hv : Go.Ab.VRL (Go.Ab.initE gl0) (opArg t) [.agg (.int .i64 n :: l).toArray, v1] := .cons _ _ _ _ hagg (.cons _ _ _ _ (.opq v1 h1) .nil)
  have hm : ("strings.asciiSpace", Rows.laid_strings_asciiSpace) ∈ Rows.rowsNoneRow.laid := by simp [Rows.rowsNoneRow]
  have hk := known_cons aw_known known_nil
  have hy : Nat.ble Go.Ab.yF 3 = false := by kernel_rfl
  have hname : (Tryz.f3.name == "runtime.NumGoroutine") = false := by kernel_rfl
  exact @lawW [aw] hk 3 Tryz.f3 _ hy Tryz.func3 hname rfl (opArg t) hrun Rows.rowsNoneRow.laid w h hm _ hv
theorem okWide_struct {P : Program} {w : World} {r : Reach} {b t : Nat} {v : Value} {fs : Array Field} (hu : P.underlying t = some (.struct fs)) (h : Value.okWide P w r b t v) : ∃ cs, v = .agg cs ∧ cs.size = P.cellsOf t ∧ Row.okWide P w r b t cs := by
  unfold Value.okWide at h
  rw [hu] at h
  exact h
theorem okWide_slc {P : Program} {w : World} {r : Reach} {b t e : Nat} {v : Value} (hu : P.underlying t = some (.slice e)) (h : Value.okWide P w r b t v) : Cell.okWide P w r b t v := by
  unfold Value.okWide at h
  rw [hu] at h
  exact h
set_option maxRecDepth 100000 in
theorem rowsNone_open {w : World} {b : Nat} {v : Value} (h : Value.okWide Tryz.prog w .any b 35 v) : ∃ (n : Int) (l : List Value), v = .agg (.int .i64 n :: l).toArray ∧ l.length = 15 ∧ ∀ u ∈ l, u.oneCell' = true := by
  obtain ⟨cs, rfl, hsz, hrow⟩ := okWide_struct Tryz.underlying35 h
  rw [rowsNone_cells] at hsz
  have hone := Go.Ab.row_one hrow
  obtain ⟨ts, ht, _, hcell⟩ := hrow
  rw [rowsNone_types] at ht
  obtain rfl := (Option.some.inj ht).symm
  obtain ⟨l0⟩ := cs
  cases l0 with
  | nil => cases hsz
  | cons c0 l =>
    obtain ⟨u, hu, hc0⟩ := hcell 0 c0 rfl
    obtain rfl : 3 = u := Option.some.inj hu
    obtain ⟨n, rfl⟩ := rowsNone_int hc0
    exact ⟨n, l, rfl, by simpa using hsz, fun u hu => hone u (List.mem_cons_of_mem _ hu)⟩

end Go.Proofs.YtfaogpjikadajaaGreatDoor
