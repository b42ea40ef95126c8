/- The closed facts of the row of verifyInts. -/
import Derived.Test.YtldafmcioaijkaaGreatDoorRows
import Derived.JoinedOf
import Derived.KernelRfl
theorem Go.Ab.and2_verifyInts {a b : Bool} (h : a = true) (h2 : b = true) : (a && b) = true := by rw [h, h2]; rfl
namespace Go.Proofs.YtldafmcioaijkaaGreatDoor
open Go
theorem verifyInts_fact0 : (Rows.verifyIntsRow.wf (OpenSpec.ofChange Rows.verifyIntsSpec)) = true := by kernel_rfl
theorem verifyInts_fact1 : (laidOutB Tryz.prog) = true := by kernel_rfl
theorem verifyInts_fact2 : (mapsRowed Tryz.prog) = true := by kernel_rfl
theorem verifyInts_fact3 : (Tryz.f5.params.all (Tryz.prog.readableRec ·)) = true := by kernel_rfl
theorem verifyInts_fact4 : (namedTie Tryz.prog Rows.verifyIntsRow.named Rows.verifyIntsSpec.vars) = true := by kernel_rfl
theorem verifyInts_fact5 : ((Rows.verifyIntsRow.stops == [])) = true := by kernel_rfl
theorem verifyInts_fact6 : ((Tryz.prog.stops == [])) = true := by kernel_rfl
theorem verifyInts_fact7 : ((Rows.verifyIntsRow.knobs == [])) = true := by kernel_rfl
theorem verifyInts_fact8 : ((Tryz.prog.stopKnobs == [])) = true := by kernel_rfl
theorem verifyInts_fact9 : ((Rows.verifyIntsRow.inPlace == Tryz.prog.inPlace 5)) = true := by kernel_rfl
theorem verifyInts_fact10 : ((Rows.verifyIntsRow.unfollowed == Tryz.prog.unfollowed 5)) = true := by kernel_rfl
theorem verifyInts_fact11 : ((Rows.verifyIntsRow.recurses == Tryz.prog.recurses 5)) = true := by kernel_rfl
theorem verifyInts_fact12 : ((Rows.verifyIntsRow.named == Tryz.prog.varsNamed 5)) = true := by kernel_rfl
theorem verifyInts_fact13 : ((Rows.verifyIntsRow.maps == (Tryz.f5.params.toList ++ Rows.verifyIntsSpec.plain.varTypes Tryz.prog).any (Tryz.prog.mapsRec ·))) = true := by kernel_rfl
theorem verifyInts_fact14 : ((Rows.verifyIntsRow.ifaces == (Tryz.f5.params.toList ++ Rows.verifyIntsSpec.plain.varTypes Tryz.prog).any (Tryz.prog.ifacesRec ·))) = true := by kernel_rfl
theorem verifyInts_fact15 : ((Rows.verifyIntsRow.mapsOut == Tryz.prog.mapsAmong Tryz.f5.resultTypes.toList)) = true := by kernel_rfl
theorem verifyInts_fact16 : ((Rows.verifyIntsRow.loops == (Tryz.f5.params.toList ++ Rows.verifyIntsSpec.plain.varTypes Tryz.prog).any (Tryz.prog.loopsFrom ·))) = true := by kernel_rfl
theorem verifyInts_fact17 : ((Rows.verifyIntsRow.wideKeys == (Tryz.f5.params.toList ++ Rows.verifyIntsSpec.plain.varTypes Tryz.prog ++ Tryz.f5.resultTypes.toList).any (Tryz.prog.wideKeysFrom ·))) = true := by kernel_rfl
theorem verifyInts_fact18 : (Rows.verifyIntsSpec.vars.all (Tryz.prog.varReadable ·)) = true := by kernel_rfl
theorem verifyInts_fact19 : (Tryz.f5.resultTypes.all (fun t => Tryz.prog.readableRec t && decide (t < Tryz.prog.types.size))) = true := by kernel_rfl
theorem verifyInts_fact20 : ((Rows.verifyIntsRow.ifacesOut == Tryz.f5.resultTypes.toList.any (Tryz.prog.ifacesRec ·))) = true := by kernel_rfl
theorem verifyInts_fact21 : ((Rows.verifyIntsRow.loopsOut == Tryz.f5.resultTypes.toList.any (Tryz.prog.loopsFrom ·))) = true := by kernel_rfl
theorem verifyInts_fact22 : ((Rows.verifyIntsRow.plainKeys == Tryz.prog.plainKeys)) = true := by kernel_rfl
theorem verifyInts_fact23 : (Rows.verifyIntsRow.shortTexts.isNone) = true := by kernel_rfl
theorem verifyInts_fact24 : (Tryz.prog.stopsHeard) = true := by kernel_rfl
theorem verifyInts_fact25 : (Tryz.prog.mayEnter) = true := by kernel_rfl
theorem verifyInts_fact26 : ((Rows.verifyIntsRow.lifted == Tryz.prog.liftsFinal)) = true := by kernel_rfl
theorem verifyInts_fact27 : ((Tryz.prog.make == some Rows.verifyIntsRow.make)) = true := by kernel_rfl
theorem verifyInts_fact28 : ((Rows.verifyIntsRow.kinds == (if Rows.verifyIntsRow.domain.isEmpty then [] else Tryz.f5.params.toList.map fun t => match Tryz.prog.underlying t with | some (.int k) => some k | _ => none))) = true := by kernel_rfl
theorem verifyInts_fact29 : ((Rows.verifyIntsRow.pinned == Rows.verifyIntsRow.pinnedBy)) = true := by kernel_rfl
theorem verifyInts_fact30 : ((Rows.verifyIntsRow.veiled == (Tryz.f5.params.toList ++ Rows.verifyIntsSpec.plain.varTypes Tryz.prog ++ Tryz.f5.resultTypes.toList).any (Tryz.prog.veiledRec ·))) = true := by kernel_rfl
theorem verifyInts_fact31 : (Rows.verifyIntsRow.veiledFits Tryz.prog Tryz.f5.params.toList (Tryz.f5.params.toList ++ Rows.verifyIntsSpec.plain.varTypes Tryz.prog ++ Tryz.f5.resultTypes.toList)) = true := by kernel_rfl
set_option maxRecDepth 100000 in
theorem verifyInts_facts : joinedFacts Tryz.prog 5 Tryz.f5 Rows.verifyIntsSpec Rows.verifyIntsRow = true := by
  unfold joinedFacts
  exact Go.Ab.and2_verifyInts (Go.Ab.and2_verifyInts (Go.Ab.and2_verifyInts (Go.Ab.and2_verifyInts (Go.Ab.and2_verifyInts (Go.Ab.and2_verifyInts (Go.Ab.and2_verifyInts (Go.Ab.and2_verifyInts (Go.Ab.and2_verifyInts (Go.Ab.and2_verifyInts (Go.Ab.and2_verifyInts (Go.Ab.and2_verifyInts (Go.Ab.and2_verifyInts (Go.Ab.and2_verifyInts (Go.Ab.and2_verifyInts (Go.Ab.and2_verifyInts (Go.Ab.and2_verifyInts (Go.Ab.and2_verifyInts (Go.Ab.and2_verifyInts (Go.Ab.and2_verifyInts (Go.Ab.and2_verifyInts (Go.Ab.and2_verifyInts (Go.Ab.and2_verifyInts (Go.Ab.and2_verifyInts (Go.Ab.and2_verifyInts (Go.Ab.and2_verifyInts (Go.Ab.and2_verifyInts (Go.Ab.and2_verifyInts (Go.Ab.and2_verifyInts (Go.Ab.and2_verifyInts (Go.Ab.and2_verifyInts verifyInts_fact0 verifyInts_fact1) verifyInts_fact2) verifyInts_fact3) verifyInts_fact4) verifyInts_fact5) verifyInts_fact6) verifyInts_fact7) verifyInts_fact8) verifyInts_fact9) verifyInts_fact10) verifyInts_fact11) verifyInts_fact12) verifyInts_fact13) verifyInts_fact14) verifyInts_fact15) verifyInts_fact16) verifyInts_fact17) verifyInts_fact18) verifyInts_fact19) verifyInts_fact20) verifyInts_fact21) verifyInts_fact22) verifyInts_fact23) verifyInts_fact24) verifyInts_fact25) verifyInts_fact26) verifyInts_fact27) verifyInts_fact28) verifyInts_fact29) verifyInts_fact30) verifyInts_fact31
end Go.Proofs.YtldafmcioaijkaaGreatDoor
