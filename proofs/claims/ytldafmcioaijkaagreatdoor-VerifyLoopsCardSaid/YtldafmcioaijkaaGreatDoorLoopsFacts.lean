/- The closed facts of the row of verifyLoops. -/
import Derived.Test.YtldafmcioaijkaaGreatDoorRows
import Derived.JoinedOf
import Derived.KernelRfl
theorem Go.Ab.and2_verifyLoops {a b : Bool} (h : a = true) (h2 : b = true) : (a && b) = true := by rw [h, h2]; rfl
namespace Go.Proofs.YtldafmcioaijkaaGreatDoor
open Go
theorem verifyLoops_fact0 : (Rows.verifyLoopsRow.wf (OpenSpec.ofChange Rows.verifyLoopsSpec)) = true := by kernel_rfl
theorem verifyLoops_fact1 : (laidOutB Tryz.prog) = true := by kernel_rfl
theorem verifyLoops_fact2 : (mapsRowed Tryz.prog) = true := by kernel_rfl
theorem verifyLoops_fact3 : (Tryz.f3.params.all (Tryz.prog.readableRec ·)) = true := by kernel_rfl
theorem verifyLoops_fact4 : (namedTie Tryz.prog Rows.verifyLoopsRow.named Rows.verifyLoopsSpec.vars) = true := by kernel_rfl
theorem verifyLoops_fact5 : ((Rows.verifyLoopsRow.stops == [])) = true := by kernel_rfl
theorem verifyLoops_fact6 : ((Tryz.prog.stops == [])) = true := by kernel_rfl
theorem verifyLoops_fact7 : ((Rows.verifyLoopsRow.knobs == [])) = true := by kernel_rfl
theorem verifyLoops_fact8 : ((Tryz.prog.stopKnobs == [])) = true := by kernel_rfl
theorem verifyLoops_fact9 : ((Rows.verifyLoopsRow.inPlace == Tryz.prog.inPlace 3)) = true := by kernel_rfl
theorem verifyLoops_fact10 : ((Rows.verifyLoopsRow.unfollowed == Tryz.prog.unfollowed 3)) = true := by kernel_rfl
theorem verifyLoops_fact11 : ((Rows.verifyLoopsRow.recurses == Tryz.prog.recurses 3)) = true := by kernel_rfl
theorem verifyLoops_fact12 : ((Rows.verifyLoopsRow.named == Tryz.prog.varsNamed 3)) = true := by kernel_rfl
theorem verifyLoops_fact13 : ((Rows.verifyLoopsRow.maps == (Tryz.f3.params.toList ++ Rows.verifyLoopsSpec.plain.varTypes Tryz.prog).any (Tryz.prog.mapsRec ·))) = true := by kernel_rfl
theorem verifyLoops_fact14 : ((Rows.verifyLoopsRow.ifaces == (Tryz.f3.params.toList ++ Rows.verifyLoopsSpec.plain.varTypes Tryz.prog).any (Tryz.prog.ifacesRec ·))) = true := by kernel_rfl
theorem verifyLoops_fact15 : ((Rows.verifyLoopsRow.mapsOut == Tryz.prog.mapsAmong Tryz.f3.resultTypes.toList)) = true := by kernel_rfl
theorem verifyLoops_fact16 : ((Rows.verifyLoopsRow.loops == (Tryz.f3.params.toList ++ Rows.verifyLoopsSpec.plain.varTypes Tryz.prog).any (Tryz.prog.loopsFrom ·))) = true := by kernel_rfl
theorem verifyLoops_fact17 : ((Rows.verifyLoopsRow.wideKeys == (Tryz.f3.params.toList ++ Rows.verifyLoopsSpec.plain.varTypes Tryz.prog ++ Tryz.f3.resultTypes.toList).any (Tryz.prog.wideKeysFrom ·))) = true := by kernel_rfl
theorem verifyLoops_fact18 : (Rows.verifyLoopsSpec.vars.all (Tryz.prog.varReadable ·)) = true := by kernel_rfl
theorem verifyLoops_fact19 : (Tryz.f3.resultTypes.all (fun t => Tryz.prog.readableRec t && decide (t < Tryz.prog.types.size))) = true := by kernel_rfl
theorem verifyLoops_fact20 : ((Rows.verifyLoopsRow.ifacesOut == Tryz.f3.resultTypes.toList.any (Tryz.prog.ifacesRec ·))) = true := by kernel_rfl
theorem verifyLoops_fact21 : ((Rows.verifyLoopsRow.loopsOut == Tryz.f3.resultTypes.toList.any (Tryz.prog.loopsFrom ·))) = true := by kernel_rfl
theorem verifyLoops_fact22 : ((Rows.verifyLoopsRow.plainKeys == Tryz.prog.plainKeys)) = true := by kernel_rfl
theorem verifyLoops_fact23 : (Rows.verifyLoopsRow.shortTexts.isNone) = true := by kernel_rfl
theorem verifyLoops_fact24 : (Tryz.prog.stopsHeard) = true := by kernel_rfl
theorem verifyLoops_fact25 : (Tryz.prog.mayEnter) = true := by kernel_rfl
theorem verifyLoops_fact26 : ((Rows.verifyLoopsRow.lifted == Tryz.prog.liftsFinal)) = true := by kernel_rfl
theorem verifyLoops_fact27 : ((Tryz.prog.make == some Rows.verifyLoopsRow.make)) = true := by kernel_rfl
theorem verifyLoops_fact28 : ((Rows.verifyLoopsRow.kinds == (if Rows.verifyLoopsRow.domain.isEmpty then [] else Tryz.f3.params.toList.map fun t => match Tryz.prog.underlying t with | some (.int k) => some k | _ => none))) = true := by kernel_rfl
theorem verifyLoops_fact29 : ((Rows.verifyLoopsRow.pinned == Rows.verifyLoopsRow.pinnedBy)) = true := by kernel_rfl
theorem verifyLoops_fact30 : ((Rows.verifyLoopsRow.veiled == (Tryz.f3.params.toList ++ Rows.verifyLoopsSpec.plain.varTypes Tryz.prog ++ Tryz.f3.resultTypes.toList).any (Tryz.prog.veiledRec ·))) = true := by kernel_rfl
theorem verifyLoops_fact31 : (Rows.verifyLoopsRow.veiledFits Tryz.prog Tryz.f3.params.toList (Tryz.f3.params.toList ++ Rows.verifyLoopsSpec.plain.varTypes Tryz.prog ++ Tryz.f3.resultTypes.toList)) = true := by kernel_rfl
set_option maxRecDepth 100000 in
theorem verifyLoops_facts : joinedFacts Tryz.prog 3 Tryz.f3 Rows.verifyLoopsSpec Rows.verifyLoopsRow = true := by
  unfold joinedFacts
  exact Go.Ab.and2_verifyLoops (Go.Ab.and2_verifyLoops (Go.Ab.and2_verifyLoops (Go.Ab.and2_verifyLoops (Go.Ab.and2_verifyLoops (Go.Ab.and2_verifyLoops (Go.Ab.and2_verifyLoops (Go.Ab.and2_verifyLoops (Go.Ab.and2_verifyLoops (Go.Ab.and2_verifyLoops (Go.Ab.and2_verifyLoops (Go.Ab.and2_verifyLoops (Go.Ab.and2_verifyLoops (Go.Ab.and2_verifyLoops (Go.Ab.and2_verifyLoops (Go.Ab.and2_verifyLoops (Go.Ab.and2_verifyLoops (Go.Ab.and2_verifyLoops (Go.Ab.and2_verifyLoops (Go.Ab.and2_verifyLoops (Go.Ab.and2_verifyLoops (Go.Ab.and2_verifyLoops (Go.Ab.and2_verifyLoops (Go.Ab.and2_verifyLoops (Go.Ab.and2_verifyLoops (Go.Ab.and2_verifyLoops (Go.Ab.and2_verifyLoops (Go.Ab.and2_verifyLoops (Go.Ab.and2_verifyLoops (Go.Ab.and2_verifyLoops (Go.Ab.and2_verifyLoops verifyLoops_fact0 verifyLoops_fact1) verifyLoops_fact2) verifyLoops_fact3) verifyLoops_fact4) verifyLoops_fact5) verifyLoops_fact6) verifyLoops_fact7) verifyLoops_fact8) verifyLoops_fact9) verifyLoops_fact10) verifyLoops_fact11) verifyLoops_fact12) verifyLoops_fact13) verifyLoops_fact14) verifyLoops_fact15) verifyLoops_fact16) verifyLoops_fact17) verifyLoops_fact18) verifyLoops_fact19) verifyLoops_fact20) verifyLoops_fact21) verifyLoops_fact22) verifyLoops_fact23) verifyLoops_fact24) verifyLoops_fact25) verifyLoops_fact26) verifyLoops_fact27) verifyLoops_fact28) verifyLoops_fact29) verifyLoops_fact30) verifyLoops_fact31
end Go.Proofs.YtldafmcioaijkaaGreatDoor
