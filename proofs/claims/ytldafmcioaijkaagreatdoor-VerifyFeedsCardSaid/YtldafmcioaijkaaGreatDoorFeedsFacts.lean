/- The closed facts of the row of verifyFeeds. -/
import Derived.Test.YtldafmcioaijkaaGreatDoorRows
import Derived.JoinedOf
import Derived.KernelRfl
theorem Go.Ab.and2_verifyFeeds {a b : Bool} (h : a = true) (h2 : b = true) : (a && b) = true := by rw [h, h2]; rfl
namespace Go.Proofs.YtldafmcioaijkaaGreatDoor
open Go
theorem verifyFeeds_fact0 : (Rows.verifyFeedsRow.wf (OpenSpec.ofChange Rows.verifyFeedsSpec)) = true := by kernel_rfl
theorem verifyFeeds_fact1 : (laidOutB Tryz.prog) = true := by kernel_rfl
theorem verifyFeeds_fact2 : (mapsRowed Tryz.prog) = true := by kernel_rfl
theorem verifyFeeds_fact3 : (Tryz.f4.params.all (Tryz.prog.readableRec ·)) = true := by kernel_rfl
theorem verifyFeeds_fact4 : (namedTie Tryz.prog Rows.verifyFeedsRow.named Rows.verifyFeedsSpec.vars) = true := by kernel_rfl
theorem verifyFeeds_fact5 : ((Rows.verifyFeedsRow.stops == [])) = true := by kernel_rfl
theorem verifyFeeds_fact6 : ((Tryz.prog.stops == [])) = true := by kernel_rfl
theorem verifyFeeds_fact7 : ((Rows.verifyFeedsRow.knobs == [])) = true := by kernel_rfl
theorem verifyFeeds_fact8 : ((Tryz.prog.stopKnobs == [])) = true := by kernel_rfl
theorem verifyFeeds_fact9 : ((Rows.verifyFeedsRow.inPlace == Tryz.prog.inPlace 4)) = true := by kernel_rfl
theorem verifyFeeds_fact10 : ((Rows.verifyFeedsRow.unfollowed == Tryz.prog.unfollowed 4)) = true := by kernel_rfl
theorem verifyFeeds_fact11 : ((Rows.verifyFeedsRow.recurses == Tryz.prog.recurses 4)) = true := by kernel_rfl
theorem verifyFeeds_fact12 : ((Rows.verifyFeedsRow.named == Tryz.prog.varsNamed 4)) = true := by kernel_rfl
theorem verifyFeeds_fact13 : ((Rows.verifyFeedsRow.maps == (Tryz.f4.params.toList ++ Rows.verifyFeedsSpec.plain.varTypes Tryz.prog).any (Tryz.prog.mapsRec ·))) = true := by kernel_rfl
theorem verifyFeeds_fact14 : ((Rows.verifyFeedsRow.ifaces == (Tryz.f4.params.toList ++ Rows.verifyFeedsSpec.plain.varTypes Tryz.prog).any (Tryz.prog.ifacesRec ·))) = true := by kernel_rfl
theorem verifyFeeds_fact15 : ((Rows.verifyFeedsRow.mapsOut == Tryz.prog.mapsAmong Tryz.f4.resultTypes.toList)) = true := by kernel_rfl
theorem verifyFeeds_fact16 : ((Rows.verifyFeedsRow.loops == (Tryz.f4.params.toList ++ Rows.verifyFeedsSpec.plain.varTypes Tryz.prog).any (Tryz.prog.loopsFrom ·))) = true := by kernel_rfl
theorem verifyFeeds_fact17 : ((Rows.verifyFeedsRow.wideKeys == (Tryz.f4.params.toList ++ Rows.verifyFeedsSpec.plain.varTypes Tryz.prog ++ Tryz.f4.resultTypes.toList).any (Tryz.prog.wideKeysFrom ·))) = true := by kernel_rfl
theorem verifyFeeds_fact18 : (Rows.verifyFeedsSpec.vars.all (Tryz.prog.varReadable ·)) = true := by kernel_rfl
theorem verifyFeeds_fact19 : (Tryz.f4.resultTypes.all (fun t => Tryz.prog.readableRec t && decide (t < Tryz.prog.types.size))) = true := by kernel_rfl
theorem verifyFeeds_fact20 : ((Rows.verifyFeedsRow.ifacesOut == Tryz.f4.resultTypes.toList.any (Tryz.prog.ifacesRec ·))) = true := by kernel_rfl
theorem verifyFeeds_fact21 : ((Rows.verifyFeedsRow.loopsOut == Tryz.f4.resultTypes.toList.any (Tryz.prog.loopsFrom ·))) = true := by kernel_rfl
theorem verifyFeeds_fact22 : ((Rows.verifyFeedsRow.plainKeys == Tryz.prog.plainKeys)) = true := by kernel_rfl
theorem verifyFeeds_fact23 : (Rows.verifyFeedsRow.shortTexts.isNone) = true := by kernel_rfl
theorem verifyFeeds_fact24 : (Tryz.prog.stopsHeard) = true := by kernel_rfl
theorem verifyFeeds_fact25 : (Tryz.prog.mayEnter) = true := by kernel_rfl
theorem verifyFeeds_fact26 : ((Rows.verifyFeedsRow.lifted == Tryz.prog.liftsFinal)) = true := by kernel_rfl
theorem verifyFeeds_fact27 : ((Tryz.prog.make == some Rows.verifyFeedsRow.make)) = true := by kernel_rfl
theorem verifyFeeds_fact28 : ((Rows.verifyFeedsRow.kinds == (if Rows.verifyFeedsRow.domain.isEmpty then [] else Tryz.f4.params.toList.map fun t => match Tryz.prog.underlying t with | some (.int k) => some k | _ => none))) = true := by kernel_rfl
theorem verifyFeeds_fact29 : ((Rows.verifyFeedsRow.pinned == Rows.verifyFeedsRow.pinnedBy)) = true := by kernel_rfl
theorem verifyFeeds_fact30 : ((Rows.verifyFeedsRow.veiled == (Tryz.f4.params.toList ++ Rows.verifyFeedsSpec.plain.varTypes Tryz.prog ++ Tryz.f4.resultTypes.toList).any (Tryz.prog.veiledRec ·))) = true := by kernel_rfl
theorem verifyFeeds_fact31 : (Rows.verifyFeedsRow.veiledFits Tryz.prog Tryz.f4.params.toList (Tryz.f4.params.toList ++ Rows.verifyFeedsSpec.plain.varTypes Tryz.prog ++ Tryz.f4.resultTypes.toList)) = true := by kernel_rfl
set_option maxRecDepth 100000 in
theorem verifyFeeds_facts : joinedFacts Tryz.prog 4 Tryz.f4 Rows.verifyFeedsSpec Rows.verifyFeedsRow = true := by
  unfold joinedFacts
  exact Go.Ab.and2_verifyFeeds (Go.Ab.and2_verifyFeeds (Go.Ab.and2_verifyFeeds (Go.Ab.and2_verifyFeeds (Go.Ab.and2_verifyFeeds (Go.Ab.and2_verifyFeeds (Go.Ab.and2_verifyFeeds (Go.Ab.and2_verifyFeeds (Go.Ab.and2_verifyFeeds (Go.Ab.and2_verifyFeeds (Go.Ab.and2_verifyFeeds (Go.Ab.and2_verifyFeeds (Go.Ab.and2_verifyFeeds (Go.Ab.and2_verifyFeeds (Go.Ab.and2_verifyFeeds (Go.Ab.and2_verifyFeeds (Go.Ab.and2_verifyFeeds (Go.Ab.and2_verifyFeeds (Go.Ab.and2_verifyFeeds (Go.Ab.and2_verifyFeeds (Go.Ab.and2_verifyFeeds (Go.Ab.and2_verifyFeeds (Go.Ab.and2_verifyFeeds (Go.Ab.and2_verifyFeeds (Go.Ab.and2_verifyFeeds (Go.Ab.and2_verifyFeeds (Go.Ab.and2_verifyFeeds (Go.Ab.and2_verifyFeeds (Go.Ab.and2_verifyFeeds (Go.Ab.and2_verifyFeeds (Go.Ab.and2_verifyFeeds verifyFeeds_fact0 verifyFeeds_fact1) verifyFeeds_fact2) verifyFeeds_fact3) verifyFeeds_fact4) verifyFeeds_fact5) verifyFeeds_fact6) verifyFeeds_fact7) verifyFeeds_fact8) verifyFeeds_fact9) verifyFeeds_fact10) verifyFeeds_fact11) verifyFeeds_fact12) verifyFeeds_fact13) verifyFeeds_fact14) verifyFeeds_fact15) verifyFeeds_fact16) verifyFeeds_fact17) verifyFeeds_fact18) verifyFeeds_fact19) verifyFeeds_fact20) verifyFeeds_fact21) verifyFeeds_fact22) verifyFeeds_fact23) verifyFeeds_fact24) verifyFeeds_fact25) verifyFeeds_fact26) verifyFeeds_fact27) verifyFeeds_fact28) verifyFeeds_fact29) verifyFeeds_fact30) verifyFeeds_fact31
end Go.Proofs.YtldafmcioaijkaaGreatDoor
