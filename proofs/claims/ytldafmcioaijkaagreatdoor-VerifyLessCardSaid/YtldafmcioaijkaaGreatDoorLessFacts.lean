/- The closed facts of the row of verifyLess. -/
import Derived.Test.YtldafmcioaijkaaGreatDoorRows
import Derived.JoinedOf
import Derived.KernelRfl
theorem Go.Ab.and2_verifyLess {a b : Bool} (h : a = true) (h2 : b = true) : (a && b) = true := by rw [h, h2]; rfl
namespace Go.Proofs.YtldafmcioaijkaaGreatDoor
open Go
theorem verifyLess_fact0 : (Rows.verifyLessRow.wf (OpenSpec.ofChange Rows.verifyLessSpec)) = true := by kernel_rfl
theorem verifyLess_fact1 : (laidOutB Tryz.prog) = true := by kernel_rfl
theorem verifyLess_fact2 : (mapsRowed Tryz.prog) = true := by kernel_rfl
theorem verifyLess_fact3 : (Tryz.f6.params.all (Tryz.prog.readableRec ·)) = true := by kernel_rfl
theorem verifyLess_fact4 : (namedTie Tryz.prog Rows.verifyLessRow.named Rows.verifyLessSpec.vars) = true := by kernel_rfl
theorem verifyLess_fact5 : ((Rows.verifyLessRow.stops == [])) = true := by kernel_rfl
theorem verifyLess_fact6 : ((Tryz.prog.stops == [])) = true := by kernel_rfl
theorem verifyLess_fact7 : ((Rows.verifyLessRow.knobs == [])) = true := by kernel_rfl
theorem verifyLess_fact8 : ((Tryz.prog.stopKnobs == [])) = true := by kernel_rfl
theorem verifyLess_fact9 : ((Rows.verifyLessRow.inPlace == Tryz.prog.inPlace 6)) = true := by kernel_rfl
theorem verifyLess_fact10 : ((Rows.verifyLessRow.unfollowed == Tryz.prog.unfollowed 6)) = true := by kernel_rfl
theorem verifyLess_fact11 : ((Rows.verifyLessRow.recurses == Tryz.prog.recurses 6)) = true := by kernel_rfl
theorem verifyLess_fact12 : ((Rows.verifyLessRow.named == Tryz.prog.varsNamed 6)) = true := by kernel_rfl
theorem verifyLess_fact13 : ((Rows.verifyLessRow.maps == (Tryz.f6.params.toList ++ Rows.verifyLessSpec.plain.varTypes Tryz.prog).any (Tryz.prog.mapsRec ·))) = true := by kernel_rfl
theorem verifyLess_fact14 : ((Rows.verifyLessRow.ifaces == (Tryz.f6.params.toList ++ Rows.verifyLessSpec.plain.varTypes Tryz.prog).any (Tryz.prog.ifacesRec ·))) = true := by kernel_rfl
theorem verifyLess_fact15 : ((Rows.verifyLessRow.mapsOut == Tryz.prog.mapsAmong Tryz.f6.resultTypes.toList)) = true := by kernel_rfl
theorem verifyLess_fact16 : ((Rows.verifyLessRow.loops == (Tryz.f6.params.toList ++ Rows.verifyLessSpec.plain.varTypes Tryz.prog).any (Tryz.prog.loopsFrom ·))) = true := by kernel_rfl
theorem verifyLess_fact17 : ((Rows.verifyLessRow.wideKeys == (Tryz.f6.params.toList ++ Rows.verifyLessSpec.plain.varTypes Tryz.prog ++ Tryz.f6.resultTypes.toList).any (Tryz.prog.wideKeysFrom ·))) = true := by kernel_rfl
theorem verifyLess_fact18 : (Rows.verifyLessSpec.vars.all (Tryz.prog.varReadable ·)) = true := by kernel_rfl
theorem verifyLess_fact19 : (Tryz.f6.resultTypes.all (fun t => Tryz.prog.readableRec t && decide (t < Tryz.prog.types.size))) = true := by kernel_rfl
theorem verifyLess_fact20 : ((Rows.verifyLessRow.ifacesOut == Tryz.f6.resultTypes.toList.any (Tryz.prog.ifacesRec ·))) = true := by kernel_rfl
theorem verifyLess_fact21 : ((Rows.verifyLessRow.loopsOut == Tryz.f6.resultTypes.toList.any (Tryz.prog.loopsFrom ·))) = true := by kernel_rfl
theorem verifyLess_fact22 : ((Rows.verifyLessRow.plainKeys == Tryz.prog.plainKeys)) = true := by kernel_rfl
theorem verifyLess_fact23 : (Rows.verifyLessRow.shortTexts.isNone) = true := by kernel_rfl
theorem verifyLess_fact24 : (Tryz.prog.stopsHeard) = true := by kernel_rfl
theorem verifyLess_fact25 : (Tryz.prog.mayEnter) = true := by kernel_rfl
theorem verifyLess_fact26 : ((Rows.verifyLessRow.lifted == Tryz.prog.liftsFinal)) = true := by kernel_rfl
theorem verifyLess_fact27 : ((Tryz.prog.make == some Rows.verifyLessRow.make)) = true := by kernel_rfl
theorem verifyLess_fact28 : ((Rows.verifyLessRow.kinds == (if Rows.verifyLessRow.domain.isEmpty then [] else Tryz.f6.params.toList.map fun t => match Tryz.prog.underlying t with | some (.int k) => some k | _ => none))) = true := by kernel_rfl
theorem verifyLess_fact29 : ((Rows.verifyLessRow.pinned == Rows.verifyLessRow.pinnedBy)) = true := by kernel_rfl
theorem verifyLess_fact30 : ((Rows.verifyLessRow.veiled == (Tryz.f6.params.toList ++ Rows.verifyLessSpec.plain.varTypes Tryz.prog ++ Tryz.f6.resultTypes.toList).any (Tryz.prog.veiledRec ·))) = true := by kernel_rfl
theorem verifyLess_fact31 : (Rows.verifyLessRow.veiledFits Tryz.prog Tryz.f6.params.toList (Tryz.f6.params.toList ++ Rows.verifyLessSpec.plain.varTypes Tryz.prog ++ Tryz.f6.resultTypes.toList)) = true := by kernel_rfl
set_option maxRecDepth 100000 in
theorem verifyLess_facts : joinedFacts Tryz.prog 6 Tryz.f6 Rows.verifyLessSpec Rows.verifyLessRow = true := by
  unfold joinedFacts
  exact Go.Ab.and2_verifyLess (Go.Ab.and2_verifyLess (Go.Ab.and2_verifyLess (Go.Ab.and2_verifyLess (Go.Ab.and2_verifyLess (Go.Ab.and2_verifyLess (Go.Ab.and2_verifyLess (Go.Ab.and2_verifyLess (Go.Ab.and2_verifyLess (Go.Ab.and2_verifyLess (Go.Ab.and2_verifyLess (Go.Ab.and2_verifyLess (Go.Ab.and2_verifyLess (Go.Ab.and2_verifyLess (Go.Ab.and2_verifyLess (Go.Ab.and2_verifyLess (Go.Ab.and2_verifyLess (Go.Ab.and2_verifyLess (Go.Ab.and2_verifyLess (Go.Ab.and2_verifyLess (Go.Ab.and2_verifyLess (Go.Ab.and2_verifyLess (Go.Ab.and2_verifyLess (Go.Ab.and2_verifyLess (Go.Ab.and2_verifyLess (Go.Ab.and2_verifyLess (Go.Ab.and2_verifyLess (Go.Ab.and2_verifyLess (Go.Ab.and2_verifyLess (Go.Ab.and2_verifyLess (Go.Ab.and2_verifyLess verifyLess_fact0 verifyLess_fact1) verifyLess_fact2) verifyLess_fact3) verifyLess_fact4) verifyLess_fact5) verifyLess_fact6) verifyLess_fact7) verifyLess_fact8) verifyLess_fact9) verifyLess_fact10) verifyLess_fact11) verifyLess_fact12) verifyLess_fact13) verifyLess_fact14) verifyLess_fact15) verifyLess_fact16) verifyLess_fact17) verifyLess_fact18) verifyLess_fact19) verifyLess_fact20) verifyLess_fact21) verifyLess_fact22) verifyLess_fact23) verifyLess_fact24) verifyLess_fact25) verifyLess_fact26) verifyLess_fact27) verifyLess_fact28) verifyLess_fact29) verifyLess_fact30) verifyLess_fact31
end Go.Proofs.YtldafmcioaijkaaGreatDoor
