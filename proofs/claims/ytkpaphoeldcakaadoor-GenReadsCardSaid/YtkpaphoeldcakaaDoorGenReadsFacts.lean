/- The closed facts of the row of GenReads. -/
import Derived.Test.YtkpaphoeldcakaaDoorRows
import Derived.JoinedOf
import Derived.KernelRfl
import GoSem.ClaimLaidByText
import GoSem.ClaimSeven
import GoSem.ClaimGoes
import GoSem.ClaimWrapper
namespace Go.Proofs.YtkpaphoeldcakaaDoor
open Go
theorem and2_genReads {a b : Bool} (h : a = true) (h2 : b = true) : (a && b) = true := by rw [h, h2]; rfl
theorem genReads_fact0 : (Rows.genReadsRow.wf (OpenSpec.ofChange Rows.genReadsSpec)) = true := by kernel_rfl
theorem genReads_fact1 : (laidOutB Tryd.prog) = true := by kernel_rfl
theorem genReads_fact2 : (mapsRowed Tryd.prog) = true := by kernel_rfl
theorem genReads_fact3 : (Tryd.f3.params.all (Tryd.prog.readableRec ·)) = true := by kernel_rfl
theorem genReads_fact4 : (namedTie Tryd.prog Rows.genReadsRow.named Rows.genReadsSpec.vars) = true := by kernel_rfl
theorem genReads_fact5 : ((Rows.genReadsRow.stops == [])) = true := by kernel_rfl
theorem genReads_fact6 : ((Tryd.prog.stops == [])) = true := by kernel_rfl
theorem genReads_fact7 : ((Rows.genReadsRow.knobs == [])) = true := by kernel_rfl
theorem genReads_fact8 : ((Tryd.prog.stopKnobs == [])) = true := by kernel_rfl
theorem genReads_fact9 : ((Rows.genReadsRow.inPlace == Tryd.prog.inPlace 3)) = true := by kernel_rfl
theorem genReads_fact10 : ((Rows.genReadsRow.unfollowed == Tryd.prog.unfollowed 3)) = true := by kernel_rfl
theorem genReads_fact11 : ((Rows.genReadsRow.recurses == Tryd.prog.recurses 3)) = true := by kernel_rfl
theorem genReads_fact12 : ((Rows.genReadsRow.named == Tryd.prog.varsNamed 3)) = true := by kernel_rfl
theorem genReads_fact13 : ((Rows.genReadsRow.maps == (Tryd.f3.params.toList ++ Rows.genReadsSpec.plain.varTypes Tryd.prog).any (Tryd.prog.mapsRec ·))) = true := by kernel_rfl
theorem genReads_fact14 : ((Rows.genReadsRow.ifaces == (Tryd.f3.params.toList ++ Rows.genReadsSpec.plain.varTypes Tryd.prog).any (Tryd.prog.ifacesRec ·))) = true := by kernel_rfl
theorem genReads_fact15 : ((Rows.genReadsRow.mapsOut == Tryd.prog.mapsAmong Tryd.f3.resultTypes.toList)) = true := by kernel_rfl
theorem genReads_fact16 : ((Rows.genReadsRow.loops == (Tryd.f3.params.toList ++ Rows.genReadsSpec.plain.varTypes Tryd.prog).any (Tryd.prog.loopsFrom ·))) = true := by kernel_rfl
theorem genReads_fact17 : ((Rows.genReadsRow.wideKeys == (Tryd.f3.params.toList ++ Rows.genReadsSpec.plain.varTypes Tryd.prog ++ Tryd.f3.resultTypes.toList).any (Tryd.prog.wideKeysFrom ·))) = true := by kernel_rfl
theorem genReads_fact18 : (Rows.genReadsSpec.vars.all (Tryd.prog.varReadable ·)) = true := by kernel_rfl
theorem genReads_fact19 : (Tryd.f3.resultTypes.all (fun t => Tryd.prog.readableRec t && decide (t < Tryd.prog.types.size))) = true := by kernel_rfl
theorem genReads_fact20 : ((Rows.genReadsRow.ifacesOut == Tryd.f3.resultTypes.toList.any (Tryd.prog.ifacesRec ·))) = true := by kernel_rfl
theorem genReads_fact21 : ((Rows.genReadsRow.loopsOut == Tryd.f3.resultTypes.toList.any (Tryd.prog.loopsFrom ·))) = true := by kernel_rfl
theorem genReads_fact22 : ((Rows.genReadsRow.plainKeys == Tryd.prog.plainKeys)) = true := by kernel_rfl
theorem genReads_fact23 : (Rows.genReadsRow.shortTexts.isNone) = true := by kernel_rfl
theorem genReads_fact24 : (Tryd.prog.stopsHeard) = true := by kernel_rfl
theorem genReads_fact25 : (Tryd.prog.mayEnter) = true := by kernel_rfl
theorem genReads_fact26 : ((Rows.genReadsRow.lifted == Tryd.prog.liftsFinal)) = true := by kernel_rfl
theorem genReads_fact27 : ((Tryd.prog.make == some Rows.genReadsRow.make)) = true := by kernel_rfl
theorem genReads_fact28 : ((Rows.genReadsRow.kinds == (if Rows.genReadsRow.domain.isEmpty then [] else Tryd.f3.params.toList.map fun t => match Tryd.prog.underlying t with | some (.int k) => some k | _ => none))) = true := by kernel_rfl
theorem genReads_fact29 : ((Rows.genReadsRow.pinned == Rows.genReadsRow.pinnedBy)) = true := by kernel_rfl
theorem genReads_fact30 : ((Rows.genReadsRow.veiled == (Tryd.f3.params.toList ++ Rows.genReadsSpec.plain.varTypes Tryd.prog ++ Tryd.f3.resultTypes.toList).any (Tryd.prog.veiledRec ·))) = true := by kernel_rfl
theorem genReads_fact31 : (Rows.genReadsRow.veiledFits Tryd.prog Tryd.f3.params.toList (Tryd.f3.params.toList ++ Rows.genReadsSpec.plain.varTypes Tryd.prog ++ Tryd.f3.resultTypes.toList)) = true := by kernel_rfl
set_option maxRecDepth 100000 in
theorem genReads_facts : joinedFacts Tryd.prog 3 Tryd.f3 Rows.genReadsSpec Rows.genReadsRow = true := by
  unfold joinedFacts
  exact and2_genReads (and2_genReads (and2_genReads (and2_genReads (and2_genReads (and2_genReads (and2_genReads (and2_genReads (and2_genReads (and2_genReads (and2_genReads (and2_genReads (and2_genReads (and2_genReads (and2_genReads (and2_genReads (and2_genReads (and2_genReads (and2_genReads (and2_genReads (and2_genReads (and2_genReads (and2_genReads (and2_genReads (and2_genReads (and2_genReads (and2_genReads (and2_genReads (and2_genReads (and2_genReads (and2_genReads genReads_fact0 genReads_fact1) genReads_fact2) genReads_fact3) genReads_fact4) genReads_fact5) genReads_fact6) genReads_fact7) genReads_fact8) genReads_fact9) genReads_fact10) genReads_fact11) genReads_fact12) genReads_fact13) genReads_fact14) genReads_fact15) genReads_fact16) genReads_fact17) genReads_fact18) genReads_fact19) genReads_fact20) genReads_fact21) genReads_fact22) genReads_fact23) genReads_fact24) genReads_fact25) genReads_fact26) genReads_fact27) genReads_fact28) genReads_fact29) genReads_fact30) genReads_fact31
theorem genReads_text : Rows.genReadsRow.wfByText (OpenSpec.ofChange Rows.genReadsSpec) = true := by kernel_rfl
theorem genReads_goes : false = Rows.genReadsRow.goesBy Tryd.pinned.checked.prog := by kernel_rfl
theorem genReads_named : Tryd.pinned.checked.prog.funcNamed "cardindex/cardindexlaw20.GenReads" = some 3 := by kernel_rfl
theorem genReads_looks : false = Tryd.pinned.checked.prog.looks [] := by kernel_rfl
theorem genReads_main : Tryd.pinned.checked.prog.mainIs = some (true, "2be0cbd310e9215f79380d7c3340a0601ce62fc708a915b4472c3e0f326b0564".toList) := by kernel_rfl
end Go.Proofs.YtkpaphoeldcakaaDoor
