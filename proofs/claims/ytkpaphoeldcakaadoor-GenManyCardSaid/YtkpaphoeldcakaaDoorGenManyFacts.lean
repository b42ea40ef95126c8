/- The closed facts of the row of GenMany. -/
import Derived.Test.YtkpaphoeldcakaaDoorRows
import Derived.JoinedOf
import Derived.KernelRfl
import GoSem.ClaimLaidByText
import GoSem.ClaimSeven
import GoSem.ClaimGoes
import GoSem.ClaimWrapper
namespace Go.Proofs.YtkpaphoeldcakaaDoor
open Go
theorem and2_genMany {a b : Bool} (h : a = true) (h2 : b = true) : (a && b) = true := by rw [h, h2]; rfl
theorem genMany_fact0 : (Rows.genManyRow.wf (OpenSpec.ofChange Rows.genManySpec)) = true := by kernel_rfl
theorem genMany_fact1 : (laidOutB Tryd.prog) = true := by kernel_rfl
theorem genMany_fact2 : (mapsRowed Tryd.prog) = true := by kernel_rfl
theorem genMany_fact3 : (Tryd.f4.params.all (Tryd.prog.readableRec ·)) = true := by kernel_rfl
theorem genMany_fact4 : (namedTie Tryd.prog Rows.genManyRow.named Rows.genManySpec.vars) = true := by kernel_rfl
theorem genMany_fact5 : ((Rows.genManyRow.stops == [])) = true := by kernel_rfl
theorem genMany_fact6 : ((Tryd.prog.stops == [])) = true := by kernel_rfl
theorem genMany_fact7 : ((Rows.genManyRow.knobs == [])) = true := by kernel_rfl
theorem genMany_fact8 : ((Tryd.prog.stopKnobs == [])) = true := by kernel_rfl
theorem genMany_fact9 : ((Rows.genManyRow.inPlace == Tryd.prog.inPlace 4)) = true := by kernel_rfl
theorem genMany_fact10 : ((Rows.genManyRow.unfollowed == Tryd.prog.unfollowed 4)) = true := by kernel_rfl
theorem genMany_fact11 : ((Rows.genManyRow.recurses == Tryd.prog.recurses 4)) = true := by kernel_rfl
theorem genMany_fact12 : ((Rows.genManyRow.named == Tryd.prog.varsNamed 4)) = true := by kernel_rfl
theorem genMany_fact13 : ((Rows.genManyRow.maps == (Tryd.f4.params.toList ++ Rows.genManySpec.plain.varTypes Tryd.prog).any (Tryd.prog.mapsRec ·))) = true := by kernel_rfl
theorem genMany_fact14 : ((Rows.genManyRow.ifaces == (Tryd.f4.params.toList ++ Rows.genManySpec.plain.varTypes Tryd.prog).any (Tryd.prog.ifacesRec ·))) = true := by kernel_rfl
theorem genMany_fact15 : ((Rows.genManyRow.mapsOut == Tryd.prog.mapsAmong Tryd.f4.resultTypes.toList)) = true := by kernel_rfl
theorem genMany_fact16 : ((Rows.genManyRow.loops == (Tryd.f4.params.toList ++ Rows.genManySpec.plain.varTypes Tryd.prog).any (Tryd.prog.loopsFrom ·))) = true := by kernel_rfl
theorem genMany_fact17 : ((Rows.genManyRow.wideKeys == (Tryd.f4.params.toList ++ Rows.genManySpec.plain.varTypes Tryd.prog ++ Tryd.f4.resultTypes.toList).any (Tryd.prog.wideKeysFrom ·))) = true := by kernel_rfl
theorem genMany_fact18 : (Rows.genManySpec.vars.all (Tryd.prog.varReadable ·)) = true := by kernel_rfl
theorem genMany_fact19 : (Tryd.f4.resultTypes.all (fun t => Tryd.prog.readableRec t && decide (t < Tryd.prog.types.size))) = true := by kernel_rfl
theorem genMany_fact20 : ((Rows.genManyRow.ifacesOut == Tryd.f4.resultTypes.toList.any (Tryd.prog.ifacesRec ·))) = true := by kernel_rfl
theorem genMany_fact21 : ((Rows.genManyRow.loopsOut == Tryd.f4.resultTypes.toList.any (Tryd.prog.loopsFrom ·))) = true := by kernel_rfl
theorem genMany_fact22 : ((Rows.genManyRow.plainKeys == Tryd.prog.plainKeys)) = true := by kernel_rfl
theorem genMany_fact23 : (Rows.genManyRow.shortTexts.isNone) = true := by kernel_rfl
theorem genMany_fact24 : (Tryd.prog.stopsHeard) = true := by kernel_rfl
theorem genMany_fact25 : (Tryd.prog.mayEnter) = true := by kernel_rfl
theorem genMany_fact26 : ((Rows.genManyRow.lifted == Tryd.prog.liftsFinal)) = true := by kernel_rfl
theorem genMany_fact27 : ((Tryd.prog.make == some Rows.genManyRow.make)) = true := by kernel_rfl
theorem genMany_fact28 : ((Rows.genManyRow.kinds == (if Rows.genManyRow.domain.isEmpty then [] else Tryd.f4.params.toList.map fun t => match Tryd.prog.underlying t with | some (.int k) => some k | _ => none))) = true := by kernel_rfl
theorem genMany_fact29 : ((Rows.genManyRow.pinned == Rows.genManyRow.pinnedBy)) = true := by kernel_rfl
theorem genMany_fact30 : ((Rows.genManyRow.veiled == (Tryd.f4.params.toList ++ Rows.genManySpec.plain.varTypes Tryd.prog ++ Tryd.f4.resultTypes.toList).any (Tryd.prog.veiledRec ·))) = true := by kernel_rfl
theorem genMany_fact31 : (Rows.genManyRow.veiledFits Tryd.prog Tryd.f4.params.toList (Tryd.f4.params.toList ++ Rows.genManySpec.plain.varTypes Tryd.prog ++ Tryd.f4.resultTypes.toList)) = true := by kernel_rfl
set_option maxRecDepth 100000 in
theorem genMany_facts : joinedFacts Tryd.prog 4 Tryd.f4 Rows.genManySpec Rows.genManyRow = true := by
  unfold joinedFacts
  exact and2_genMany (and2_genMany (and2_genMany (and2_genMany (and2_genMany (and2_genMany (and2_genMany (and2_genMany (and2_genMany (and2_genMany (and2_genMany (and2_genMany (and2_genMany (and2_genMany (and2_genMany (and2_genMany (and2_genMany (and2_genMany (and2_genMany (and2_genMany (and2_genMany (and2_genMany (and2_genMany (and2_genMany (and2_genMany (and2_genMany (and2_genMany (and2_genMany (and2_genMany (and2_genMany (and2_genMany genMany_fact0 genMany_fact1) genMany_fact2) genMany_fact3) genMany_fact4) genMany_fact5) genMany_fact6) genMany_fact7) genMany_fact8) genMany_fact9) genMany_fact10) genMany_fact11) genMany_fact12) genMany_fact13) genMany_fact14) genMany_fact15) genMany_fact16) genMany_fact17) genMany_fact18) genMany_fact19) genMany_fact20) genMany_fact21) genMany_fact22) genMany_fact23) genMany_fact24) genMany_fact25) genMany_fact26) genMany_fact27) genMany_fact28) genMany_fact29) genMany_fact30) genMany_fact31
theorem genMany_text : Rows.genManyRow.wfByText (OpenSpec.ofChange Rows.genManySpec) = true := by kernel_rfl
theorem genMany_goes : false = Rows.genManyRow.goesBy Tryd.pinned.checked.prog := by kernel_rfl
theorem genMany_named : Tryd.pinned.checked.prog.funcNamed "cardindex/cardindexlaw20.GenMany" = some 4 := by kernel_rfl
theorem genMany_looks : false = Tryd.pinned.checked.prog.looks [] := by kernel_rfl
theorem genMany_main : Tryd.pinned.checked.prog.mainIs = some (true, "2be0cbd310e9215f79380d7c3340a0601ce62fc708a915b4472c3e0f326b0564".toList) := by kernel_rfl
end Go.Proofs.YtkpaphoeldcakaaDoor
