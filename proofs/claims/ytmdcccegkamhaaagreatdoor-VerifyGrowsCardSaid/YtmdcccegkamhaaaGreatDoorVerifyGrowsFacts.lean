/- The closed facts of the row of VerifyGrows. -/
import Derived.Test.YtmdcccegkamhaaaGreatDoorRows
import Derived.JoinedOf
import Derived.KernelRfl
import GoSem.ClaimLaidByText
import GoSem.ClaimSeven
import GoSem.ClaimGoes
import GoSem.ClaimWrapper
namespace Go.Proofs.YtmdcccegkamhaaaGreatDoor
open Go
theorem and2_verifyGrows {a b : Bool} (h : a = true) (h2 : b = true) : (a && b) = true := by rw [h, h2]; rfl
theorem verifyGrows_fact0 : (Rows.verifyGrowsRow.wf (OpenSpec.ofChange Rows.verifyGrowsSpec)) = true := by kernel_rfl
theorem verifyGrows_fact1 : (laidOutB Tryz.prog) = true := by kernel_rfl
theorem verifyGrows_fact2 : (mapsRowed Tryz.prog) = true := by kernel_rfl
theorem verifyGrows_fact3 : (Tryz.f3.params.all (Tryz.prog.readableRec ·)) = true := by kernel_rfl
theorem verifyGrows_fact4 : (namedTie Tryz.prog Rows.verifyGrowsRow.named Rows.verifyGrowsSpec.vars) = true := by kernel_rfl
theorem verifyGrows_fact5 : ((Rows.verifyGrowsRow.stops == [])) = true := by kernel_rfl
theorem verifyGrows_fact6 : ((Tryz.prog.stops == [])) = true := by kernel_rfl
theorem verifyGrows_fact7 : ((Rows.verifyGrowsRow.knobs == [])) = true := by kernel_rfl
theorem verifyGrows_fact8 : ((Tryz.prog.stopKnobs == [])) = true := by kernel_rfl
theorem verifyGrows_fact9 : ((Rows.verifyGrowsRow.inPlace == Tryz.prog.inPlace 3)) = true := by kernel_rfl
theorem verifyGrows_fact10 : ((Rows.verifyGrowsRow.unfollowed == Tryz.prog.unfollowed 3)) = true := by kernel_rfl
theorem verifyGrows_fact11 : ((Rows.verifyGrowsRow.recurses == Tryz.prog.recurses 3)) = true := by kernel_rfl
theorem verifyGrows_fact12 : ((Rows.verifyGrowsRow.named == Tryz.prog.varsNamed 3)) = true := by kernel_rfl
theorem verifyGrows_fact13 : ((Rows.verifyGrowsRow.maps == (Tryz.f3.params.toList ++ Rows.verifyGrowsSpec.plain.varTypes Tryz.prog).any (Tryz.prog.mapsRec ·))) = true := by kernel_rfl
theorem verifyGrows_fact14 : ((Rows.verifyGrowsRow.ifaces == (Tryz.f3.params.toList ++ Rows.verifyGrowsSpec.plain.varTypes Tryz.prog).any (Tryz.prog.ifacesRec ·))) = true := by kernel_rfl
theorem verifyGrows_fact15 : ((Rows.verifyGrowsRow.mapsOut == Tryz.prog.mapsAmong Tryz.f3.resultTypes.toList)) = true := by kernel_rfl
theorem verifyGrows_fact16 : ((Rows.verifyGrowsRow.loops == (Tryz.f3.params.toList ++ Rows.verifyGrowsSpec.plain.varTypes Tryz.prog).any (Tryz.prog.loopsFrom ·))) = true := by kernel_rfl
theorem verifyGrows_fact17 : ((Rows.verifyGrowsRow.wideKeys == (Tryz.f3.params.toList ++ Rows.verifyGrowsSpec.plain.varTypes Tryz.prog ++ Tryz.f3.resultTypes.toList).any (Tryz.prog.wideKeysFrom ·))) = true := by kernel_rfl
theorem verifyGrows_fact18 : (Rows.verifyGrowsSpec.vars.all (Tryz.prog.varReadable ·)) = true := by kernel_rfl
theorem verifyGrows_fact19 : (Tryz.f3.resultTypes.all (fun t => Tryz.prog.readableRec t && decide (t < Tryz.prog.types.size))) = true := by kernel_rfl
theorem verifyGrows_fact20 : ((Rows.verifyGrowsRow.ifacesOut == Tryz.f3.resultTypes.toList.any (Tryz.prog.ifacesRec ·))) = true := by kernel_rfl
theorem verifyGrows_fact21 : ((Rows.verifyGrowsRow.loopsOut == Tryz.f3.resultTypes.toList.any (Tryz.prog.loopsFrom ·))) = true := by kernel_rfl
theorem verifyGrows_fact22 : ((Rows.verifyGrowsRow.plainKeys == Tryz.prog.plainKeys)) = true := by kernel_rfl
theorem verifyGrows_fact23 : (Rows.verifyGrowsRow.shortTexts.isNone) = true := by kernel_rfl
theorem verifyGrows_fact24 : (Tryz.prog.stopsHeard) = true := by kernel_rfl
theorem verifyGrows_fact25 : (Tryz.prog.mayEnter) = true := by kernel_rfl
theorem verifyGrows_fact26 : ((Rows.verifyGrowsRow.lifted == Tryz.prog.liftsFinal)) = true := by kernel_rfl
theorem verifyGrows_fact27 : ((Tryz.prog.make == some Rows.verifyGrowsRow.make)) = true := by kernel_rfl
theorem verifyGrows_fact28 : ((Rows.verifyGrowsRow.kinds == (if Rows.verifyGrowsRow.domain.isEmpty then [] else Tryz.f3.params.toList.map fun t => match Tryz.prog.underlying t with | some (.int k) => some k | _ => none))) = true := by kernel_rfl
theorem verifyGrows_fact29 : ((Rows.verifyGrowsRow.pinned == Rows.verifyGrowsRow.pinnedBy)) = true := by kernel_rfl
theorem verifyGrows_fact30 : ((Rows.verifyGrowsRow.veiled == (Tryz.f3.params.toList ++ Rows.verifyGrowsSpec.plain.varTypes Tryz.prog ++ Tryz.f3.resultTypes.toList).any (Tryz.prog.veiledRec ·))) = true := by kernel_rfl
theorem verifyGrows_fact31 : (Rows.verifyGrowsRow.veiledFits Tryz.prog Tryz.f3.params.toList (Tryz.f3.params.toList ++ Rows.verifyGrowsSpec.plain.varTypes Tryz.prog ++ Tryz.f3.resultTypes.toList)) = true := by kernel_rfl
set_option maxRecDepth 100000 in
theorem verifyGrows_facts : joinedFacts Tryz.prog 3 Tryz.f3 Rows.verifyGrowsSpec Rows.verifyGrowsRow = true := by
  unfold joinedFacts
  exact and2_verifyGrows (and2_verifyGrows (and2_verifyGrows (and2_verifyGrows (and2_verifyGrows (and2_verifyGrows (and2_verifyGrows (and2_verifyGrows (and2_verifyGrows (and2_verifyGrows (and2_verifyGrows (and2_verifyGrows (and2_verifyGrows (and2_verifyGrows (and2_verifyGrows (and2_verifyGrows (and2_verifyGrows (and2_verifyGrows (and2_verifyGrows (and2_verifyGrows (and2_verifyGrows (and2_verifyGrows (and2_verifyGrows (and2_verifyGrows (and2_verifyGrows (and2_verifyGrows (and2_verifyGrows (and2_verifyGrows (and2_verifyGrows (and2_verifyGrows (and2_verifyGrows verifyGrows_fact0 verifyGrows_fact1) verifyGrows_fact2) verifyGrows_fact3) verifyGrows_fact4) verifyGrows_fact5) verifyGrows_fact6) verifyGrows_fact7) verifyGrows_fact8) verifyGrows_fact9) verifyGrows_fact10) verifyGrows_fact11) verifyGrows_fact12) verifyGrows_fact13) verifyGrows_fact14) verifyGrows_fact15) verifyGrows_fact16) verifyGrows_fact17) verifyGrows_fact18) verifyGrows_fact19) verifyGrows_fact20) verifyGrows_fact21) verifyGrows_fact22) verifyGrows_fact23) verifyGrows_fact24) verifyGrows_fact25) verifyGrows_fact26) verifyGrows_fact27) verifyGrows_fact28) verifyGrows_fact29) verifyGrows_fact30) verifyGrows_fact31
theorem verifyGrows_text : Rows.verifyGrowsRow.wfByText (OpenSpec.ofChange Rows.verifyGrowsSpec) = true := by kernel_rfl
theorem verifyGrows_goes : false = Rows.verifyGrowsRow.goesBy Tryz.pinned.checked.prog := by kernel_rfl
theorem verifyGrows_named : Tryz.pinned.checked.prog.funcNamed "cardindex/cardindexlaw17.VerifyGrows" = some 3 := by kernel_rfl
theorem verifyGrows_looks : true = Tryz.pinned.checked.prog.looks [] := by kernel_rfl
theorem verifyGrows_main : Tryz.pinned.checked.prog.mainIs = some (true, "c2629e0b344d38ee71bfb794638bb3789def49e0f19c995399a9bc1e88feb038".toList) := by kernel_rfl
end Go.Proofs.YtmdcccegkamhaaaGreatDoor
