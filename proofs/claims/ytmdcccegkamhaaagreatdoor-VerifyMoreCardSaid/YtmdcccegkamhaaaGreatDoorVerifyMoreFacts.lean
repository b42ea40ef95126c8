/- The closed facts of the row of VerifyMore. -/
import Derived.Test.YtmdcccegkamhaaaGreatDoorRows
import Derived.JoinedOf
import Derived.KernelRfl
import GoSem.ClaimLaidByText
import GoSem.ClaimSeven
import GoSem.ClaimGoes
import GoSem.ClaimWrapper
namespace Go.Proofs.YtmdcccegkamhaaaGreatDoor
open Go
theorem and2_verifyMore {a b : Bool} (h : a = true) (h2 : b = true) : (a && b) = true := by rw [h, h2]; rfl
theorem verifyMore_fact0 : (Rows.verifyMoreRow.wf (OpenSpec.ofChange Rows.verifyMoreSpec)) = true := by kernel_rfl
theorem verifyMore_fact1 : (laidOutB Tryz.prog) = true := by kernel_rfl
theorem verifyMore_fact2 : (mapsRowed Tryz.prog) = true := by kernel_rfl
theorem verifyMore_fact3 : (Tryz.f4.params.all (Tryz.prog.readableRec ·)) = true := by kernel_rfl
theorem verifyMore_fact4 : (namedTie Tryz.prog Rows.verifyMoreRow.named Rows.verifyMoreSpec.vars) = true := by kernel_rfl
theorem verifyMore_fact5 : ((Rows.verifyMoreRow.stops == [])) = true := by kernel_rfl
theorem verifyMore_fact6 : ((Tryz.prog.stops == [])) = true := by kernel_rfl
theorem verifyMore_fact7 : ((Rows.verifyMoreRow.knobs == [])) = true := by kernel_rfl
theorem verifyMore_fact8 : ((Tryz.prog.stopKnobs == [])) = true := by kernel_rfl
theorem verifyMore_fact9 : ((Rows.verifyMoreRow.inPlace == Tryz.prog.inPlace 4)) = true := by kernel_rfl
theorem verifyMore_fact10 : ((Rows.verifyMoreRow.unfollowed == Tryz.prog.unfollowed 4)) = true := by kernel_rfl
theorem verifyMore_fact11 : ((Rows.verifyMoreRow.recurses == Tryz.prog.recurses 4)) = true := by kernel_rfl
theorem verifyMore_fact12 : ((Rows.verifyMoreRow.named == Tryz.prog.varsNamed 4)) = true := by kernel_rfl
theorem verifyMore_fact13 : ((Rows.verifyMoreRow.maps == (Tryz.f4.params.toList ++ Rows.verifyMoreSpec.plain.varTypes Tryz.prog).any (Tryz.prog.mapsRec ·))) = true := by kernel_rfl
theorem verifyMore_fact14 : ((Rows.verifyMoreRow.ifaces == (Tryz.f4.params.toList ++ Rows.verifyMoreSpec.plain.varTypes Tryz.prog).any (Tryz.prog.ifacesRec ·))) = true := by kernel_rfl
theorem verifyMore_fact15 : ((Rows.verifyMoreRow.mapsOut == Tryz.prog.mapsAmong Tryz.f4.resultTypes.toList)) = true := by kernel_rfl
theorem verifyMore_fact16 : ((Rows.verifyMoreRow.loops == (Tryz.f4.params.toList ++ Rows.verifyMoreSpec.plain.varTypes Tryz.prog).any (Tryz.prog.loopsFrom ·))) = true := by kernel_rfl
theorem verifyMore_fact17 : ((Rows.verifyMoreRow.wideKeys == (Tryz.f4.params.toList ++ Rows.verifyMoreSpec.plain.varTypes Tryz.prog ++ Tryz.f4.resultTypes.toList).any (Tryz.prog.wideKeysFrom ·))) = true := by kernel_rfl
theorem verifyMore_fact18 : (Rows.verifyMoreSpec.vars.all (Tryz.prog.varReadable ·)) = true := by kernel_rfl
theorem verifyMore_fact19 : (Tryz.f4.resultTypes.all (fun t => Tryz.prog.readableRec t && decide (t < Tryz.prog.types.size))) = true := by kernel_rfl
theorem verifyMore_fact20 : ((Rows.verifyMoreRow.ifacesOut == Tryz.f4.resultTypes.toList.any (Tryz.prog.ifacesRec ·))) = true := by kernel_rfl
theorem verifyMore_fact21 : ((Rows.verifyMoreRow.loopsOut == Tryz.f4.resultTypes.toList.any (Tryz.prog.loopsFrom ·))) = true := by kernel_rfl
theorem verifyMore_fact22 : ((Rows.verifyMoreRow.plainKeys == Tryz.prog.plainKeys)) = true := by kernel_rfl
theorem verifyMore_fact23 : (Rows.verifyMoreRow.shortTexts.isNone) = true := by kernel_rfl
theorem verifyMore_fact24 : (Tryz.prog.stopsHeard) = true := by kernel_rfl
theorem verifyMore_fact25 : (Tryz.prog.mayEnter) = true := by kernel_rfl
theorem verifyMore_fact26 : ((Rows.verifyMoreRow.lifted == Tryz.prog.liftsFinal)) = true := by kernel_rfl
theorem verifyMore_fact27 : ((Tryz.prog.make == some Rows.verifyMoreRow.make)) = true := by kernel_rfl
theorem verifyMore_fact28 : ((Rows.verifyMoreRow.kinds == (if Rows.verifyMoreRow.domain.isEmpty then [] else Tryz.f4.params.toList.map fun t => match Tryz.prog.underlying t with | some (.int k) => some k | _ => none))) = true := by kernel_rfl
theorem verifyMore_fact29 : ((Rows.verifyMoreRow.pinned == Rows.verifyMoreRow.pinnedBy)) = true := by kernel_rfl
theorem verifyMore_fact30 : ((Rows.verifyMoreRow.veiled == (Tryz.f4.params.toList ++ Rows.verifyMoreSpec.plain.varTypes Tryz.prog ++ Tryz.f4.resultTypes.toList).any (Tryz.prog.veiledRec ·))) = true := by kernel_rfl
theorem verifyMore_fact31 : (Rows.verifyMoreRow.veiledFits Tryz.prog Tryz.f4.params.toList (Tryz.f4.params.toList ++ Rows.verifyMoreSpec.plain.varTypes Tryz.prog ++ Tryz.f4.resultTypes.toList)) = true := by kernel_rfl
set_option maxRecDepth 100000 in
theorem verifyMore_facts : joinedFacts Tryz.prog 4 Tryz.f4 Rows.verifyMoreSpec Rows.verifyMoreRow = true := by
  unfold joinedFacts
  exact and2_verifyMore (and2_verifyMore (and2_verifyMore (and2_verifyMore (and2_verifyMore (and2_verifyMore (and2_verifyMore (and2_verifyMore (and2_verifyMore (and2_verifyMore (and2_verifyMore (and2_verifyMore (and2_verifyMore (and2_verifyMore (and2_verifyMore (and2_verifyMore (and2_verifyMore (and2_verifyMore (and2_verifyMore (and2_verifyMore (and2_verifyMore (and2_verifyMore (and2_verifyMore (and2_verifyMore (and2_verifyMore (and2_verifyMore (and2_verifyMore (and2_verifyMore (and2_verifyMore (and2_verifyMore (and2_verifyMore verifyMore_fact0 verifyMore_fact1) verifyMore_fact2) verifyMore_fact3) verifyMore_fact4) verifyMore_fact5) verifyMore_fact6) verifyMore_fact7) verifyMore_fact8) verifyMore_fact9) verifyMore_fact10) verifyMore_fact11) verifyMore_fact12) verifyMore_fact13) verifyMore_fact14) verifyMore_fact15) verifyMore_fact16) verifyMore_fact17) verifyMore_fact18) verifyMore_fact19) verifyMore_fact20) verifyMore_fact21) verifyMore_fact22) verifyMore_fact23) verifyMore_fact24) verifyMore_fact25) verifyMore_fact26) verifyMore_fact27) verifyMore_fact28) verifyMore_fact29) verifyMore_fact30) verifyMore_fact31
theorem verifyMore_text : Rows.verifyMoreRow.wfByText (OpenSpec.ofChange Rows.verifyMoreSpec) = true := by kernel_rfl
theorem verifyMore_goes : false = Rows.verifyMoreRow.goesBy Tryz.pinned.checked.prog := by kernel_rfl
theorem verifyMore_named : Tryz.pinned.checked.prog.funcNamed "cardindex/cardindexlaw17.VerifyMore" = some 4 := by kernel_rfl
theorem verifyMore_looks : true = Tryz.pinned.checked.prog.looks [] := by kernel_rfl
theorem verifyMore_main : Tryz.pinned.checked.prog.mainIs = some (true, "c2629e0b344d38ee71bfb794638bb3789def49e0f19c995399a9bc1e88feb038".toList) := by kernel_rfl
end Go.Proofs.YtmdcccegkamhaaaGreatDoor
