/- The closed facts of the row of rowsNone. -/
import Derived.Test.YtfaogpjikadajaaGreatDoorRows
import Derived.JoinedOf
import Derived.KernelRfl
theorem Go.Ab.and2_rowsNone {a b : Bool} (h : a = true) (h2 : b = true) : (a && b) = true := by rw [h, h2]; rfl
namespace Go.Proofs.YtfaogpjikadajaaGreatDoor
open Go
theorem rowsNone_fact0 : (Rows.rowsNoneRow.wf (OpenSpec.ofChange Rows.rowsNoneSpec)) = true := by kernel_rfl
theorem rowsNone_fact1 : (laidOutB Tryz.prog) = true := by kernel_rfl
theorem rowsNone_fact2 : (mapsRowed Tryz.prog) = true := by kernel_rfl
theorem rowsNone_fact3 : (Tryz.f3.params.all (Tryz.prog.readableRec ·)) = true := by kernel_rfl
theorem rowsNone_fact4 : (namedTie Tryz.prog Rows.rowsNoneRow.named Rows.rowsNoneSpec.vars) = true := by kernel_rfl
theorem rowsNone_fact5 : ((Rows.rowsNoneRow.stops == [])) = true := by kernel_rfl
theorem rowsNone_fact6 : ((Tryz.prog.stops == [])) = true := by kernel_rfl
theorem rowsNone_fact7 : ((Rows.rowsNoneRow.knobs == [])) = true := by kernel_rfl
theorem rowsNone_fact8 : ((Tryz.prog.stopKnobs == [])) = true := by kernel_rfl
theorem rowsNone_fact9 : ((Rows.rowsNoneRow.inPlace == Tryz.prog.inPlace 3)) = true := by kernel_rfl
theorem rowsNone_fact10 : ((Rows.rowsNoneRow.unfollowed == Tryz.prog.unfollowed 3)) = true := by kernel_rfl
theorem rowsNone_fact11 : ((Rows.rowsNoneRow.recurses == Tryz.prog.recurses 3)) = true := by kernel_rfl
theorem rowsNone_fact12 : ((Rows.rowsNoneRow.named == Tryz.prog.varsNamed 3)) = true := by kernel_rfl
theorem rowsNone_fact13 : ((Rows.rowsNoneRow.maps == (Tryz.f3.params.toList ++ Rows.rowsNoneSpec.plain.varTypes Tryz.prog).any (Tryz.prog.mapsRec ·))) = true := by kernel_rfl
theorem rowsNone_fact14 : ((Rows.rowsNoneRow.ifaces == (Tryz.f3.params.toList ++ Rows.rowsNoneSpec.plain.varTypes Tryz.prog).any (Tryz.prog.ifacesRec ·))) = true := by kernel_rfl
theorem rowsNone_fact15 : ((Rows.rowsNoneRow.mapsOut == Tryz.prog.mapsAmong Tryz.f3.resultTypes.toList)) = true := by kernel_rfl
theorem rowsNone_fact16 : ((Rows.rowsNoneRow.loops == (Tryz.f3.params.toList ++ Rows.rowsNoneSpec.plain.varTypes Tryz.prog).any (Tryz.prog.loopsFrom ·))) = true := by kernel_rfl
theorem rowsNone_fact17 : ((Rows.rowsNoneRow.wideKeys == (Tryz.f3.params.toList ++ Rows.rowsNoneSpec.plain.varTypes Tryz.prog ++ Tryz.f3.resultTypes.toList).any (Tryz.prog.wideKeysFrom ·))) = true := by kernel_rfl
theorem rowsNone_fact18 : (Rows.rowsNoneSpec.vars.all (Tryz.prog.varReadable ·)) = true := by kernel_rfl
theorem rowsNone_fact19 : (Tryz.f3.resultTypes.all (fun t => Tryz.prog.readableRec t && decide (t < Tryz.prog.types.size))) = true := by kernel_rfl
theorem rowsNone_fact20 : ((Rows.rowsNoneRow.ifacesOut == Tryz.f3.resultTypes.toList.any (Tryz.prog.ifacesRec ·))) = true := by kernel_rfl
theorem rowsNone_fact21 : ((Rows.rowsNoneRow.loopsOut == Tryz.f3.resultTypes.toList.any (Tryz.prog.loopsFrom ·))) = true := by kernel_rfl
theorem rowsNone_fact22 : ((Rows.rowsNoneRow.plainKeys == Tryz.prog.plainKeys)) = true := by kernel_rfl
theorem rowsNone_fact23 : (Rows.rowsNoneRow.shortTexts.isNone) = true := by kernel_rfl
theorem rowsNone_fact24 : (Tryz.prog.stopsHeard) = true := by kernel_rfl
theorem rowsNone_fact25 : (Tryz.prog.mayEnter) = true := by kernel_rfl
theorem rowsNone_fact26 : ((Rows.rowsNoneRow.lifted == Tryz.prog.liftsFinal)) = true := by kernel_rfl
theorem rowsNone_fact27 : ((Tryz.prog.make == some Rows.rowsNoneRow.make)) = true := by kernel_rfl
theorem rowsNone_fact28 : ((Rows.rowsNoneRow.kinds == (if Rows.rowsNoneRow.domain.isEmpty then [] else Tryz.f3.params.toList.map fun t => match Tryz.prog.underlying t with | some (.int k) => some k | _ => none))) = true := by kernel_rfl
theorem rowsNone_fact29 : ((Rows.rowsNoneRow.pinned == Rows.rowsNoneRow.pinnedBy)) = true := by kernel_rfl
theorem rowsNone_fact30 : ((Rows.rowsNoneRow.veiled == (Tryz.f3.params.toList ++ Rows.rowsNoneSpec.plain.varTypes Tryz.prog ++ Tryz.f3.resultTypes.toList).any (Tryz.prog.veiledRec ·))) = true := by kernel_rfl
theorem rowsNone_fact31 : (Rows.rowsNoneRow.veiledFits Tryz.prog Tryz.f3.params.toList (Tryz.f3.params.toList ++ Rows.rowsNoneSpec.plain.varTypes Tryz.prog ++ Tryz.f3.resultTypes.toList)) = true := by kernel_rfl
set_option maxRecDepth 100000 in
theorem rowsNone_facts : joinedFacts Tryz.prog 3 Tryz.f3 Rows.rowsNoneSpec Rows.rowsNoneRow = true := by
  unfold joinedFacts
  exact Go.Ab.and2_rowsNone (Go.Ab.and2_rowsNone (Go.Ab.and2_rowsNone (Go.Ab.and2_rowsNone (Go.Ab.and2_rowsNone (Go.Ab.and2_rowsNone (Go.Ab.and2_rowsNone (Go.Ab.and2_rowsNone (Go.Ab.and2_rowsNone (Go.Ab.and2_rowsNone (Go.Ab.and2_rowsNone (Go.Ab.and2_rowsNone (Go.Ab.and2_rowsNone (Go.Ab.and2_rowsNone (Go.Ab.and2_rowsNone (Go.Ab.and2_rowsNone (Go.Ab.and2_rowsNone (Go.Ab.and2_rowsNone (Go.Ab.and2_rowsNone (Go.Ab.and2_rowsNone (Go.Ab.and2_rowsNone (Go.Ab.and2_rowsNone (Go.Ab.and2_rowsNone (Go.Ab.and2_rowsNone (Go.Ab.and2_rowsNone (Go.Ab.and2_rowsNone (Go.Ab.and2_rowsNone (Go.Ab.and2_rowsNone (Go.Ab.and2_rowsNone (Go.Ab.and2_rowsNone (Go.Ab.and2_rowsNone rowsNone_fact0 rowsNone_fact1) rowsNone_fact2) rowsNone_fact3) rowsNone_fact4) rowsNone_fact5) rowsNone_fact6) rowsNone_fact7) rowsNone_fact8) rowsNone_fact9) rowsNone_fact10) rowsNone_fact11) rowsNone_fact12) rowsNone_fact13) rowsNone_fact14) rowsNone_fact15) rowsNone_fact16) rowsNone_fact17) rowsNone_fact18) rowsNone_fact19) rowsNone_fact20) rowsNone_fact21) rowsNone_fact22) rowsNone_fact23) rowsNone_fact24) rowsNone_fact25) rowsNone_fact26) rowsNone_fact27) rowsNone_fact28) rowsNone_fact29) rowsNone_fact30) rowsNone_fact31
end Go.Proofs.YtfaogpjikadajaaGreatDoor
