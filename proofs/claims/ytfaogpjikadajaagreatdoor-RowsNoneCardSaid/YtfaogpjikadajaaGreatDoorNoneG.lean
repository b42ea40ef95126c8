/- Closed facts of the card of RowsNone. -/
import Derived.Test.YtfaogpjikadajaaGreatDoorRows
import Derived.Test.YtfaogpjikadajaaGreatDoorCards
import Derived.KernelRfl
namespace Go.Proofs.YtfaogpjikadajaaGreatDoor
open Go
theorem goes_none {P : Program} (h : P.funcs.any Func.goes = false) (f : FuncId) : P.goes f = false := by
  have h2 : ∀ g : FuncId, (P.funcs[g]?).any Func.goes = false := by
    intro g
    cases hg : P.funcs[g]? with
    | none => rfl
    | some fn =>
      obtain ⟨hl, he⟩ := Array.getElem?_eq_some_iff.1 hg
      have := Array.any_eq_false.1 h g hl
      rw [he] at this
      simpa using this
  unfold Program.goes
  rw [h]
  simp only [h2, Bool.and_false, Bool.or_false]
  exact List.any_eq_false.2 fun _ _ => by simp
theorem goesBy_none {P : Program} {c : OpenClaim} (h : P.funcs.any Func.goes = false) (hs : c.start = .entering) : false = c.goesBy P := by
  unfold OpenClaim.goesBy Program.goesAt Program.goesFrom
  rw [hs]
  cases P.funcNamed c.func with
  | none => rfl
  | some f => simp [goes_none h f]
theorem rowsNone_goes : false = Rows.rowsNoneRow.goesBy Tryz.pinned.checked.prog := goesBy_none (by kernel_rfl) rfl
theorem rowsNone_text : Rows.rowsNoneRow.wfByText (OpenSpec.ofChange Rows.rowsNoneSpec) = true := by kernel_rfl
theorem rowsNone_main : Tryz.pinned.checked.prog.mainIs = some (true, "c9d2aa006ead1ccaf299f6d600c418287acc533d96721c3c893dca1d9341f4a1".toList) := by kernel_rfl
theorem rowsNone_looks : true = Tryz.pinned.checked.prog.looks [] := by kernel_rfl
theorem rowsNone_named : Tryz.pinned.checked.prog.funcNamed "cardindex/cardindexlaw18.RowsNone" = some 3 := by kernel_rfl
end Go.Proofs.YtfaogpjikadajaaGreatDoor
