/- What the rows lay is what the calls on named blocks start from. -/
import Derived.Test.YtmdcccegkamhaaaGreatDoorAbS0
import Derived.Test.YtmdcccegkamhaaaGreatDoorRows
set_option linter.unusedSectionVars false
namespace Go.Proofs.YtmdcccegkamhaaaGreatDoor
open Go Go.Ab
variable [Val]
def spaces : List Int := [0, 0, 0, 0, 0, 0, 0, 0, 0, 1, 1, 1, 1, 1, 0, 0, 0, 0, 0, 0, 0, 0, 0, 0, 0, 0, 0, 0, 0, 0, 0, 0, 1, 0, 0, 0, 0, 0, 0, 0, 0, 0, 0, 0, 0, 0, 0, 0, 0, 0, 0, 0, 0, 0, 0, 0, 0, 0, 0, 0, 0, 0, 0, 0, 0, 0, 0, 0, 0, 0, 0, 0, 0, 0, 0, 0, 0, 0, 0, 0, 0, 0, 0, 0, 0, 0, 0, 0, 0, 0, 0, 0, 0, 0, 0, 0, 0, 0, 0, 0, 0, 0, 0, 0, 0, 0, 0, 0, 0, 0, 0, 0, 0, 0, 0, 0, 0, 0, 0, 0, 0, 0, 0, 0, 0, 0, 0, 0, 0, 0, 0, 0, 0, 0, 0, 0, 0, 0, 0, 0, 0, 0, 0, 0, 0, 0, 0, 0, 0, 0, 0, 0, 0, 0, 0, 0, 0, 0, 0, 0, 0, 0, 0, 0, 0, 0, 0, 0, 0, 0, 0, 0, 0, 0, 0, 0, 0, 0, 0, 0, 0, 0, 0, 0, 0, 0, 0, 0, 0, 0, 0, 0, 0, 0, 0, 0, 0, 0, 0, 0, 0, 0, 0, 0, 0, 0, 0, 0, 0, 0, 0, 0, 0, 0, 0, 0, 0, 0, 0, 0, 0, 0, 0, 0, 0, 0, 0, 0, 0, 0, 0, 0, 0, 0, 0, 0, 0, 0, 0, 0, 0, 0, 0, 0, 0, 0, 0, 0, 0, 0, 0, 0, 0, 0, 0, 0]
theorem spaces_len : spaces.length = 256 := by kernel_rfl
theorem spaces_laid : (Rows.laid_strings_asciiSpace : DataW Unit) = Lib.tabData .u8 spaces := by kernel_rfl
set_option maxRecDepth 100000 in
theorem VRL_spaces : ∀ l : List Int, VRL (fun _ _ => Option.none) (l.map fun z => AV.int .u8 z) (l.map fun z => Value.int .u8 z)
  | [] => .nil
  | _ :: l => .cons _ _ _ _ (.int _ _) (VRL_spaces l)
theorem gl0_eq : gl0 = [(0, spaces.map fun z => AV.int .u8 z)] := by kernel_rfl
theorem holds0 {laid : List (String × DataW Unit)} {w : World} (h : laidMet Tryz.prog laid w) (hm : ("strings.asciiSpace", Rows.laid_strings_asciiSpace) ∈ laid) : Holds gl0 w := by
  rw [spaces_laid] at hm
  obtain ⟨c, ty, h1, h2⟩ := holds_tab h hm (g := 0) (t := 276) (e := 5) (n := 256) (by kernel_rfl) (by kernel_rfl) Tryz.underlying276 Tryz.underlying5 (by kernel_rfl) (by kernel_rfl) (by rw [spaces_len]; omega)
  rw [gl0_eq]
  intro q hq
  rw [List.mem_singleton] at hq
  subst hq
  refine ⟨fun v hv => ?_, c, ty, h1, ?_⟩
  · obtain ⟨z, _, rfl⟩ := List.mem_map.1 hv
    rfl
  · rw [h2]; exact VRL_spaces spaces
theorem own0 : ownKnob Tryz.prog.godebug = none := by kernel_rfl
noncomputable section
/-- The call returns true. -/
def runsW (l : List Kn) (g : Nat) (args : List AV) : Bool := R2.rec (motive := fun _ => Bool) (fun v _ => avEq v (.bool true)) (fun _ => false) (cK l g args (globHp gl0 12))
end
theorem lawW {l : List Kn} (hl : ∀ q ∈ l, Known q) {g : Nat} {fn : Func} {b : Code} (hgy : Nat.ble yF g = false) (hf : Tryz.prog.funcs[g]? = some fn) (hname : (fn.name == "runtime.NumGoroutine") = false) (hb : fn.body = some b) {args : List AV} (hx : runsW l g args = true) {laid : List (String × DataW Unit)} {w : World} (h : laidMet Tryz.prog laid w)
    (hm : ("strings.asciiSpace", Rows.laid_strings_asciiSpace) ∈ laid) {args' : List Value} (hv : VRL (initE gl0) args args') : Calls Tryz.prog g args'.toArray w fun en w' => en = .returned (.bool true) ∧ w.keptBut w' fun _ => False :=
  law_calls laid0 (ck_ok l hl) (C := C0) hgy hf hname hb hx (holds0 h hm) hv
end Go.Proofs.YtmdcccegkamhaaaGreatDoor
