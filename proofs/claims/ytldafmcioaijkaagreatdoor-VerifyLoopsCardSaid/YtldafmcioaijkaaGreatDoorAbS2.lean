/- What the rows lay is what the calls on named blocks start from. -/
import Derived.Test.YtldafmcioaijkaaGreatDoorAbS1
import Derived.Test.YtldafmcioaijkaaGreatDoorRows
namespace Go.Proofs.YtldafmcioaijkaaGreatDoor
open Go Go.Ab
def spaces : List Int := [0, 0, 0, 0, 0, 0, 0, 0, 0, 1, 1, 1, 1, 1, 0, 0, 0, 0, 0, 0, 0, 0, 0, 0, 0, 0, 0, 0, 0, 0, 0, 0, 1, 0, 0, 0, 0, 0, 0, 0, 0, 0, 0, 0, 0, 0, 0, 0, 0, 0, 0, 0, 0, 0, 0, 0, 0, 0, 0, 0, 0, 0, 0, 0, 0, 0, 0, 0, 0, 0, 0, 0, 0, 0, 0, 0, 0, 0, 0, 0, 0, 0, 0, 0, 0, 0, 0, 0, 0, 0, 0, 0, 0, 0, 0, 0, 0, 0, 0, 0, 0, 0, 0, 0, 0, 0, 0, 0, 0, 0, 0, 0, 0, 0, 0, 0, 0, 0, 0, 0, 0, 0, 0, 0, 0, 0, 0, 0, 0, 0, 0, 0, 0, 0, 0, 0, 0, 0, 0, 0, 0, 0, 0, 0, 0, 0, 0, 0, 0, 0, 0, 0, 0, 0, 0, 0, 0, 0, 0, 0, 0, 0, 0, 0, 0, 0, 0, 0, 0, 0, 0, 0, 0, 0, 0, 0, 0, 0, 0, 0, 0, 0, 0, 0, 0, 0, 0, 0, 0, 0, 0, 0, 0, 0, 0, 0, 0, 0, 0, 0, 0, 0, 0, 0, 0, 0, 0, 0, 0, 0, 0, 0, 0, 0, 0, 0, 0, 0, 0, 0, 0, 0, 0, 0, 0, 0, 0, 0, 0, 0, 0, 0, 0, 0, 0, 0, 0, 0, 0, 0, 0, 0, 0, 0, 0, 0, 0, 0, 0, 0, 0, 0, 0, 0, 0, 0]
theorem spaces_len : spaces.length = 256 := by kernel_rfl
theorem spaces_laid : (Rows.laid_strings_asciiSpace : DataW Unit) = Lib.tabData .u8 spaces := by kernel_rfl
set_option maxRecDepth 100000 in
theorem VRL_spaces : ∀ l : List Int, VRL (fun _ _ => Option.none) (l.map fun z => AV.int .u8 z) (l.map fun z => Value.int .u8 z)
  | [] => .nil
  | _ :: l => .cons _ _ _ _ (.int _ _) (VRL_spaces l)
theorem gl0_eq : gl0 = [(0, spaces.map fun z => AV.int .u8 z)] := by kernel_rfl
theorem holds0 {laid : List (String × DataW Unit)} {w : World} (h : laidMet Tryz.prog laid w) (hm : ("strings.asciiSpace", Rows.laid_strings_asciiSpace) ∈ laid) : Holds gl0 w := by
  rw [spaces_laid] at hm
  obtain ⟨c, ty, h1, h2⟩ := holds_tab h hm (g := 0) (t := 294) (e := 5) (n := 256) (by kernel_rfl) (by kernel_rfl) Tryz.underlying294 Tryz.underlying5 (by kernel_rfl) (by kernel_rfl) (by rw [spaces_len]; omega)
  rw [gl0_eq]
  intro q hq
  rw [List.mem_singleton] at hq
  subst hq
  refine ⟨fun v hv => ?_, c, ty, h1, ?_⟩
  · obtain ⟨z, _, rfl⟩ := List.mem_map.1 hv
    rfl
  · rw [h2]; exact VRL_spaces spaces
theorem own0 : ownKnob Tryz.prog.godebug = none := by kernel_rfl
/-- A law of numbers and bools that returns true on all. -/
theorem law0 {g : Nat} {fn : Func} {b : Code} (hf : Tryz.prog.funcs[g]? = some fn) (hname : (fn.name == "runtime.NumGoroutine") = false) (hb : fn.body = some b) {args : List AV} (hx : runs g args = true) {laid : List (String × DataW Unit)} {w : World} (h : laidMet Tryz.prog laid w)
    (hm : ("strings.asciiSpace", Rows.laid_strings_asciiSpace) ∈ laid) {args' : List Value} (hv : VRL (initE gl0) args args') : Calls Tryz.prog g args'.toArray w fun en w' => en = .returned (.bool true) ∧ w.keptBut w' fun _ => False :=
  law_calls laid0 ck4 (C := C0) hf hname hb hx (holds0 h hm) hv
end Go.Proofs.YtldafmcioaijkaaGreatDoor
