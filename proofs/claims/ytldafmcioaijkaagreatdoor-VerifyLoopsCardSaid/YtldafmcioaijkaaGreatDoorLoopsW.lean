/- Laws of numbers and bools, where other calls are known. -/
import Derived.Test.YtldafmcioaijkaaGreatDoorAbS2
namespace Go.Proofs.YtldafmcioaijkaaGreatDoor
open Go Go.Ab
/-- The call returns true. -/
noncomputable def runsW (l : List Kn) (g : Nat) (args : List AV) : Bool := R2.rec (motive := fun _ => Bool) (fun v _ => avEq v (.bool true)) (fun _ => false) (cK l g args (globHp gl0 12))
theorem lawW {l : List Kn} (hl : ∀ q ∈ l, Known q) {g : Nat} {fn : Func} {b : Code} (hf : Tryz.prog.funcs[g]? = some fn) (hname : (fn.name == "runtime.NumGoroutine") = false) (hb : fn.body = some b) {args : List AV} (hx : runsW l g args = true) {laid : List (String × DataW Unit)} {w : World} (h : laidMet Tryz.prog laid w)
    (hm : ("strings.asciiSpace", Rows.laid_strings_asciiSpace) ∈ laid) {args' : List Value} (hv : VRL (initE gl0) args args') : Calls Tryz.prog g args'.toArray w fun en w' => en = .returned (.bool true) ∧ w.keptBut w' fun _ => False :=
  law_calls laid0 (ck_ok l hl) (C := C0) hf hname hb hx (holds0 h hm) hv
end Go.Proofs.YtldafmcioaijkaaGreatDoor
