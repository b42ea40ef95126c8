/- The law's own examples: a closed run. -/
import Derived.Test.YtmdcccegkamhaaaGreatDoorAbS2
import Derived.Test.YtmdcccegkamhaaaGreatDoorM0
import Derived.Test.YtmdcccegkamhaaaGreatDoorM1
import Derived.Test.YtmdcccegkamhaaaGreatDoorM2
import Derived.Test.YtmdcccegkamhaaaGreatDoorM3
import Derived.Test.YtmdcccegkamhaaaGreatDoorM4
set_option linter.unusedSectionVars false
set_option linter.unusedVariables false
set_option linter.unusedSimpArgs false
namespace Go.Proofs.YtmdcccegkamhaaaGreatDoor
open Go Go.Ab
variable [Val]
noncomputable def aw_all : List Kn := [sk2, sk1, sk3, sk4, sk5, sk8, sk7, sk6, sk11, sk10, sk9, sk15, sk14, sk13, sk17, sk21, sk20, sk19, sk22]
theorem aw_known : ∀ q ∈ aw_all, Known q := (known_cons sk2_known (known_cons sk1_known (known_cons sk3_known (known_cons sk4_known (known_cons sk5_known (known_cons sk8_known (known_cons sk7_known (known_cons sk6_known (known_cons sk11_known (known_cons sk10_known (known_cons sk9_known (known_cons sk15_known (known_cons sk14_known (known_cons sk13_known (known_cons sk17_known (known_cons sk21_known (known_cons sk20_known (known_cons sk19_known (known_cons sk22_known known_nil)))))))))))))))))))
theorem aw_run : runsW aw_all 7 [] = true := by kernel_rfl
theorem lawV {l : List Kn} (hl : ∀ q ∈ l, Known q) {g : Nat} {fn : Func} {b : Code} (hgy : Nat.ble yF g = false) (hf : Tryz.prog.funcs[g]? = some fn) (hname : (fn.name == "runtime.NumGoroutine") = false) (hb : fn.body = some b) {args : List AV} (hx : runsW l g args = true) {w : World} (h : Holds gl0 w)
    {args' : List Value} (hv : VRL (initE gl0) args args') : Calls Tryz.prog g args'.toArray w fun en w' => en = .returned (.bool true) ∧ w'.os = w.os ∧ w'.output = w.output ∧ ∀ i, i < w.heap.size → w'.heap[i]? = w.heap[i]? :=
  law_calls2 laid0 (ck_ok l hl) (C := C0) hgy hf hname hb hx h hv
set_option maxRecDepth 100000 in
theorem awake_any {w : World} (h : Holds gl0 w) : Calls Tryz.prog 7 #[] w fun en w' => en = .returned (.bool true) ∧ w'.os = w.os ∧ w'.output = w.output ∧ ∀ i, i < w.heap.size → w'.heap[i]? = w.heap[i]? := by
  have hy : Nat.ble Go.Ab.yF 7 = false := by kernel_rfl
  have hname : (Tryz.f7.name == "runtime.NumGoroutine") = false := by kernel_rfl
  have hv : Go.Ab.VRL (Go.Ab.initE gl0) [] [] := .nil
  exact @lawV _ aw_all aw_known 7 Tryz.f7 _ hy Tryz.func7 hname rfl [] aw_run w h [] hv
theorem holds_on {gl : List (Nat × List AV)} {w w' : World} (h : Holds gl w) (hb : ∀ i, i < w.heap.size → w'.heap[i]? = w.heap[i]?) : Holds gl w' := by
  intro q hq
  obtain ⟨h1, c, ty, h2, h3⟩ := h q hq
  exact ⟨h1, c, ty, (hb _ (Array.getElem?_eq_some_iff.1 h2).1).trans h2, h3⟩
end Go.Proofs.YtmdcccegkamhaaaGreatDoor
