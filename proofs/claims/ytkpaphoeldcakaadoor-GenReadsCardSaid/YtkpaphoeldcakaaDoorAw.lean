/- The law's own examples: a closed run. -/
import Derived.Test.YtkpaphoeldcakaaDoorAbS2
namespace Go.Proofs.YtkpaphoeldcakaaDoor
open Go Go.Ab
theorem aw_run : runsW [] 6 [] = true := by kernel_rfl
theorem lawV {l : List Kn} (hl : ∀ q ∈ l, Known q) {g : Nat} {fn : Func} {b : Code} (hgy : Nat.ble yF g = false) (hf : Tryd.prog.funcs[g]? = some fn) (hname : (fn.name == "runtime.NumGoroutine") = false) (hb : fn.body = some b) {args : List AV} (hx : runsW l g args = true) {w : World} (h : Holds gl0 w)
    {args' : List Value} (hv : VRL (initE gl0) args args') : Calls Tryd.prog g args'.toArray w fun en w' => en = .returned (.bool true) ∧ w'.os = w.os ∧ w'.output = w.output ∧ ∀ i, i < w.heap.size → w'.heap[i]? = w.heap[i]? :=
  law_calls2 laid0 (ck_ok l hl) (C := C0) hgy hf hname hb hx h hv
set_option maxRecDepth 100000 in
theorem awake_any {w : World} (h : Holds gl0 w) : Calls Tryd.prog 6 #[] w fun en w' => en = .returned (.bool true) ∧ w'.os = w.os ∧ w'.output = w.output ∧ ∀ i, i < w.heap.size → w'.heap[i]? = w.heap[i]? := by
  have hy : Nat.ble Go.Ab.yF 6 = false := by kernel_rfl
  have hname : (Tryd.f6.name == "runtime.NumGoroutine") = false := by kernel_rfl
  have hv : Go.Ab.VRL (Go.Ab.initE gl0) [] [] := .nil
  exact @lawV [] known_nil 6 Tryd.f6 _ hy Tryd.func6 hname rfl [] aw_run w h [] hv
theorem holds_on {gl : List (Nat × List AV)} {w w' : World} (h : Holds gl w) (hb : ∀ i, i < w.heap.size → w'.heap[i]? = w.heap[i]?) : Holds gl w' := by
  intro q hq
  obtain ⟨h1, c, ty, h2, h3⟩ := h q hq
  exact ⟨h1, c, ty, (hb _ (Array.getElem?_eq_some_iff.1 h2).1).trans h2, h3⟩
end Go.Proofs.YtkpaphoeldcakaaDoor
