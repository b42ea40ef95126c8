/- The program's verify, flow and code, followed by hand: part 24. -/
import Derived.Test.YtmdcccegkamhaaaGreatDoorP23
import Derived.Test.YtmdcccegkamhaaaGreatDoorP15
set_option maxHeartbeats 4000000
set_option maxRecDepth 100000
set_option linter.unusedSectionVars false
set_option linter.unusedVariables false
set_option linter.unusedSimpArgs false
namespace Go.Proofs.Vf
open Go Go.Proofs Go.RowKit Go.Lib
open Go.Ab (Val AV VR VRL Holds globHp initE)
open Go.Proofs.YtmdcccegkamhaaaGreatDoor (gl0 cK known_nil)
noncomputable def strA (l : List UInt8) : AV := .str l.length (Go.Ab.packB l)
theorem str_inv [Val] {e : Go.Ab.Emb} {l : List UInt8} {v : Value} (h : VR e (strA l) v) : v = .string ⟨l.toArray⟩ := by
 unfold strA at h
 generalize hu : AV.str l.length (Go.Ab.packB l) = u at h
 cases h <;> first | (cases hu; done) | skip
 case str s =>
  injection hu with h1 h2
  have h3 : s.data.toList = l := Go.Ab.packB_inj _ _ (by rw [h1]; rfl) h2.symm
  congr 1
  obtain ⟨⟨d⟩⟩ := s
  cases h3; rfl
noncomputable def shapeB (o : Nat) : Bool := resIs (strA (shapeL o)) (cK [] 45 [.int .u8 (.ofNat o)] (globHp gl0 12))
noncomputable def funcB (d : Nat) : Bool := resIs (.tup [strA (funcL d), .bool true]) (cK [] 105 [.int .i64 (.ofNat d)] (globHp gl0 12))
noncomputable def allB (f : Nat → Bool) : Nat → Nat → Bool
 | _, 0 => true
 | k, n + 1 => f k && allB f (k + 1) n
theorem allB_at {f : Nat → Bool} : ∀ (n k i : Nat), allB f k n = true → k ≤ i → i < k + n → f i = true
 | 0, k, i, _, h1, h2 => absurd h2 (by omega)
 | n + 1, k, i, h, h1, h2 => by
   unfold allB at h
   rw [Bool.and_eq_true] at h
   by_cases hk : i = k
   · subst hk; exact h.1
   · exact allB_at n (k + 1) i h.2 (by omega) (by omega)
theorem shapeOK_of (hr : ∀ o, o < 256 → shapeB o = true) (W0 : World) (hh : @Holds val0 gl0 W0) : ShapeOK W0 := by
 intro w hb o ho
 letI : Val := val0
 have hw : Holds gl0 w := fun q hq => by
  obtain ⟨h1, cc, ty, h2, h3⟩ := hh q hq
  exact ⟨h1, cc, ty, (hb.block _ (Array.getElem?_eq_some_iff.1 h2).1).trans h2, h3⟩
 have hname : (Tryz.f45.name == "runtime.NumGoroutine") = false := by kernel_rfl
 refine (run_calls known_nil (by decide) Tryz.func45 hname rfl (hr o ho) hw (.cons _ _ _ _ (.int .u8 (o : Int)) .nil)).mono ?_
 rintro e w' ⟨u, e', rfl, hu, hbl⟩
 exact ⟨by rw [str_inv hu], hbl⟩
theorem funcOK_of (hr : ∀ d, d < 10 → funcB d = true) (W0 : World) (hh : @Holds val0 gl0 W0) : FuncOK W0 := by
 intro w hb d hd
 letI : Val := val0
 have hw : Holds gl0 w := fun q hq => by
  obtain ⟨h1, cc, ty, h2, h3⟩ := hh q hq
  exact ⟨h1, cc, ty, (hb.block _ (Array.getElem?_eq_some_iff.1 h2).1).trans h2, h3⟩
 have hname : (Tryz.f105.name == "runtime.NumGoroutine") = false := by kernel_rfl
 refine (run_calls known_nil (by decide) Tryz.func105 hname rfl (hr d hd) hw (.cons _ _ _ _ (.int .i64 (d : Int)) .nil)).mono ?_
 rintro e w' ⟨u, e', rfl, hu, hbl⟩
 refine ⟨?_, hbl⟩
 cases hu with
 | tup _ l' hl =>
   obtain ⟨a, b, rfl, h1, h2⟩ := args2 hl
   rw [str_inv h1]
   cases h2
   rfl
end Go.Proofs.Vf
namespace Go.Proofs.Vf
theorem shapes0 : allB shapeB 0 16 = true := by kernel_rfl
theorem shapes16 : allB shapeB 16 16 = true := by kernel_rfl
theorem shapes32 : allB shapeB 32 16 = true := by kernel_rfl
theorem shapes48 : allB shapeB 48 16 = true := by kernel_rfl
theorem shapes64 : allB shapeB 64 16 = true := by kernel_rfl
theorem shapes80 : allB shapeB 80 16 = true := by kernel_rfl
theorem shapes96 : allB shapeB 96 16 = true := by kernel_rfl
theorem shapes112 : allB shapeB 112 16 = true := by kernel_rfl
theorem shapes128 : allB shapeB 128 16 = true := by kernel_rfl
theorem shapes144 : allB shapeB 144 16 = true := by kernel_rfl
theorem shapes160 : allB shapeB 160 16 = true := by kernel_rfl
theorem shapes176 : allB shapeB 176 16 = true := by kernel_rfl
theorem shapes192 : allB shapeB 192 16 = true := by kernel_rfl
theorem shapes208 : allB shapeB 208 16 = true := by kernel_rfl
theorem shapes224 : allB shapeB 224 16 = true := by kernel_rfl
theorem shapes240 : allB shapeB 240 16 = true := by kernel_rfl
end Go.Proofs.Vf
