/- The row of the law FnExactMatchesPattern: whatever its parameters, it returns true and leaves them as they were; no condition. -/
import Derived.Test.YtiaahlbaeeiipaaRows
import Derived.Test.YtiaahlbaeeiipaaPBf3
import Derived.Test.YtiaahlbaeeiipaaPureFnExactMatchesPattern
import Derived.Test.YtiaahlbaeeiipaaOpen
import Derived.WalkKit
import Derived.ProofKit
import Derived.OpenShut
import Derived.ShutString
import Derived.ChangeOld
import Derived.Below
import Derived.SizedLaws
namespace Go.Proofs.Ytiaahlbaeeiipaa.fnExactMatchesPattern
open Go.ChangeShapes Go.WideShapes Go.ChangeAt Go.RowKit
open Go.ChangeMaps (open_string shut_string)
open Go.Proofs.YtiaahlbaeeiipaaOpen Go.Proofs.Ytiaahlbaeeiipaa.PB Go.Proofs.YtiaahlbaeeiipaaW.PrintWords
set_option linter.unusedVariables false
theorem own : ownKnob Try.prog.godebug = none := by kernel_rfl
theorem laidOut : laidOutB Try.prog = true := by kernel_rfl
set_option maxRecDepth 100000 in
theorem lifted (os : Os) (started : os.Started) (H : Type) (enc : TypeId × Value → H) :
    ReturnsInHanded {} Try.checked os 3 .any (Rows.fnExactMatchesPatternSpec.pre6 enc Try.prog Try.f3 Rows.fnExactMatchesPatternRow.domain false) (Rows.fnExactMatchesPatternSpec.post enc Try.prog Try.f3 false true false false) := by
  refine returnsInHanded_of_change_sized (C := Try.checked) own started (by kernel_rfl) Try.func3
    (ChangeSpec.witness6 (enc := enc) (C := Try.checked) false ⟨#[], #[.slice none 0 0, .slice none 0 0], []⟩ 8 (by kernel_rfl) (by kernel_rfl) (by kernel_rfl) (by kernel_rfl)) ?_
  intro W base args ds gs before hval0 hW hcnd hsz0 _
  have hsz : (DataW.weightsEach Try.prog (Try.f3.params.toList ++ Rows.fnExactMatchesPatternSpec.plain.varTypes Try.prog) (ds ++ gs)).all (· ≤ reachBytes) = true := hsz0
  have hval : ∀ (j : Nat) t v, Try.f3.params[j]? = some t → args[j]? = some v → Value.okWide Try.prog W .any base t v := hval0
  have hW' := hW
  obtain ⟨p, q, hA0, hV, rfl, hfz, hnd⟩ := hW
  have hA : DataW.TrodAll enc Try.prog W 0 (fun _ => true) true Try.f3.params.toList args.toList ds p := hA0
  rw [Try.params3] at hA hval hsz
  obtain ⟨v0, vs0, d0, ds0, p0, q0, hargs, rfl, rfl, h0, r0⟩ := trodAll_cons hA
  obtain ⟨v1, vs1, d1, ds1, p1, q1, rfl, rfl, rfl, h1, r1⟩ := trodAll_cons r0
  obtain ⟨rfl, rfl, rfl⟩ := trodAll_nil r1
  obtain rfl : args = #[v0, v1] := by cases args; simp_all
  obtain ⟨rfl, rfl⟩ := trodVars_none hV
  have lt0 : ∀ x ∈ p0, x.block < W.heap.size := by obtain ⟨m, hm⟩ := h0; exact DataW.trod_lt m _ _ _ hm
  obtain ⟨A0, n0, c0, rfl⟩ := okWide_slice Try.underlying22 (hval 0 22 v0 rfl rfl)
  obtain ⟨l0, ⟨A', c', e', hc0, hC0⟩, G0⟩ := Opens.param 0 (opens_slice (B := 8) 2 (0 : Int) Try.underlying22 (opens_int Try.underlying2) (by kernel_rfl) (by kernel_rfl)) h0 hsz rfl rfl
  simp [Value.cells] at e'
  obtain ⟨rfl, rfl, rfl⟩ := e'
  have lt1 : ∀ x ∈ p1, x.block < W.heap.size := by obtain ⟨m, hm⟩ := h1; exact DataW.trod_lt m _ _ _ hm
  obtain ⟨A1, n1, c1, rfl⟩ := okWide_slice Try.underlying22 (hval 1 22 v1 rfl rfl)
  obtain ⟨l1, ⟨A', c', e', hc1, hC1⟩, G1⟩ := Opens.param 1 (opens_slice (B := 8) 2 (0 : Int) Try.underlying22 (opens_int Try.underlying2) (by kernel_rfl) (by kernel_rfl)) h1 hsz rfl rfl
  simp [Value.cells] at e'
  obtain ⟨rfl, rfl, rfl⟩ := e'
  clear hA0 hval0 hsz0 hsz
  obtain ⟨k, h⟩ := Pure.FnExactMatchesPattern l0 l1 G0 G1
  refine (laws_FnExactMatchesPattern.calls k _ _ l0 _ _ l1 true W hC0 hc0 hC1 hc1 h).mono fun e W' ⟨he, bel⟩ => ?_
  subst he
  exact ⟨_, rfl, _, _, _, [], _, [], hW', trodAll_mk1 (shut_bool Try.underlying4 _), (trodAll_cons_mk (Below.trod laidOut (by kernel_rfl) (of_decide_eq_true (by kernel_rfl)) h0 bel lt0) (trodAll_cons_mk (Below.trod laidOut (by kernel_rfl) (of_decide_eq_true (by kernel_rfl)) h1 bel lt1) trodAll_mk0)), rfl, bel.frame _, fun h => by cases h⟩
theorem over : Rows.fnExactMatchesPatternRow.holds Try.pinned (OpenSpec.ofChange Rows.fnExactMatchesPatternSpec) :=
  OpenClaim.holds_of_wide 3 Try.f3 rfl rfl rfl rfl rfl rfl rfl ⟨rfl, rfl, rfl, rfl, rfl⟩ rfl rfl rfl rfl rfl (by kernel_rfl) Try.func3 (by kernel_rfl)
    (of_decide_eq_true (by kernel_rfl)) (by unfold Func.isWrapper; first | (rw [if_pos (by decide +kernel)]; kernel_rfl) | (rw [if_neg (by decide +kernel)]; exact ⟨rfl, rfl⟩))
    (fun os started H enc _ => lifted os started H enc)
theorem proved : Rows.FnExactMatchesPatternSaid := over
#print axioms proved
end Go.Proofs.Ytiaahlbaeeiipaa.fnExactMatchesPattern
namespace Go.Proofs.Ytiaahlbaeeiipaa
/-- The row, under a short name, for the claim. -/
theorem fnExactMatchesPattern_holds : Rows.FnExactMatchesPatternSaid := fnExactMatchesPattern.proved
end Go.Proofs.Ytiaahlbaeeiipaa
