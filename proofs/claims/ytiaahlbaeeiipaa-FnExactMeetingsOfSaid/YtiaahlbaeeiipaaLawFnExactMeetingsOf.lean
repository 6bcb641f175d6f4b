/- The row of the law FnExactMeetingsOf: whatever its parameters, it returns true and leaves them as they were; no condition. -/
import Derived.Test.YtiaahlbaeeiipaaRows
import Derived.Test.YtiaahlbaeeiipaaPAf12
import Derived.Test.YtiaahlbaeeiipaaPureFnExactMeetingsOf
import Derived.Test.YtiaahlbaeeiipaaOpen
import Derived.WalkKit
import Derived.ProofKit
import Derived.OpenShut
import Derived.ShutString
import Derived.ChangeOld
import Derived.Below
import Derived.SizedLaws
namespace Go.Proofs.Ytiaahlbaeeiipaa.fnExactMeetingsOf
open Go.ChangeShapes Go.WideShapes Go.ChangeAt Go.RowKit
open Go.ChangeMaps (open_string shut_string)
open Go.Proofs.YtiaahlbaeeiipaaOpen Go.Proofs.Ytiaahlbaeeiipaa.PA Go.Proofs.YtiaahlbaeeiipaaW.PrintWords
set_option linter.unusedVariables false
theorem own : ownKnob Try.prog.godebug = none := by kernel_rfl
theorem laidOut : laidOutB Try.prog = true := by kernel_rfl
def G66 (x : S66) : Prop := ((Lit.int .i64 x.f0).wf = true) ∧ (((Lit.int .i64 x.f1).wf = true) ∧ (((Lit.int .i64 x.f2).wf = true) ∧ (((Lit.int .i64 x.f3).wf = true) ∧ ((Lit.int .i64 x.f4).wf = true))))
theorem opens66 : Opens Try.prog 66 k66 G66 := opens_struct (P := Try.prog) (t := 66) (fun x : S66 => (x.f0, x.f1, x.f2, x.f3, x.f4)) (fun p => (⟨p.1, p.2.1, p.2.2.1, p.2.2.2.1, p.2.2.2.2⟩ : S66)) (fun _ => rfl) Try.underlying66 (by kernel_rfl) (seg_cons rfl (by kernel_rfl) rfl (opens_int Try.underlying2) (seg_cons rfl (by kernel_rfl) rfl (opens_int Try.underlying2) (seg_cons rfl (by kernel_rfl) rfl (opens_int Try.underlying2) (seg_cons rfl (by kernel_rfl) rfl (opens_int Try.underlying2) (seg_one rfl (by kernel_rfl) (opens_int Try.underlying2))))))
set_option maxRecDepth 100000 in
theorem lifted (os : Os) (started : os.Started) (H : Type) (enc : TypeId × Value → H) :
    ReturnsInHanded {} Try.checked os 12 .any (Rows.fnExactMeetingsOfSpec.pre6 enc Try.prog Try.f12 Rows.fnExactMeetingsOfRow.domain false) (Rows.fnExactMeetingsOfSpec.post enc Try.prog Try.f12 false true false false) := by
  refine returnsInHanded_of_change_sized (C := Try.checked) own started (by kernel_rfl) Try.func12
    (ChangeSpec.witness6 (enc := enc) (C := Try.checked) false ⟨#[], #[.slice none 0 0, .int .i64 0], []⟩ 8 (by kernel_rfl) (by kernel_rfl) (by kernel_rfl) (by kernel_rfl)) ?_
  intro W base args ds gs before hval0 hW hcnd hsz0 _
  have hsz : (DataW.weightsEach Try.prog (Try.f12.params.toList ++ Rows.fnExactMeetingsOfSpec.plain.varTypes Try.prog) (ds ++ gs)).all (· ≤ reachBytes) = true := hsz0
  have hval : ∀ (j : Nat) t v, Try.f12.params[j]? = some t → args[j]? = some v → Value.okWide Try.prog W .any base t v := hval0
  have hW' := hW
  obtain ⟨p, q, hA0, hV, rfl, hfz, hnd⟩ := hW
  have hA : DataW.TrodAll enc Try.prog W 0 (fun _ => true) true Try.f12.params.toList args.toList ds p := hA0
  rw [Try.params12] at hA hval hsz
  obtain ⟨v0, vs0, d0, ds0, p0, q0, hargs, rfl, rfl, h0, r0⟩ := trodAll_cons hA
  obtain ⟨v1, vs1, d1, ds1, p1, q1, rfl, rfl, rfl, h1, r1⟩ := trodAll_cons r0
  obtain ⟨rfl, rfl, rfl⟩ := trodAll_nil r1
  obtain rfl : args = #[v0, v1] := by cases args; simp_all
  obtain ⟨rfl, rfl⟩ := trodVars_none hV
  have lt0 : ∀ x ∈ p0, x.block < W.heap.size := by obtain ⟨m, hm⟩ := h0; exact DataW.trod_lt m _ _ _ hm
  obtain ⟨A0, n0, c0, rfl⟩ := okWide_slice Try.underlying27 (hval 0 27 v0 rfl rfl)
  obtain ⟨l0, ⟨A', c', e', hc0, hC0⟩, G0⟩ := Opens.param 0 (opens_slice (B := 40) 66 z66 Try.underlying27 opens66 (by kernel_rfl) (by kernel_rfl)) h0 hsz rfl rfl
  simp [Value.cells] at e'
  obtain ⟨rfl, rfl, rfl⟩ := e'
  obtain ⟨a1, rfl, rfl, rfl, w1⟩ := open_int Try.underlying2 (hval 1 2 v1 rfl rfl) h1
  clear hA0 hval0 hsz0 hsz
  obtain ⟨k, h⟩ := Pure.FnExactMeetingsOf l0 a1 G0 w1
  refine (laws_FnExactMeetingsOf.calls k _ _ l0 a1 true W hC0 hc0 h).mono fun e W' ⟨he, bel⟩ => ?_
  subst he
  exact ⟨_, rfl, _, _, _, [], _, [], hW', trodAll_mk1 (shut_bool Try.underlying4 _), (trodAll_cons_mk (Below.trod laidOut (by kernel_rfl) (of_decide_eq_true (by kernel_rfl)) h0 bel lt0) (trodAll_cons_mk (shut_int Try.underlying2 w1) trodAll_mk0)), rfl, bel.frame _, fun h => by cases h⟩
theorem over : Rows.fnExactMeetingsOfRow.holds Try.pinned (OpenSpec.ofChange Rows.fnExactMeetingsOfSpec) :=
  OpenClaim.holds_of_wide 12 Try.f12 rfl rfl rfl rfl rfl rfl rfl ⟨rfl, rfl, rfl, rfl, rfl⟩ rfl rfl rfl rfl rfl (by kernel_rfl) Try.func12 (by kernel_rfl)
    (of_decide_eq_true (by kernel_rfl)) (by unfold Func.isWrapper; first | (rw [if_pos (by decide +kernel)]; kernel_rfl) | (rw [if_neg (by decide +kernel)]; exact ⟨rfl, rfl⟩))
    (fun os started H enc _ => lifted os started H enc)
theorem proved : Rows.FnExactMeetingsOfSaid := over
#print axioms proved
end Go.Proofs.Ytiaahlbaeeiipaa.fnExactMeetingsOf
namespace Go.Proofs.Ytiaahlbaeeiipaa
/-- The row, under a short name, for the claim. -/
theorem fnExactMeetingsOf_holds : Rows.FnExactMeetingsOfSaid := fnExactMeetingsOf.proved
end Go.Proofs.Ytiaahlbaeeiipaa
