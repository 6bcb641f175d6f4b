-- printed by wip/myprint.py out of the translation (the kit's print.py, jointly for several laws); Lean checks it.
import Derived.Test.YtiaahlbaeeiipaaPBf0
import Derived.Test.YtiaahlbaeeiipaaPBf61
import Derived.Test.YtiaahlbaeeiipaaPBf63
namespace Go.Proofs.Ytiaahlbaeeiipaa.PB
open Go.RowKit Go.Proofs.YtiaahlbaeeiipaaW.PrintWords Go.Proofs.YtiaahlbaeeiipaaW.PrintLast Go.Proofs.YtiaahlbaeeiipaaW.PrintMore
attribute [local go_sem] max2_int min2_int max_two min_two max_three min_three max_four min_four   -- for this text's walks alone
set_option linter.unusedVariables false
set_option linter.unusedSimpArgs false

/-! ### impl_CoreOf: function 22 -/
def impl_CoreOf.f (l0 : List Int) : Option (List Int) := slices_Clone_int64_int64.f (impl_core.L l0)
set_option maxHeartbeats 8000000 in
set_option maxRecDepth 100000 in
theorem impl_CoreOf.calls (A0 : Option Addr) (c0 : Nat) (l0 : List Int) (r : List Int) (w : World) (hr0 : Kd.C (Kd.int .i64) w A0 l0.length l0) (hc0 : l0.length ≤ c0) (h : impl_CoreOf.f l0 = some r) :
  Calls Try.prog 22 #[.slice A0 l0.length c0] w fun e w' => ∃ v0_ : Value, e = .returned (v0_) ∧ Kd.R (Kd.int .i64) 2 w' w.heap.size (fun _ => True) v0_ r ∧ Below w.heap.size w w' := by
 have H := Aside0.mk h
 have HR := Aside0.mk hr0
 clear h hr0
 go_enter Try.func22, Try.ntmps22
 go_wp2_with (first | (go_at_call 61; refine (impl_core.cut _ _ _ _ HR.out hc0).mono ?_; rintro e w' ⟨A, c, rfl, hC, hc, rfl⟩; have HC1 := Aside0.mk hC; have HC2 := Aside0.mk hc; clear hC hc) | (go_at_call 63; refine (slices_Clone_int64_int64.calls _ _ _ r _ HC1.out HC2.out H.out).mono ?_; rintro e w' ⟨v, rfl, hO, hB⟩; have HO := Aside0.mk hO; have HB := Aside0.mk hB; clear hO hB))
 go_ret
 exact ⟨_, rfl, HO.out, HB.out⟩


end Go.Proofs.Ytiaahlbaeeiipaa.PB
