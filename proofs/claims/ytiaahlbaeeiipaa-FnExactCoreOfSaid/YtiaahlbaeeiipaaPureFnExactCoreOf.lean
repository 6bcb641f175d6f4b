/- The pure statement of FnExactCoreOf: for all calls; no condition. -/
import Derived.Test.YtiaahlbaeeiipaaPBf4
import Derived.Test.YtiaahlbaeeiipaaPBuCore
namespace Go.Proofs.Ytiaahlbaeeiipaa.Pure
open Go.RowKit Go.Proofs.Ytiaahlbaeeiipaa.PB Go.Proofs.Ytiaahlbaeeiipaa.PBu Go.Proofs.YtiaahlbaeeiipaaW.PrintWords Go.Proofs.YtiaahlbaeeiipaaW.PrintLast

theorem FnExactCoreOf {G : Int → Prop} (c : List Int) (_ : (∀ x ∈ c, G x) ∧ c.length * 8 ≤ 140737488351232 ∧ c.length ≤ 9223372036854775807) : ∃ k, laws_FnExactCoreOf.f k c = some true := by
  by_cases hc : c.length > 1048576
  · refine ⟨0, ?_⟩
    unfold laws_FnExactCoreOf.f
    rw [if_pos (by omega)]
  · have hr := core_len c
    generalize hk : (3000000 : Nat) = k
    refine ⟨k + 1, ?_⟩
    have e1 := toI_eq c (k + 1) (by omega) (by omega)
    have e1' := toI_eq c k (by omega) (by omega)
    have e2 : spec_CoreOf.f (k + 1) c = some (impl_core.L c) := by
      unfold spec_CoreOf.f; rw [core_eq c (k + 1) (by omega) (by omega)]; rfl
    have e3 : impl_CoreOf.f c = some (impl_core.L c) := by
      unfold impl_CoreOf.f slices_Clone_int64_int64.f; rw [if_pos (by omega)]
    have e4 := eqI_self (impl_core.L c) (k + 1) (by omega) (by omega)
    have e4' := eqI_self (impl_core.L c) k (by omega) (by omega)
    have e5 := eqI_self c (k + 1) (by omega) (by omega)
    obtain ⟨c', m1, _, _⟩ := markI_eq c (k + 1) 1 (by omega) (by omega) (by omega)
    obtain ⟨r', m2, hl2, hm2⟩ := markI_eq (impl_core.L c) k 1 (by omega) (by omega) (by omega)
    have h2 := heldI_eq r' k 1 hm2 (by omega) (by omega) (by omega)
    rw [hl2] at h2
    have n1 : ¬ (1 + (c.length : Int)) < 0 := by omega
    have n2 : ¬ (1 + ((impl_core.L c).length : Int)) < 0 := by omega
    clear hc hr hk
    unfold laws_FnExactCoreOf.f
    split
    · rfl
    · simp only [e1, e2, e3, e4, e5, m1, Option.bind_some, if_true, Bool.not_true]
      rw [if_neg n1]
      simp only [laws_FnExactCoreOf.j0, m2, h2, e1', e3, e4', Option.bind_some, Bool.false_eq_true, if_false, if_true]
      rw [if_neg n2, if_neg n2]

end Go.Proofs.Ytiaahlbaeeiipaa.Pure
