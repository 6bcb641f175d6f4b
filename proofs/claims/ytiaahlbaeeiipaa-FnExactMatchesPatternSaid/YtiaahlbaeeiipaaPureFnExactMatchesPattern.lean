/- The pure statement of FnExactMatchesPattern: for every pattern and all calls; no condition. -/
import Derived.Test.YtiaahlbaeeiipaaPBf3
import Derived.Test.YtiaahlbaeeiipaaPBuCore
namespace Go.Proofs.Ytiaahlbaeeiipaa.Pure
open Go.RowKit Go.Proofs.Ytiaahlbaeeiipaa.PB Go.Proofs.Ytiaahlbaeeiipaa.PBu Go.Proofs.YtiaahlbaeeiipaaW.PrintWords Go.Proofs.YtiaahlbaeeiipaaW.PrintLast

theorem FnExactMatchesPattern {G G' : Int → Prop} (p c : List Int) (_ : (∀ x ∈ p, G x) ∧ p.length * 8 ≤ 140737488351232 ∧ p.length ≤ 9223372036854775807) (_ : (∀ x ∈ c, G' x) ∧ c.length * 8 ≤ 140737488351232 ∧ c.length ≤ 9223372036854775807) : ∃ k, laws_FnExactMatchesPattern.f k p c = some true := by
  by_cases hp : p.length > 1048576
  · refine ⟨0, ?_⟩
    unfold laws_FnExactMatchesPattern.f
    rw [if_pos (by omega)]
  · by_cases hc : c.length > 1048576
    · refine ⟨0, ?_⟩
      unfold laws_FnExactMatchesPattern.f
      rw [if_neg (by omega), if_pos (by omega)]
    · refine ⟨3000000, ?_⟩
      have e1 := toI_eq p 3000000 (by omega) (by omega)
      have e2 := toI_eq c 3000000 (by omega) (by omega)
      have e3 := match_eq p c 3000000 (by omega) (by omega) (by omega)
      have e4 := eqI_self p 3000000 (by omega) (by omega)
      have e5 := eqI_self c 3000000 (by omega) (by omega)
      generalize (3000000 : Nat) = k at e1 e2 e3 e4 e5 ⊢
      unfold laws_FnExactMatchesPattern.f impl_MatchesPattern.f
      rw [if_neg (by omega), if_neg (by omega)]
      simp only [e1, e2, e3, e4, e5, Option.bind_some, bne_self_eq_false, Bool.false_eq_true, if_false, if_true]

end Go.Proofs.Ytiaahlbaeeiipaa.Pure
