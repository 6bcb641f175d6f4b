/- The pure statement of FnExactMitchellMovement: at every number of tables the program's movement is the reference's; no condition. -/
import Derived.Test.YtiaahlbaeeiipaaPFnExactMitchellMovementx4
namespace Go.Proofs.Ytiaahlbaeeiipaa.Pure
open Go.RowKit Go.Proofs.Ytiaahlbaeeiipaa.PFnExactMitchellMovement Go.Proofs.YtiaahlbaeeiipaaW.PrintWords Go.Proofs.YtiaahlbaeeiipaaW.PrintLast

/-- Outside of 2 to 15 both return the range error. -/
theorem mitchell_out (a0 : Int) (h : a0 < 2 ∨ 15 < a0) : laws_FnExactMitchellMovement.f 9 a0 = some true := by
  have h1 : spec_l15In.f a0 2 15 = some false := by
    unfold spec_l15In.f
    rcases h with h | h
    · rw [if_neg (by omega)]
    · rw [if_pos (by omega), decide_eq_false (by omega)]
  have h2 : impl_within.f a0 2 15 = some false := by
    unfold impl_within.f
    rcases h with h | h
    · rw [if_neg (by omega)]
    · rw [if_pos (by omega), decide_eq_false (by omega)]
  have s : ∀ k, spec_MitchellMovement.f k a0 = some ([], 2) := fun k => by
    unfold spec_MitchellMovement.f; rw [h1]; rfl
  have i : ∀ k, impl_MitchellMovement.f k a0 = some ([], 2) := fun k => by
    unfold impl_MitchellMovement.f; rw [h2]; rfl
  simp only [laws_FnExactMitchellMovement.f, laws_FnExactMitchellMovement.j0, laws_FnExactMitchellMovement.j1, s, i, Option.bind_some]
  decide +kernel

set_option maxHeartbeats 4000000 in
theorem FnExactMitchellMovement : laws_FnExactMitchellMovement.Pure := by
  intro a0 _
  by_cases h : a0 < 2 ∨ 15 < a0
  · exact ⟨9, mitchell_out a0 h⟩
  · have : a0 = 2 ∨ a0 = 3 ∨ a0 = 4 ∨ a0 = 5 ∨ a0 = 6 ∨ a0 = 7 ∨ a0 = 8 ∨ a0 = 9 ∨ a0 = 10 ∨ a0 = 11 ∨ a0 = 12 ∨ a0 = 13 ∨ a0 = 14 ∨ a0 = 15 := by omega
    refine ⟨400, ?_⟩
    rcases this with rfl | rfl | rfl | rfl | rfl | rfl | rfl | rfl | rfl | rfl | rfl | rfl | rfl | rfl <;> decide +kernel

end Go.Proofs.Ytiaahlbaeeiipaa.Pure
