/- Plain facts on what a pair meets or plays in a movement, as printed: the reference's answer is the program's, in closed form. -/
import Derived.Test.YtiaahlbaeeiipaaPuMovA
import Derived.Test.YtiaahlbaeeiipaaPAf46
import Derived.Test.YtiaahlbaeeiipaaPAf47
namespace Go.Proofs.Ytiaahlbaeeiipaa.Pu
open Go.RowKit Go.Proofs.Ytiaahlbaeeiipaa.PA Go.Proofs.YtiaahlbaeeiipaaW.PrintWords Go.Proofs.YtiaahlbaeeiipaaW.PrintLast

theorem code_eq (x : List S62) (a : Int) (k : Nat) (b : Bool) (h : spec_IsMovement.f k x = some b) : spec_l32Code.f k x a = some (if b = true then if pr a = true then 0 else 2 else 1) := by
  unfold spec_l32Code.f
  rw [h]
  cases b
  · simp
  · simp only [Option.bind_some, if_true, l15]
    cases pr a <;> simp

theorem sets_l0 (x : List S62) (a : Int) (hx : x.length ≤ 1000000000) (d : Nat) : ∀ (i k : Nat), i + d = x.length →
    spec_SetsOf.l0 (k + d + 1) x a (impl_SetsOf.L a (x.take i)) i = some (impl_SetsOf.L a x, 0) := by
  induction d with
  | zero =>
    intro i k h
    simp only [spec_SetsOf.l0]
    rw [if_neg (by omega), List.take_of_length_le (by omega)]
  | succ d ih =>
    intro i k h
    have ih' := ih (i + 1) k (by omega)
    rw [impl_SetsOf.L_snoc a x i (by omega)] at ih'
    have hl := impl_SetsOf.L_len a x i
    rw [show k + (d + 1) + 1 = k + d + 1 + 1 by omega]
    generalize k + d + 1 = K at ih' ⊢
    simp only [spec_SetsOf.l0, sits, Option.bind_some]
    rw [if_pos (by omega), if_pos (by omega), w64s (by omega), if_pos (show (impl_SetsOf.L a (x.take i)).length < 17592186044416 by omega)]
    unfold impl_SetsOf.pl at ih'
    by_cases hp : ((rd_T62 x i).f2 == a || (rd_T62 x i).f3 == a) = true
    · rw [if_pos hp] at ih' ⊢; exact ih'
    · rw [if_neg hp] at ih' ⊢; exact ih'

/-- The program's SetsOf is the reference's. -/
theorem sets_eq (x : List S62) (a : Int) (hx : x.length ≤ 1000000000) : ∃ (R : List Int) (E : Int) (m : Nat), R.length ≤ x.length ∧ ∀ k, m ≤ k → spec_SetsOf.f k x a = some (R, E) ∧ impl_SetsOf.f k x a = some (R, E) := by
  obtain ⟨b, m, hb⟩ := mov_eq x hx
  refine ⟨if b = true then if pr a = true then impl_SetsOf.L a x else [] else [], if b = true then if pr a = true then 0 else 2 else 1, m + x.length + 1, ?_, fun k hk => ?_⟩
  · have h := impl_SetsOf.L_len a x x.length
    rw [List.take_of_length_le (Nat.le_refl _)] at h
    split
    · split
      · exact h
      · simp
    · simp
  · obtain ⟨e1, e2⟩ := hb k (by omega)
    refine ⟨?_, ?_⟩
    · unfold spec_SetsOf.f
      rw [code_eq x a k b e1]
      have := sets_l0 x a hx x.length 0 (k - x.length - 1) (by omega)
      rw [show k - x.length - 1 + x.length + 1 = k by omega, show ((0 : Nat) : Int) = 0 from rfl] at this
      have h0 : impl_SetsOf.L a (x.take 0) = [] := rfl
      rw [h0] at this
      cases b
      · simp
      · cases pr a
        · simp
        · simp [this]
    · unfold impl_SetsOf.f
      rw [e2, Option.bind_some, if_pos (by omega)]
      have : impl_SetsOf.pr a = pr a := rfl
      rw [this]
end Go.Proofs.Ytiaahlbaeeiipaa.Pu
