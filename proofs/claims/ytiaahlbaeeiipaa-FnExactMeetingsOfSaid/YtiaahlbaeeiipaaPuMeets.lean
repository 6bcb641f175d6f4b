/- Plain facts on what a pair meets or plays in a movement, as printed: the reference's answer is the program's, in closed form. -/
import Derived.Test.YtiaahlbaeeiipaaPuMovA
import Derived.Test.YtiaahlbaeeiipaaPAf48
import Derived.Test.YtiaahlbaeeiipaaPAf44
namespace Go.Proofs.Ytiaahlbaeeiipaa.Pu
open Go.RowKit Go.Proofs.Ytiaahlbaeeiipaa.PA Go.Proofs.YtiaahlbaeeiipaaW.PrintWords Go.Proofs.YtiaahlbaeeiipaaW.PrintLast

theorem code_eq (x : List S62) (a : Int) (k : Nat) (b : Bool) (h : spec_IsMovement.f k x = some b) : spec_l32Code.f k x a = some (if b = true then if pr a = true then 0 else 2 else 1) := by
  unfold spec_l32Code.f
  rw [h]
  cases b
  · simp
  · simp only [Option.bind_some, if_true, l15]
    cases pr a <;> simp

/-- Both pairs of a sitting are 64-bit integers. -/
def InR (y : S62) : Prop := (-9223372036854775808 ≤ y.f2 ∧ y.f2 ≤ 9223372036854775807) ∧ (-9223372036854775808 ≤ y.f3 ∧ y.f3 ≤ 9223372036854775807)
theorem of_l (y : S62) (h : InR y) : impl_MeetingsOf.of y.f2 y = y.f3 := by
  unfold InR at h; unfold impl_MeetingsOf.of wrap64; omega
theorem of_r (y : S62) (h : InR y) : impl_MeetingsOf.of y.f3 y = y.f2 := by
  unfold InR at h; unfold impl_MeetingsOf.of wrap64; omega

theorem meets_l0 (x : List S62) (a : Int) (hx : x.length ≤ 1000000000) (hr : ∀ i : Nat, i < x.length → InR (rd_T62 x i)) (d : Nat) : ∀ (i k : Nat), i + d = x.length →
    spec_l32Meetings.l0 (k + d + 1) x a (impl_MeetingsOf.L a (x.take i)) i = some (impl_MeetingsOf.L a x) := by
  induction d with
  | zero =>
    intro i k h
    simp only [spec_l32Meetings.l0]
    rw [if_neg (by omega), List.take_of_length_le (by omega)]
  | succ d ih =>
    intro i k h
    have ih' := ih (i + 1) k (by omega)
    rw [impl_MeetingsOf.L_snoc a x i (by omega)] at ih'
    have hl := impl_MeetingsOf.L_len a x i
    have hri := hr i (by omega)
    rw [show k + (d + 1) + 1 = k + d + 1 + 1 by omega]
    generalize k + d + 1 = K at ih' ⊢
    simp only [spec_l32Meetings.l0]
    rw [if_pos (by omega), if_pos (by omega), w64s (by omega), if_pos (show (impl_MeetingsOf.L a (x.take i)).length < 17592186044416 by omega), if_pos (show (impl_MeetingsOf.L a (x.take i)).length < 17592186044416 by omega)]
    unfold impl_MeetingsOf.pl at ih'
    by_cases h2 : a = (rd_T62 x i).f2
    · subst h2
      rw [of_l _ hri] at ih'
      simpa using ih'
    · have n2 : ((rd_T62 x i).f2 == a) = false := by simp; exact fun h => h2 h.symm
      rw [if_neg h2]
      by_cases h3 : a = (rd_T62 x i).f3
      · subst h3
        rw [of_r _ hri] at ih'
        simpa using ih'
      · have n3 : ((rd_T62 x i).f3 == a) = false := by simp; exact fun h => h3 h.symm
        rw [if_neg h3]
        rw [n2, n3] at ih'
        simpa using ih'

/-- The program's MeetingsOf is the reference's. -/
theorem meets_eq (x : List S62) (a : Int) (hx : x.length ≤ 1000000000) (hr : ∀ i : Nat, i < x.length → InR (rd_T62 x i)) : ∃ (R : List Int) (E : Int) (m : Nat), R.length ≤ x.length ∧ ∀ k, m ≤ k → spec_MeetingsOf.f k x a = some (R, E) ∧ impl_MeetingsOf.f k x a = some (R, E) := by
  obtain ⟨b, m, hb⟩ := mov_eq x hx
  refine ⟨if b = true then if pr a = true then impl_MeetingsOf.L a x else [] else [], if b = true then if pr a = true then 0 else 2 else 1, m + x.length + 1, ?_, fun k hk => ?_⟩
  · have h := impl_MeetingsOf.L_len a x x.length
    rw [List.take_of_length_le (Nat.le_refl _)] at h
    split
    · split
      · exact h
      · simp
    · simp
  · obtain ⟨e1, e2⟩ := hb k (by omega)
    refine ⟨?_, ?_⟩
    · unfold spec_MeetingsOf.f
      rw [code_eq x a k b e1]
      have := meets_l0 x a hx hr x.length 0 (k - x.length - 1) (by omega)
      rw [show k - x.length - 1 + x.length + 1 = k by omega, show ((0 : Nat) : Int) = 0 from rfl] at this
      have h0 : impl_MeetingsOf.L a (x.take 0) = [] := rfl
      rw [h0] at this
      cases b
      · simp
      · cases pr a
        · simp
        · simp [this, spec_l32Meetings.f]
    · unfold impl_MeetingsOf.f
      rw [e2, Option.bind_some, if_pos (by omega)]
      have : impl_MeetingsOf.pr a = pr a := rfl
      rw [this]
end Go.Proofs.Ytiaahlbaeeiipaa.Pu
