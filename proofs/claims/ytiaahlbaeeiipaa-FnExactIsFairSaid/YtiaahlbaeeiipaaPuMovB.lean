/- Plain facts on fair movements as printed: the program's answer is the reference's, and both are told in closed form. No condition. -/
import Derived.Test.YtiaahlbaeeiipaaPuMovA
import Derived.Test.YtiaahlbaeeiipaaPAf36
import Derived.Test.YtiaahlbaeeiipaaPAf37
namespace Go.Proofs.Ytiaahlbaeeiipaa.Pu
open Go.RowKit Go.Proofs.Ytiaahlbaeeiipaa.PA Go.Proofs.YtiaahlbaeeiipaaW.PrintWords Go.Proofs.YtiaahlbaeeiipaaW.PrintLast

/-- Does a pair play at the sitting j? -/
def pl (x : List S62) (j : Nat) (p : Int) : Bool := (rd_T62 x j).f2 == p || (rd_T62 x j).f3 == p
/-- Are the sittings i and j against fairness? -/
def bad (x : List S62) (i j : Nat) : Bool := (pl x j (rd_T62 x i).f2 && pl x j (rd_T62 x i).f3) || (((rd_T62 x i).f4 == (rd_T62 x j).f4) && (pl x j (rd_T62 x i).f2 || pl x j (rd_T62 x i).f3))
def anyBad (x : List S62) (i : Nat) : Nat → Nat → Bool
  | _, 0 => false
  | j, d + 1 => bad x i j || anyBad x i (j + 1) d
def fairFrom (x : List S62) : Nat → Nat → Bool
  | _, 0 => true
  | i, d + 1 => !anyBad x i 0 i && fairFrom x (i + 1) d
def fairL (x : List S62) : Bool := fairFrom x 0 x.length

theorem spec_l1 (x : List S62) (hx : x.length ≤ 1000000000) (i : Nat) (hi : i < x.length) (d : Nat) : ∀ (j k : Nat), j + d = i →
    spec_IsFair.l1 (k + 2 * d + 1) x i j = if anyBad x i j d = true then some false else spec_IsFair.l0 k x (i + 1 : Nat) := by
  induction d with
  | zero =>
    intro j k h
    simp only [spec_IsFair.l1, anyBad]
    rw [if_neg (by omega), w64s (by omega)]
    simp
  | succ d ih =>
    intro j k h
    have hb : spec_IsFair.j2 (k + 2 * d + 1 + 1) x i j (bad x i j) = if anyBad x i j (d + 1) = true then some false else spec_IsFair.l0 k x (i + 1 : Nat) := by
      have e : anyBad x i j (d + 1) = (bad x i j || anyBad x i (j + 1) d) := rfl
      generalize anyBad x i j (d + 1) = q at e ⊢
      subst e
      simp only [spec_IsFair.j2]
      by_cases hbad : bad x i j = true
      · rw [if_pos hbad]; simp [hbad]
      · rw [if_neg hbad, w64s (by omega), ih (j + 1) k (by omega)]
        simp [hbad]
    rw [← hb]
    rw [show k + 2 * (d + 1) + 1 = k + 2 * d + 1 + 1 + 1 by omega]
    simp only [spec_IsFair.l1, sits, Option.bind_some]
    rw [if_pos (by omega), if_pos (by omega), if_pos (by omega), if_pos (by omega), if_pos (by omega)]
    simp only [bad, pl]
    by_cases h4 : (rd_T62 x i).f4 = (rd_T62 x j).f4
    · simp only [h4, if_true, beq_self_eq_true, Bool.true_and]
      generalize ((rd_T62 x j).f2 == (rd_T62 x i).f2 || (rd_T62 x j).f3 == (rd_T62 x i).f2) = p
      generalize ((rd_T62 x j).f2 == (rd_T62 x i).f3 || (rd_T62 x j).f3 == (rd_T62 x i).f3) = q
      cases p <;> cases q <;> simp
    · simp only [h4, if_false, beq_eq_false_iff_ne.2 h4, Bool.false_and, Bool.or_false]
      generalize ((rd_T62 x j).f2 == (rd_T62 x i).f2 || (rd_T62 x j).f3 == (rd_T62 x i).f2) = p
      generalize ((rd_T62 x j).f2 == (rd_T62 x i).f3 || (rd_T62 x j).f3 == (rd_T62 x i).f3) = q
      cases p <;> cases q <;> simp

theorem spec_l0 (x : List S62) (hx : x.length ≤ 1000000000) (d : Nat) : ∀ (i : Nat), i + d = x.length → ∃ m, ∀ k, m ≤ k → spec_IsFair.l0 k x i = some (fairFrom x i d) := by
  induction d with
  | zero =>
    intro i h
    refine ⟨1, fun k hk => ?_⟩
    obtain ⟨k, rfl⟩ : ∃ n, k = n + 1 := ⟨k - 1, by omega⟩
    simp only [spec_IsFair.l0, fairFrom]; rw [if_neg (by omega)]
  | succ d ih =>
    intro i h
    obtain ⟨m, hm⟩ := ih (i + 1) (by omega)
    refine ⟨m + 2 * i + 2, fun k hk => ?_⟩
    obtain ⟨k, rfl⟩ : ∃ n, k = n + 2 * i + 1 + 1 := ⟨k - 2 * i - 2, by omega⟩
    simp only [spec_IsFair.l0, fairFrom]
    rw [if_pos (by omega)]
    have := spec_l1 x hx i (by omega) i 0 k (by omega)
    rw [show ((0 : Nat) : Int) = 0 from rfl] at this
    rw [this, hm k (by omega)]
    cases anyBad x i 0 i <;> simp

theorem rd_take (x : List S62) (i j : Nat) (h : j < i) : rd_T62 (x.take i) (j : Int) = rd_T62 x j := by
  unfold rd_T62
  simp [List.getD_eq_getElem?_getD, h]

theorem impl_l1 (x : List S62) (hx : x.length ≤ 1000000000) (i : Nat) (hi : i < x.length) (d : Nat) : ∀ (j k : Nat), j + d = i →
    impl_IsFair.l1 (k + 2 * d + 1) x x (x.length : Int) i (x.take i) (i : Int) j (rd_T62 x i).f0 (rd_T62 x i).f1 (rd_T62 x i).f2 (rd_T62 x i).f3 (rd_T62 x i).f4 = if anyBad x i j d = true then some false else impl_IsFair.l0 k x x (x.length : Int) (i + 1 : Nat) := by
  induction d with
  | zero =>
    intro j k h
    simp only [impl_IsFair.l1, anyBad]
    rw [if_neg (by omega), w64s (by omega)]
    simp
  | succ d ih =>
    intro j k h
    have hb : impl_IsFair.j2 (k + 2 * d + 1 + 1) x x (x.length : Int) i (x.take i) (i : Int) j (bad x i j) (rd_T62 x i).f0 (rd_T62 x i).f1 (rd_T62 x i).f2 (rd_T62 x i).f3 (rd_T62 x i).f4 = if anyBad x i j (d + 1) = true then some false else impl_IsFair.l0 k x x (x.length : Int) (i + 1 : Nat) := by
      have e : anyBad x i j (d + 1) = (bad x i j || anyBad x i (j + 1) d) := rfl
      generalize anyBad x i j (d + 1) = q at e ⊢
      subst e
      simp only [impl_IsFair.j2]
      by_cases hbad : bad x i j = true
      · rw [if_pos hbad]; simp [hbad]
      · rw [if_neg hbad, w64s (by omega), ih (j + 1) k (by omega)]
        simp [hbad]
    rw [← hb]
    rw [show k + 2 * (d + 1) + 1 = k + 2 * d + 1 + 1 + 1 by omega]
    simp only [impl_IsFair.l1, plays, Option.bind_some, rd_take x i j (by omega)]
    rw [if_pos (by omega), if_pos (by omega), if_pos (by rw [List.length_take]; omega)]
    simp only [bad, pl]
    generalize ((rd_T62 x j).f2 == (rd_T62 x i).f2 || (rd_T62 x j).f3 == (rd_T62 x i).f2) = p
    generalize ((rd_T62 x j).f2 == (rd_T62 x i).f3 || (rd_T62 x j).f3 == (rd_T62 x i).f3) = q
    cases p <;> cases q <;> simp

theorem impl_l0 (x : List S62) (hx : x.length ≤ 1000000000) (d : Nat) : ∀ (i : Nat), i + d = x.length → ∃ m, ∀ k, m ≤ k → impl_IsFair.l0 k x x (x.length : Int) i = some (fairFrom x i d) := by
  induction d with
  | zero =>
    intro i h
    refine ⟨1, fun k hk => ?_⟩
    obtain ⟨k, rfl⟩ : ∃ n, k = n + 1 := ⟨k - 1, by omega⟩
    simp only [impl_IsFair.l0, fairFrom]; rw [if_neg (by omega)]
  | succ d ih =>
    intro i h
    obtain ⟨m, hm⟩ := ih (i + 1) (by omega)
    refine ⟨m + 2 * i + 2, fun k hk => ?_⟩
    obtain ⟨k, rfl⟩ : ∃ n, k = n + 2 * i + 1 + 1 := ⟨k - 2 * i - 2, by omega⟩
    simp only [impl_IsFair.l0, fairFrom, Option.bind_some, Int.toNat_natCast]
    rw [if_pos (by omega), if_pos (by omega), if_pos (by omega), if_pos (by omega)]
    have := impl_l1 x hx i (by omega) i 0 k (by omega)
    rw [show ((0 : Nat) : Int) = 0 from rfl] at this
    rw [List.length_take, Nat.min_eq_left (by omega), this, hm k (by omega)]
    cases anyBad x i 0 i <;> simp

/-- The program's IsFair is the reference's. -/
theorem fair_eq (x : List S62) (hx : x.length ≤ 1000000000) : ∃ (b : Bool) (m : Nat), ∀ k, m ≤ k → spec_IsMovement.f k x = some b ∧ impl_IsMovement.f k x = some b ∧ spec_IsFair.f k x = some (b && fairL x) ∧ impl_IsFair.f k x = some (b && fairL x) := by
  obtain ⟨b, m, hb⟩ := mov_eq x hx
  obtain ⟨m1, h1⟩ := spec_l0 x hx x.length 0 (by omega)
  obtain ⟨m2, h2⟩ := impl_l0 x hx x.length 0 (by omega)
  refine ⟨b, m + m1 + m2, fun k hk => ?_⟩
  obtain ⟨e1, e2⟩ := hb k (by omega)
  refine ⟨e1, e2, ?_, ?_⟩
  · unfold spec_IsFair.f
    rw [e1]
    have := h1 k (by omega)
    rw [show ((0 : Nat) : Int) = 0 from rfl] at this
    cases b <;> simp [this, fairL]
  · unfold impl_IsFair.f
    rw [e2]
    have := h2 k (by omega)
    rw [show ((0 : Nat) : Int) = 0 from rfl] at this
    cases b <;> simp [this, fairL]
end Go.Proofs.Ytiaahlbaeeiipaa.Pu
