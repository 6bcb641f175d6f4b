/- Plain facts on unshared movements as printed: the reference's answer in the closed form that the program's walk gives. No condition. -/
import Derived.Test.YtiaahlbaeeiipaaPuMovA
import Derived.Test.YtiaahlbaeeiipaaPAf38
import Derived.Test.YtiaahlbaeeiipaaPAf39
namespace Go.Proofs.Ytiaahlbaeeiipaa.Pu
open Go.RowKit Go.Proofs.Ytiaahlbaeeiipaa.PA Go.Proofs.YtiaahlbaeeiipaaW.PrintWords Go.Proofs.YtiaahlbaeeiipaaW.PrintLast

theorem un_l1 (x : List S62) (hx : x.length ≤ 1000000000) (i : Nat) (hi : i < x.length) (d : Nat) : ∀ (j k : Nat), j + d = i →
    spec_IsUnshared.l1 (k + d + 1) x i j = if ((x.take i).drop j).any (impl_IsUnshared.p (rd_T62 x i)) = true then some false else spec_IsUnshared.l0 k x (i + 1 : Nat) := by
  induction d with
  | zero =>
    intro j k h
    simp only [spec_IsUnshared.l1]
    rw [if_neg (by omega), w64s (by omega), List.drop_of_length_le (by rw [List.length_take]; omega)]
    simp
  | succ d ih =>
    intro j k h
    have hj : j < (x.take i).length := by rw [List.length_take]; omega
    have hg : (x.take i)[j] = rd_T62 x (j : Int) := by
      rw [List.getElem_take]
      unfold rd_T62
      rw [Int.toNat_natCast, List.getD_eq_getElem?_getD, List.getElem?_eq_getElem (by omega)]; rfl
    rw [List.drop_eq_getElem_cons hj, hg, List.any_cons]
    rw [show k + (d + 1) + 1 = k + d + 1 + 1 by omega]
    have ih' := ih (j + 1) k (by omega)
    generalize k + d + 1 = K at ih' ⊢
    simp only [spec_IsUnshared.l1]
    rw [if_pos (by omega), if_pos (by omega), if_pos (by omega), if_pos (by omega), if_pos (by omega), w64s (by omega), ih']
    unfold impl_IsUnshared.p
    by_cases h0 : (rd_T62 x i).f0 = (rd_T62 x j).f0
    · by_cases h4 : (rd_T62 x i).f4 = (rd_T62 x j).f4
      · simp [h0, h4]
      · simp [h0, h4]
    · simp [h0]

theorem un_l0 (x : List S62) (hx : x.length ≤ 1000000000) (d : Nat) : ∀ (i : Nat), i + d = x.length → ∃ m, ∀ k, m ≤ k → spec_IsUnshared.l0 k x i = some ((List.range' i d).all (impl_IsUnshared.ok x)) := by
  induction d with
  | zero =>
    intro i h
    refine ⟨1, fun k hk => ?_⟩
    obtain ⟨k, rfl⟩ : ∃ n, k = n + 1 := ⟨k - 1, by omega⟩
    simp only [spec_IsUnshared.l0]; rw [if_neg (by omega)]; rfl
  | succ d ih =>
    intro i h
    obtain ⟨m, hm⟩ := ih (i + 1) (by omega)
    refine ⟨m + i + 2, fun k hk => ?_⟩
    obtain ⟨k, rfl⟩ : ∃ n, k = n + i + 1 + 1 := ⟨k - i - 2, by omega⟩
    simp only [spec_IsUnshared.l0]
    rw [if_pos (by omega)]
    have := un_l1 x hx i (by omega) i 0 k (by omega)
    rw [show ((0 : Nat) : Int) = 0 from rfl] at this
    rw [this, hm k (by omega), List.range'_succ, List.all_cons]
    simp only [List.drop_zero, impl_IsUnshared.ok]
    generalize (x.take i).any (impl_IsUnshared.p (rd_T62 x i)) = q
    cases q <;> simp

/-- The program's IsUnshared is the reference's. -/
theorem unsh_eq (x : List S62) (hx : x.length ≤ 1000000000) : ∃ (b : Bool) (m : Nat), ∀ k, m ≤ k → spec_IsUnshared.f k x = some b ∧ impl_IsUnshared.f k x = some b := by
  obtain ⟨b, m, hb⟩ := mov_eq x hx
  obtain ⟨m1, h1⟩ := un_l0 x hx x.length 0 (by omega)
  refine ⟨b && impl_IsUnshared.L x, m + m1, fun k hk => ?_⟩
  obtain ⟨e1, e2⟩ := hb k (by omega)
  refine ⟨?_, ?_⟩
  · unfold spec_IsUnshared.f
    rw [e1]
    have := h1 k (by omega)
    rw [show ((0 : Nat) : Int) = 0 from rfl] at this
    cases b <;> simp [this, impl_IsUnshared.L, List.range_eq_range']
  · unfold impl_IsUnshared.f
    rw [e2]
    cases b <;> simp
end Go.Proofs.Ytiaahlbaeeiipaa.Pu
