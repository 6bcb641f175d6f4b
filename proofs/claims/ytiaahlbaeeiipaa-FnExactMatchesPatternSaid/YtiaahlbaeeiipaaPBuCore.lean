/- Plain facts on the core of calls, and on patterns: the reference's as the program's. No condition. -/
import Derived.Test.YtiaahlbaeeiipaaPBuInts
import Derived.Test.YtiaahlbaeeiipaaPBf61
import Derived.Test.YtiaahlbaeeiipaaPBf59
import Derived.Test.YtiaahlbaeeiipaaPBf17
import Derived.Test.YtiaahlbaeeiipaaPBf19
namespace Go.Proofs.Ytiaahlbaeeiipaa.PBu
open Go.RowKit Go.Proofs.Ytiaahlbaeeiipaa.PB Go.Proofs.YtiaahlbaeeiipaaW.PrintWords Go.Proofs.YtiaahlbaeeiipaaW.PrintLast

theorem core_run (x : List Int) (hx : x.length ≤ 1000000000) (d : Nat) : ∀ (k i : Nat), i + d = x.length → d < k → spec_l29Core.l0 k x i = some (impl_core.L (x.drop i)) := by
  induction d with
  | zero =>
    intro k i h hk
    obtain ⟨k, rfl⟩ : ∃ m, k = m + 1 := ⟨k - 1, by omega⟩
    simp only [spec_l29Core.l0, Option.bind_some, Int.toNat_natCast]
    rw [if_neg (by omega), if_pos (by omega), if_pos (by omega), List.drop_of_length_le (by omega)]
    simp [impl_core.L]
  | succ d ih =>
    intro k i h hk
    obtain ⟨k, rfl⟩ : ∃ m, k = m + 1 := ⟨k - 1, by omega⟩
    have hi : i < x.length := by omega
    simp only [spec_l29Core.l0, Option.bind_some, Int.toNat_natCast, rd_at hi]
    rw [if_pos (by omega), if_pos (by omega)]
    have e : x.drop i = x[i] :: x.drop (i + 1) := List.drop_eq_getElem_cons hi
    by_cases h0 : x[i] = 0
    · rw [if_pos h0, w64s (by omega), ih k (i + 1) (by omega) (by omega), e]
      simp [impl_core.L, h0]
    · rw [if_neg h0, if_pos (by omega), if_pos (by simp; omega)]
      rw [e]
      simp [impl_core.L, h0]
theorem core_eq (x : List Int) (k : Nat) (hx : x.length ≤ 1000000000) (h : x.length < k) : spec_l29Core.f k x = some (impl_core.L x) := by
  have := core_run x hx x.length k 0 (by omega) h
  unfold spec_l29Core.f
  simpa using this
theorem core_len (x : List Int) : (impl_core.L x).length ≤ x.length := by
  induction x with
  | nil => exact Nat.le_refl _
  | cons c l ih =>
    simp only [impl_core.L]
    split
    · simp; omega
    · simp

theorem match_run (p c : List Int) (hl : p.length = c.length) (hx : p.length ≤ 1000000000) (d : Nat) : ∀ (k i : Nat), i + d = p.length → d < k → spec_MatchesPattern.l0 k p c i = some (impl_MatchesPattern.eqs (p.drop i) (c.drop i)) := by
  induction d with
  | zero =>
    intro k i h hk
    obtain ⟨k, rfl⟩ : ∃ m, k = m + 1 := ⟨k - 1, by omega⟩
    simp only [spec_MatchesPattern.l0]
    rw [if_neg (by omega), List.drop_of_length_le (by omega), List.drop_of_length_le (by omega)]
    rfl
  | succ d ih =>
    intro k i h hk
    obtain ⟨k, rfl⟩ : ∃ m, k = m + 1 := ⟨k - 1, by omega⟩
    have hi : i < p.length := by omega
    have hi' : i < c.length := by omega
    simp only [spec_MatchesPattern.l0, rd_at hi, rd_at hi']
    rw [if_pos (by omega), if_pos (by omega), if_pos (by omega), List.drop_eq_getElem_cons hi, List.drop_eq_getElem_cons hi', w64s (by omega), ih k (i + 1) (by omega) (by omega)]
    simp only [impl_MatchesPattern.eqs]
    by_cases h1 : p[i] = -1
    · rw [if_pos h1]; simp [h1]
    · rw [if_neg h1]
      by_cases h2 : p[i] = c[i]
      · rw [if_pos h2]; simp [h2]
      · rw [if_neg h2]; simp [h1, h2]
theorem match_eq (p c : List Int) (k : Nat) (hp : p.length ≤ 1000000000) (hc : c.length ≤ 1000000000) (h : p.length + c.length < k) : spec_MatchesPattern.f k p c = some (impl_MatchesPattern.eqs p (impl_core.L c)) := by
  unfold spec_MatchesPattern.f
  rw [core_eq c k hc (by omega)]
  simp only [Option.bind_some]
  by_cases hl : p.length = (impl_core.L c).length
  · rw [if_pos (by omega)]
    have := match_run p (impl_core.L c) hl hp p.length k 0 (by omega) (by omega)
    simpa using this
  · rw [if_neg (by omega), impl_MatchesPattern.eqs_len p _ hl]
end Go.Proofs.Ytiaahlbaeeiipaa.PBu
