/- Plain facts on the copies, comparisons and marks of lists of integers, as printed. No condition. -/
import Derived.Test.YtiaahlbaeeiipaaPAf18
import Derived.Test.YtiaahlbaeeiipaaPAf20
import Derived.Test.YtiaahlbaeeiipaaPAf23
import Derived.Test.YtiaahlbaeeiipaaPAf24
namespace Go.Proofs.Ytiaahlbaeeiipaa.PAu
open Go.RowKit Go.Proofs.Ytiaahlbaeeiipaa.PA Go.Proofs.YtiaahlbaeeiipaaW.PrintWords Go.Proofs.YtiaahlbaeeiipaaW.PrintLast

theorem w64 {x : Int} (h0 : -9223372036854775808 ≤ x) (h1 : x ≤ 9223372036854775807) : wrap64 x = x := by
  unfold wrap64; omega
theorem w64s {i : Nat} (h : i ≤ 1000000000000) : wrap64 ((i : Int) + 1) = ((i + 1 : Nat) : Int) := by
  rw [w64 (by omega) (by omega)]; omega
theorem rd_at {l : List Int} {i : Nat} (h : i < l.length) : rd l (i : Int) = l[i] := by
  unfold rd; rw [Int.toNat_natCast, List.getD_eq_getElem?_getD, List.getElem?_eq_getElem h]; rfl

theorem toI_run (d : Nat) : ∀ (l acc : List Int) (k i : Nat), l.length - i = d → i ≤ l.length → d < k → acc.length = l.length → l.length ≤ 1000000000 →
    laws_toInt64S.l0 k l acc i = some (acc.take i ++ l.drop i) := by
  induction d with
  | zero =>
    intro l acc k i h1 h2 h3 h4 h5
    obtain ⟨k, rfl⟩ : ∃ m, k = m + 1 := ⟨k - 1, by omega⟩
    simp only [laws_toInt64S.l0]; rw [if_neg (by omega)]
    rw [List.take_of_length_le (by omega), List.drop_of_length_le (by omega)]; simp
  | succ d ih =>
    intro l acc k i h1 h2 h3 h4 h5
    obtain ⟨k, rfl⟩ : ∃ m, k = m + 1 := ⟨k - 1, by omega⟩
    have hi : i < l.length := by omega
    simp only [laws_toInt64S.l0, rd_at hi]
    rw [if_pos (by omega), if_pos (by omega), if_pos (by omega), w64s (by omega), Int.toNat_natCast]
    rw [ih l _ k (i + 1) (by omega) (by omega) (by omega) (by simp [h4]) h5]
    congr 1
    rw [List.take_set, List.drop_eq_getElem_cons hi]
    have hm : i < (acc.take (i + 1)).length := by rw [List.length_take]; omega
    rw [List.set_eq_take_append_cons_drop, if_pos hm, List.take_take, Nat.min_eq_left (by omega), List.drop_of_length_le (by rw [List.length_take]; omega)]
    rw [List.append_assoc]
    rfl
theorem toI_eq (l : List Int) (k : Nat) (h : l.length < k) (hl : l.length ≤ 1000000000) : laws_toInt64S.f k l = some l := by
  unfold laws_toInt64S.f
  rw [if_pos (by omega), if_pos (by omega)]
  have := toI_run l.length l (List.replicate ((l.length : Int)).toNat 0) k 0 (by omega) (by omega) (by omega) (by simp) hl
  simpa using this

theorem eqI_run (l : List Int) (hl : l.length ≤ 1000000000) (d : Nat) : ∀ (k i : Nat), l.length - i = d → i ≤ l.length → d < k → laws_eqInt64S.l0 k l l i = some true := by
  induction d with
  | zero =>
    intro k i h1 h2 h3
    obtain ⟨k, rfl⟩ : ∃ m, k = m + 1 := ⟨k - 1, by omega⟩
    simp only [laws_eqInt64S.l0]; rw [if_neg (by omega)]
  | succ d ih =>
    intro k i h1 h2 h3
    obtain ⟨k, rfl⟩ : ∃ m, k = m + 1 := ⟨k - 1, by omega⟩
    simp only [laws_eqInt64S.l0]
    rw [if_pos (by omega), if_pos (by omega), if_pos (by omega)]
    simp only [if_true]
    rw [w64s (by omega)]
    exact ih k (i + 1) (by omega) (by omega) (by omega)
theorem eqI_self (l : List Int) (k : Nat) (h : l.length < k) (hl : l.length ≤ 1000000000) : laws_eqInt64S.f k l l = some true := by
  unfold laws_eqInt64S.f; rw [if_pos rfl]; exact eqI_run l hl l.length k 0 (by omega) (by omega) (by omega)

/-- What a list holds that was marked from x on. -/
def MarkedI (l : List Int) (x : Int) : Prop := ∀ j : Nat, j < l.length → l[j]? = some (x + j)
theorem markI_run (d : Nat) : ∀ (l : List Int) (k : Nat) (x : Int) (i : Nat), l.length - i = d → i ≤ l.length → d < k → 0 ≤ x → x + d ≤ 9000000000 → l.length ≤ 1000000000 →
    ∃ l', laws_markInt64S.l0 k l x i = some (x + d, l') ∧ l'.length = l.length ∧ (∀ j, j < i → l'[j]? = l[j]?) ∧ ∀ j, i ≤ j → j < l.length → l'[j]? = some (x + (j - i)) := by
  induction d with
  | zero =>
    intro l k x i h1 h2 h3 h4 h5 h6
    obtain ⟨k, rfl⟩ : ∃ m, k = m + 1 := ⟨k - 1, by omega⟩
    refine ⟨l, ?_, rfl, fun _ _ => rfl, fun j _ _ => by omega⟩
    simp only [laws_markInt64S.l0]; rw [if_neg (by omega)]; simp
  | succ d ih =>
    intro l k x i h1 h2 h3 h4 h5 h6
    obtain ⟨k, rfl⟩ : ∃ m, k = m + 1 := ⟨k - 1, by omega⟩
    simp only [laws_markInt64S.l0]
    rw [if_pos (by omega), if_pos (by omega), w64s (by omega), w64 (x := x + 1) (by omega) (by omega), Int.toNat_natCast]
    obtain ⟨l', h, hlen, hlo, hhi⟩ := ih (l.set i x) k (x + 1) (i + 1) (by simp; omega) (by simp; omega) (by omega) (by omega) (by omega) (by simpa using h6)
    refine ⟨l', by rw [h]; congr 2; omega, by simpa using hlen, fun j hj => ?_, fun j hj hj2 => ?_⟩
    · rw [hlo j (by omega), List.getElem?_set_ne (by omega)]
    · by_cases e : j = i
      · subst e
        rw [hlo j (by omega), List.getElem?_set_self (by omega)]
        simp
      · rw [hhi j (by omega) (by simpa using hj2)]
        have : x + 1 + ((j : Int) - ((i + 1 : Nat) : Int)) = x + ((j : Int) - i) := by omega
        rw [this]
theorem markI_eq (l : List Int) (k : Nat) (x : Int) (h : l.length < k) (h0 : 0 ≤ x) (h1 : x + l.length ≤ 900000000) : ∃ l', laws_markInt64S.f k l x = some (x + (l.length : Int), l') ∧ l'.length = l.length ∧ MarkedI l' x := by
  obtain ⟨l', h2, h3, _, h4⟩ := markI_run l.length l k x 0 (by omega) (by omega) h h0 (by omega) (by omega)
  refine ⟨l', h2, h3, fun j hj => ?_⟩
  have := h4 j (Nat.zero_le _) (by omega)
  simpa using this
theorem heldI_run (l : List Int) (y : Int) (hm : MarkedI l y) (h0 : 0 ≤ y) (hl : y + l.length ≤ 900000000) (d : Nat) : ∀ (k : Nat) (i : Nat), l.length - i = d → i ≤ l.length → d < k →
    laws_heldInt64S.l0 k l (y + i) i = some (y + l.length) := by
  induction d with
  | zero =>
    intro k i h1 h2 h3
    obtain ⟨k, rfl⟩ : ∃ m, k = m + 1 := ⟨k - 1, by omega⟩
    simp only [laws_heldInt64S.l0]; rw [if_neg (by omega), show i = l.length by omega]
  | succ d ih =>
    intro k i h1 h2 h3
    obtain ⟨k, rfl⟩ : ∃ m, k = m + 1 := ⟨k - 1, by omega⟩
    have hi : i < l.length := by omega
    have hr : rd l i = y + i := by
      have := hm i hi
      rw [List.getElem?_eq_getElem hi] at this
      rw [rd_at hi]
      exact Option.some.inj this
    simp only [laws_heldInt64S.l0]
    rw [if_pos (by omega), if_pos (by omega), if_pos hr, w64s (by omega), w64 (x := y + i + 1) (by omega) (by omega), show y + (i : Int) + 1 = y + ((i + 1 : Nat) : Int) by omega]
    exact ih k (i + 1) (by omega) (by omega) (by omega)
theorem heldI_eq (l : List Int) (k : Nat) (x : Int) (hm : MarkedI l x) (h : l.length < k) (h0 : 0 ≤ x) (h1 : x + l.length ≤ 900000000) : laws_heldInt64S.f k l x = some (x + (l.length : Int)) := by
  have := heldI_run l x hm h0 h1 l.length k 0 (by omega) (by omega) h
  unfold laws_heldInt64S.f
  simpa using this
end Go.Proofs.Ytiaahlbaeeiipaa.PAu
