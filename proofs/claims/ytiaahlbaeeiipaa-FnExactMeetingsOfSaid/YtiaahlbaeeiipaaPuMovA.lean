/- Plain facts on the movements' functions as printed: what is copied, compared, marked; valid movements: the program's answer is the reference's. No condition. -/
import Derived.Test.YtiaahlbaeeiipaaPAf27
import Derived.Test.YtiaahlbaeeiipaaPAf29
import Derived.Test.YtiaahlbaeeiipaaPAf32
import Derived.Test.YtiaahlbaeeiipaaPAf33
import Derived.Test.YtiaahlbaeeiipaaPAf26
import Derived.Test.YtiaahlbaeeiipaaPAf28
namespace Go.Proofs.Ytiaahlbaeeiipaa.Pu
open Go.RowKit Go.Proofs.Ytiaahlbaeeiipaa.PA Go.Proofs.YtiaahlbaeeiipaaW.PrintWords Go.Proofs.YtiaahlbaeeiipaaW.PrintLast

theorem w64 {x : Int} (h0 : -9223372036854775808 ≤ x) (h1 : x ≤ 9223372036854775807) : wrap64 x = x := by
  unfold wrap64; omega
theorem w64s {i : Nat} (h : i ≤ 1000000000000) : wrap64 ((i : Int) + 1) = ((i + 1 : Nat) : Int) := by
  rw [w64 (by omega) (by omega)]; omega
theorem w64p {i : Nat} (h : i ≤ 1000000000000) : wrap64 (((i + 1 : Nat) : Int) - 1) = (i : Int) := by
  rw [w64 (by omega) (by omega)]; omega

/-! ### copies -/
def conv (x : S66) : S62 := ⟨x.f0, x.f1, x.f2, x.f3, x.f4⟩

theorem to_run (d : Nat) : ∀ (l : List S66) (acc : List S62) (k i : Nat), l.length - i = d → i ≤ l.length → d < k → acc.length = l.length → l.length ≤ 1000000000 →
    laws_toSittingS.l0 k l acc i = some (acc.take i ++ (l.drop i).map conv) := by
  induction d with
  | zero =>
    intro l acc k i h1 h2 h3 h4 h5
    obtain ⟨k, rfl⟩ : ∃ m, k = m + 1 := ⟨k - 1, by omega⟩
    simp only [laws_toSittingS.l0]; rw [if_neg (by omega)]
    rw [List.take_of_length_le (by omega), List.drop_of_length_le (by omega)]; simp
  | succ d ih =>
    intro l acc k i h1 h2 h3 h4 h5
    obtain ⟨k, rfl⟩ : ∃ m, k = m + 1 := ⟨k - 1, by omega⟩
    have hi : i < l.length := by omega
    have hr : rd_T66 l i = l[i] := by
      unfold rd_T66; rw [Int.toNat_natCast, List.getD_eq_getElem?_getD, List.getElem?_eq_getElem hi]; rfl
    simp only [laws_toSittingS.l0, laws_toSitting.f, Option.bind_some, hr]
    rw [if_pos (by omega), if_pos (by omega), if_pos (by omega), w64s (by omega), Int.toNat_natCast]
    rw [ih l _ k (i + 1) (by omega) (by omega) (by omega) (by simp [h4]) h5]
    congr 1
    rw [List.take_set, List.drop_eq_getElem_cons hi]
    have hm : i < (acc.take (i + 1)).length := by rw [List.length_take]; omega
    rw [List.set_eq_take_append_cons_drop, if_pos hm, List.take_take, Nat.min_eq_left (by omega), List.drop_of_length_le (by rw [List.length_take]; omega)]
    rw [List.map_cons, List.append_assoc]
    rfl

theorem to_eq (l : List S66) (k : Nat) (h : l.length < k) (hl : l.length ≤ 1000000000) : laws_toSittingS.f k l = some (l.map conv) := by
  unfold laws_toSittingS.f
  rw [if_pos (by omega), if_pos (by omega)]
  have := to_run l.length l (List.replicate ((l.length : Int)).toNat z62) k 0 (by omega) (by omega) (by omega) (by simp) hl
  simpa using this

/-! ### comparisons -/
theorem eq_self_run (l : List S62) (hl : l.length ≤ 1000000000) (d : Nat) : ∀ (k i : Nat), l.length - i = d → i ≤ l.length → d < k → laws_eqSittingS.l0 k l l i = some true := by
  induction d with
  | zero =>
    intro k i h1 h2 h3
    obtain ⟨k, rfl⟩ : ∃ m, k = m + 1 := ⟨k - 1, by omega⟩
    simp only [laws_eqSittingS.l0]; rw [if_neg (by omega)]
  | succ d ih =>
    intro k i h1 h2 h3
    obtain ⟨k, rfl⟩ : ∃ m, k = m + 1 := ⟨k - 1, by omega⟩
    simp only [laws_eqSittingS.l0, laws_eqSitting.f]
    rw [if_pos (by omega), if_pos (by omega), if_pos (by omega)]
    simp only [if_true, Option.bind_some]
    rw [w64s (by omega)]
    exact ih k (i + 1) (by omega) (by omega) (by omega)
theorem eq_self (l : List S62) (k : Nat) (h : l.length < k) (hl : l.length ≤ 1000000000) : laws_eqSittingS.f k l l = some true := by
  unfold laws_eqSittingS.f; rw [if_pos rfl]; exact eq_self_run l hl l.length k 0 (by omega) (by omega) (by omega)

/-! ### marks -/
theorem rd_set {l : List S62} {i : Nat} {v : S62} (h : i < l.length) : rd_T62 (l.set i v) (i : Int) = v := by
  unfold rd_T62; simp [List.getD_eq_getElem?_getD, h]

theorem mark_step (l : List S62) (k : Nat) (x : Int) (i : Nat) (hi : i < l.length) (h0 : 0 ≤ x) (h1 : x ≤ 10000000000) (hl : l.length ≤ 1000000000) :
    laws_markSittingS.l0 (k + 1) l x i = laws_markSittingS.l0 k (l.set i ⟨x, x + 1, x + 2, x + 3, x + 4⟩) (x + 5) (i + 1 : Nat) := by
  have hi' : (i : Int) < (l.length : Int) := by omega
  have hi0 : (0 : Int) ≤ i := by omega
  have e1 : wrap64 (x + 1) = x + 1 := w64 (by omega) (by omega)
  have e2 : wrap64 (x + 1 + 1) = x + 2 := by rw [w64 (by omega) (by omega)]; omega
  have e3 : wrap64 (x + 2 + 1) = x + 3 := by rw [w64 (by omega) (by omega)]; omega
  have e4 : wrap64 (x + 3 + 1) = x + 4 := by rw [w64 (by omega) (by omega)]; omega
  have e5 : wrap64 (x + 4 + 1) = x + 5 := by rw [w64 (by omega) (by omega)]; omega
  have e6 : wrap64 ((i : Int) + 1) = (i + 1 : Nat) := w64s (by omega)
  simp only [laws_markSittingS.l0, Option.bind_some]
  rw [if_pos hi', if_pos hi0]
  simp only [e1, e2, e3, e4, e5, e6, Int.toNat_natCast, List.set_set]
  rw [rd_set hi, rd_set (by simpa using hi), rd_set (by simpa using hi), rd_set (by simpa using hi)]

/-- What a list holds that was marked from x on. -/
def Marked (l : List S62) (x : Int) : Prop := ∀ j : Nat, j < l.length → l[j]? = some ⟨x + 5 * j, x + 5 * j + 1, x + 5 * j + 2, x + 5 * j + 3, x + 5 * j + 4⟩

theorem mark_run (d : Nat) : ∀ (l : List S62) (k : Nat) (x : Int) (i : Nat), l.length - i = d → i ≤ l.length → d < k → 0 ≤ x → x + 5 * d ≤ 9000000000 → l.length ≤ 1000000000 →
    ∃ l', laws_markSittingS.l0 k l x i = some (x + 5 * d, l') ∧ l'.length = l.length ∧ (∀ j, j < i → l'[j]? = l[j]?) ∧
      ∀ j, i ≤ j → j < l.length → l'[j]? = some ⟨x + 5 * (j - i), x + 5 * (j - i) + 1, x + 5 * (j - i) + 2, x + 5 * (j - i) + 3, x + 5 * (j - i) + 4⟩ := by
  induction d with
  | zero =>
    intro l k x i h1 h2 h3 h4 h5 h6
    obtain ⟨k, rfl⟩ : ∃ m, k = m + 1 := ⟨k - 1, by omega⟩
    refine ⟨l, ?_, rfl, fun _ _ => rfl, fun j _ _ => by omega⟩
    simp only [laws_markSittingS.l0]; rw [if_neg (by omega)]; simp
  | succ d ih =>
    intro l k x i h1 h2 h3 h4 h5 h6
    obtain ⟨k, rfl⟩ : ∃ m, k = m + 1 := ⟨k - 1, by omega⟩
    rw [mark_step l k x i (by omega) h4 (by omega) h6]
    obtain ⟨l', h, hlen, hlo, hhi⟩ := ih (l.set i ⟨x, x + 1, x + 2, x + 3, x + 4⟩) k (x + 5) (i + 1) (by simp; omega) (by simp; omega) (by omega) (by omega) (by omega) (by simpa using h6)
    refine ⟨l', by rw [h]; congr 2; omega, by simpa using hlen, fun j hj => ?_, fun j hj hj2 => ?_⟩
    · rw [hlo j (by omega), List.getElem?_set_ne (by omega)]
    · by_cases e : j = i
      · subst e
        rw [hlo j (by omega), List.getElem?_set_self (by omega)]
        simp
      · rw [hhi j (by omega) (by simpa using hj2)]
        have : x + 5 + 5 * ((j : Int) - ((i + 1 : Nat) : Int)) = x + 5 * ((j : Int) - i) := by omega
        rw [this]

theorem mark_eq (l : List S62) (k : Nat) (x : Int) (h : l.length < k) (h0 : 0 ≤ x) (h1 : x + 5 * l.length ≤ 4000000000) : ∃ l', laws_markSittingS.f k l x = some (x + 5 * (l.length : Int), l') ∧ l'.length = l.length ∧ Marked l' x := by
  obtain ⟨l', h2, h3, _, h4⟩ := mark_run l.length l k x 0 (by omega) (by omega) h h0 (by omega) (by omega)
  refine ⟨l', h2, h3, fun j hj => ?_⟩
  have := h4 j (Nat.zero_le _) (by omega)
  simpa using this

theorem held_step (l : List S62) (k : Nat) (x : Int) (i : Nat) (hi : i < l.length) (h0 : 0 ≤ x) (h1 : x ≤ 10000000000) (hl : l.length ≤ 1000000000) (hr : rd_T62 l i = ⟨x, x + 1, x + 2, x + 3, x + 4⟩) :
    laws_heldSittingS.l0 (k + 1) l x i = laws_heldSittingS.l0 k l (x + 5) (i + 1 : Nat) := by
  have hi' : (i : Int) < (l.length : Int) := by omega
  have hi0 : (0 : Int) ≤ i := by omega
  have e1 : wrap64 (x + 1) = x + 1 := w64 (by omega) (by omega)
  have e2 : wrap64 (x + 1 + 1) = x + 2 := by rw [w64 (by omega) (by omega)]; omega
  have e3 : wrap64 (x + 2 + 1) = x + 3 := by rw [w64 (by omega) (by omega)]; omega
  have e4 : wrap64 (x + 3 + 1) = x + 4 := by rw [w64 (by omega) (by omega)]; omega
  have e5 : wrap64 (x + 4 + 1) = x + 5 := by rw [w64 (by omega) (by omega)]; omega
  have e6 : wrap64 ((i : Int) + 1) = (i + 1 : Nat) := w64s (by omega)
  simp only [laws_heldSittingS.l0, hr, e1, e2, e3, e4, e5, e6]
  rw [if_pos hi', if_pos hi0]
  simp only [if_true]

theorem held_run (l : List S62) (y : Int) (hm : Marked l y) (h0 : 0 ≤ y) (hl : y + 5 * l.length ≤ 4000000000) (d : Nat) : ∀ (k : Nat) (i : Nat), l.length - i = d → i ≤ l.length → d < k →
    laws_heldSittingS.l0 k l (y + 5 * i) i = some (y + 5 * l.length) := by
  induction d with
  | zero =>
    intro k i h1 h2 h3
    obtain ⟨k, rfl⟩ : ∃ m, k = m + 1 := ⟨k - 1, by omega⟩
    simp only [laws_heldSittingS.l0]; rw [if_neg (by omega), show i = l.length by omega]
  | succ d ih =>
    intro k i h1 h2 h3
    obtain ⟨k, rfl⟩ : ∃ m, k = m + 1 := ⟨k - 1, by omega⟩
    have hi : i < l.length := by omega
    have hr : rd_T62 l i = ⟨y + 5 * i, y + 5 * i + 1, y + 5 * i + 2, y + 5 * i + 3, y + 5 * i + 4⟩ := by
      unfold rd_T62
      rw [List.getD_eq_getElem?_getD, Int.toNat_natCast, hm i hi]
      rfl
    rw [held_step l k _ i hi (by omega) (by omega) (by omega) hr, show y + 5 * (i : Int) + 5 = y + 5 * ((i + 1 : Nat) : Int) by omega]
    exact ih k (i + 1) (by omega) (by omega) (by omega)

theorem held_eq (l : List S62) (k : Nat) (x : Int) (hm : Marked l x) (h : l.length < k) (h0 : 0 ≤ x) (h1 : x + 5 * l.length ≤ 4000000000) : laws_heldSittingS.f k l x = some (x + 5 * (l.length : Int)) := by
  have := held_run l x hm h0 h1 l.length k 0 (by omega) (by omega) h
  unfold laws_heldSittingS.f
  simpa using this

/-! ### valid movements -/
def pr (a : Int) : Bool := decide (0 ≤ a) && decide (a ≤ 29)
theorem l15 (a : Int) : spec_l15In.f a 0 29 = some (pr a) := by
  unfold spec_l15In.f pr
  by_cases h : 0 ≤ a
  · rw [if_pos h]; simp [h]
  · rw [if_neg h]; simp [h]
theorem isPair (a : Int) : impl_isPair.f a = some (pr a) := by
  unfold impl_isPair.f impl_within.f pr
  by_cases h : 0 ≤ a
  · rw [if_pos h]; simp [h]
  · rw [if_neg h]; simp [h]
theorem numbers (a b c d e : Int) : spec_l32Numbers.f a b c d e = some (pr a && (pr b && (pr c && (pr d && pr e)))) := by
  unfold spec_l32Numbers.f
  simp only [l15, Option.bind_some]
  cases pr a <;> cases pr b <;> cases pr c <;> cases pr d <;> simp
theorem sits (a b c d e x : Int) : spec_l32Sits.f a b c d e x = some (c == x || d == x) := by
  unfold spec_l32Sits.f
  by_cases h : c = x
  · rw [if_pos h]; simp [h]
  · rw [if_neg h]; simp [h]
theorem plays (a b c d e x : Int) : impl_plays.f a b c d e x = some (c == x || d == x) := by
  unfold impl_plays.f
  by_cases h : c = x
  · rw [if_pos h]; simp [h]
  · rw [if_neg h]; simp [h]

theorem mov_same (x : List S62) (k : Nat) : (∀ i, spec_IsMovement.l0 k x i = impl_IsMovement.l0 k x x (x.length : Int) i) ∧
    (∀ i b a0 a1 a2 a3 a4, spec_IsMovement.j1 k x i b a0 a1 a2 a3 a4 = impl_IsMovement.j1 k x i x (x.length : Int) i b a0 a1 a2 a3 a4) ∧
    (∀ i b a0 a1 a2 a3 a4, spec_IsMovement.j2 k x i b a0 a1 a2 a3 a4 = impl_IsMovement.j2 k x i x (x.length : Int) i b a0 a1 a2 a3 a4) ∧
    (∀ i j a0 a1 a2 a3 a4, spec_IsMovement.l1 k x i j a0 a1 a2 a3 a4 = impl_IsMovement.l1 k x j x (x.length : Int) i a0 a1 a2 a3 a4) ∧
    (∀ i j b a0 a1 a2 a3 a4, spec_IsMovement.j4 k x i j b a0 a1 a2 a3 a4 = impl_IsMovement.j4 k x j x (x.length : Int) i b a0 a1 a2 a3 a4) := by
  induction k with
  | zero => exact ⟨fun _ => rfl, fun _ _ _ _ _ _ _ => rfl, fun _ _ _ _ _ _ _ => rfl, fun _ _ _ _ _ _ _ => rfl, fun _ _ _ _ _ _ _ _ => rfl⟩
  | succ k ih =>
    obtain ⟨i0, i1, i2, i3, i4⟩ := ih
    refine ⟨fun i => ?_, fun i b a0 a1 a2 a3 a4 => ?_, fun i b a0 a1 a2 a3 a4 => ?_, fun i j a0 a1 a2 a3 a4 => ?_, fun i j b a0 a1 a2 a3 a4 => ?_⟩
    · simp only [spec_IsMovement.l0, impl_IsMovement.l0, numbers, isPair, Option.bind_some, i1]
      by_cases h : i < (x.length : Int)
      · simp only [if_pos h]
        congr 1
        generalize pr (rd_T62 x i).f0 = p0
        generalize pr (rd_T62 x i).f1 = p1
        generalize pr (rd_T62 x i).f2 = p2
        generalize pr (rd_T62 x i).f3 = p3
        generalize pr (rd_T62 x i).f4 = p4
        cases p0 <;> cases p1 <;> cases p2 <;> cases p3 <;> cases p4 <;> simp
      · simp only [if_neg h]
    · simp only [spec_IsMovement.j1, impl_IsMovement.j1, i2, GT.gt, GE.ge]
      congr 1
      simp only [eq_comm]
    · simp only [spec_IsMovement.j2, impl_IsMovement.j2, i3]
    · simp only [spec_IsMovement.l1, impl_IsMovement.l1, i4]
    · simp only [spec_IsMovement.j4, impl_IsMovement.j4, i3, i0, sits, plays]

theorem mov_l1_ends (x : List S62) (hx : x.length ≤ 1000000000) (i m : Nat) (hi : i < x.length) (hT : ∀ k, m ≤ k → ∃ b, spec_IsMovement.l0 k x (i + 1 : Nat) = some b) (a0 a1 a2 a3 a4 : Int) (d : Nat) :
    ∀ k, d ≤ i → m + 2 * d + 2 ≤ k → ∃ b, spec_IsMovement.l1 k x i ((d : Int) - 1) a0 a1 a2 a3 a4 = some b := by
  induction d with
  | zero =>
    intro k _ hk
    obtain ⟨k, rfl⟩ : ∃ n, k = n + 1 + 1 := ⟨k - 2, by omega⟩
    simp only [spec_IsMovement.l1, spec_IsMovement.j4]
    rw [if_neg (by omega), if_neg (by decide), w64s (by omega)]
    exact hT k (by omega)
  | succ d ih =>
    intro k hd hk
    obtain ⟨k, rfl⟩ : ∃ n, k = n + 1 + 1 := ⟨k - 2, by omega⟩
    have e : ((d + 1 : Nat) : Int) - 1 = (d : Int) := by omega
    simp only [spec_IsMovement.l1, spec_IsMovement.j4, e]
    rw [if_pos (by omega), if_pos (by omega), if_pos (by omega)]
    split
    · simp only [sits, Option.bind_some]
      rw [if_pos (by omega), if_pos (by omega)]
      split
      · exact ⟨_, rfl⟩
      · split
        · exact ⟨_, rfl⟩
        · rw [w64 (by omega) (by omega)]
          exact ih k (by omega) (by omega)
    · rw [w64s (by omega)]
      exact hT k (by omega)

theorem mov_ends (x : List S62) (hx : x.length ≤ 1000000000) (d : Nat) : ∀ (i : Nat), x.length - i = d → i ≤ x.length → ∃ m, ∀ k, m ≤ k → ∃ b, spec_IsMovement.l0 k x i = some b := by
  induction d with
  | zero =>
    intro i h1 h2
    refine ⟨1, fun k hk => ?_⟩
    obtain ⟨k, rfl⟩ : ∃ n, k = n + 1 := ⟨k - 1, by omega⟩
    simp only [spec_IsMovement.l0]; rw [if_neg (by omega)]; exact ⟨_, rfl⟩
  | succ d ih =>
    intro i h1 h2
    obtain ⟨m, hm⟩ := ih (i + 1) (by omega) (by omega)
    have hi : i < x.length := by omega
    have h2' : ∀ k b a0 a1 a2 a3 a4, m + 2 * i + 3 ≤ k → ∃ b', spec_IsMovement.j2 k x i b a0 a1 a2 a3 a4 = some b' := by
      intro k b a0 a1 a2 a3 a4 hk
      obtain ⟨k, rfl⟩ : ∃ n, k = n + 1 := ⟨k - 1, by omega⟩
      simp only [spec_IsMovement.j2]
      split
      · exact ⟨_, rfl⟩
      · rw [w64 (by omega) (by omega)]
        exact mov_l1_ends x hx i m hi hm a0 a1 a2 a3 a4 i k (Nat.le_refl _) (by omega)
    have h1' : ∀ k b a0 a1 a2 a3 a4, m + 2 * i + 4 ≤ k → ∃ b', spec_IsMovement.j1 k x i b a0 a1 a2 a3 a4 = some b' := by
      intro k b a0 a1 a2 a3 a4 hk
      obtain ⟨k, rfl⟩ : ∃ n, k = n + 1 := ⟨k - 1, by omega⟩
      simp only [spec_IsMovement.j1]
      split
      · exact ⟨_, rfl⟩
      · by_cases h0 : (i : Int) > 0
        · have e : wrap64 ((i : Int) - 1) = (i : Int) - 1 := w64 (by omega) (by omega)
          rw [if_pos h0, e, if_pos (by omega), if_pos (by omega)]
          split
          · exact h2' k _ _ _ _ _ _ (by omega)
          · split <;> exact h2' k _ _ _ _ _ _ (by omega)
        · rw [if_neg h0]
          exact h2' k _ _ _ _ _ _ (by omega)
    refine ⟨m + 2 * i + 5, fun k hk => ?_⟩
    obtain ⟨k, rfl⟩ : ∃ n, k = n + 1 := ⟨k - 1, by omega⟩
    simp only [spec_IsMovement.l0, numbers, Option.bind_some]
    rw [if_pos (by omega), if_pos (by omega)]
    split <;> exact h1' k _ _ _ _ _ _ (by omega)

/-- The program's IsMovement is the reference's, and both come to an answer. -/
theorem mov_eq (x : List S62) (hx : x.length ≤ 1000000000) : ∃ (b : Bool) (m : Nat), ∀ k, m ≤ k → spec_IsMovement.f k x = some b ∧ impl_IsMovement.f k x = some b := by
  obtain ⟨m, hm⟩ := mov_ends x hx x.length 0 (by omega) (by omega)
  obtain ⟨b, hb⟩ := hm m (Nat.le_refl _)
  refine ⟨b, m, fun k hk => ?_⟩
  have h1 : spec_IsMovement.f k x = some b := at_rounds (fun k => spec_IsMovement.mono x k) hk hb
  refine ⟨h1, ?_⟩
  rw [← h1]
  exact ((mov_same x k).1 0).symm
end Go.Proofs.Ytiaahlbaeeiipaa.Pu
