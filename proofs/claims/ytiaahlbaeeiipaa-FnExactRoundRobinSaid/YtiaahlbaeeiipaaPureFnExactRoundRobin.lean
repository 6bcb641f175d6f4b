/- The pure statement of FnExactRoundRobin: at every number of pairs the program's movement is the reference's; no condition. -/
import Derived.Test.YtiaahlbaeeiipaaPFnExactRoundRobinx4
namespace Go.Proofs.Ytiaahlbaeeiipaa.Pure
open Go.RowKit Go.Proofs.Ytiaahlbaeeiipaa.PFnExactRoundRobin Go.Proofs.YtiaahlbaeeiipaaW.PrintWords Go.Proofs.YtiaahlbaeeiipaaW.PrintLast

theorem w64 {x : Int} (h0 : -9223372036854775808 ≤ x) (h1 : x ≤ 9223372036854775807) : wrap64 x = x := by
  unfold wrap64; omega

theorem rd_set {l : List S62} {i : Nat} {v : S62} (h : i < l.length) : rd_T62 (l.set i v) (i : Int) = v := by
  unfold rd_T62; simp [List.getD_eq_getElem?_getD, h]

theorem eq_self (l : List S62) (hl : l.length ≤ 1000000) (d : Nat) : ∀ (k i : Nat), l.length - i = d → i ≤ l.length → d < k →
    laws_eqSittingS.l0 k l l i = some true := by
  induction d with
  | zero =>
    intro k i h1 h2 h3
    obtain ⟨k, rfl⟩ : ∃ m, k = m + 1 := ⟨k - 1, by omega⟩
    simp only [laws_eqSittingS.l0]; rw [if_neg (by omega)]
  | succ d ih =>
    intro k i h1 h2 h3
    obtain ⟨k, rfl⟩ : ∃ m, k = m + 1 := ⟨k - 1, by omega⟩
    simp only [laws_eqSittingS.l0, laws_eqSitting.f]
    rw [if_pos (by omega), if_pos (by omega), if_pos (by omega)]
    simp only [if_true, Option.bind_some]
    rw [w64 (by omega) (by omega)]
    exact ih k (i + 1) (by omega) (by omega) (by omega)

theorem mark_step (l : List S62) (k : Nat) (x : Int) (i : Nat) (hi : i < l.length) (h0 : 0 ≤ x) (h1 : x ≤ 10000000) (hl : l.length ≤ 1000000) :
    laws_markSittingS.l0 (k + 1) l x i = laws_markSittingS.l0 k (l.set i ⟨x, x + 1, x + 2, x + 3, x + 4⟩) (x + 5) (i + 1 : Nat) := by
  have e1 : wrap64 (x + 1) = x + 1 := w64 (by omega) (by omega)
  have e2 : wrap64 (x + 1 + 1) = x + 2 := by rw [w64 (by omega) (by omega)]; omega
  have e3 : wrap64 (x + 2 + 1) = x + 3 := by rw [w64 (by omega) (by omega)]; omega
  have e4 : wrap64 (x + 3 + 1) = x + 4 := by rw [w64 (by omega) (by omega)]; omega
  have e5 : wrap64 (x + 4 + 1) = x + 5 := by rw [w64 (by omega) (by omega)]; omega
  have e6 : wrap64 ((i : Int) + 1) = (i + 1 : Nat) := by rw [w64 (by omega) (by omega)]; omega
  simp only [laws_markSittingS.l0, Option.bind_some]
  rw [if_pos (by omega), if_pos (by omega)]
  simp only [e1, e2, e3, e4, e5, e6, Int.toNat_natCast, List.set_set]
  rw [rd_set hi, rd_set (by simpa using hi), rd_set (by simpa using hi), rd_set (by simpa using hi)]

theorem mark_run (d : Nat) : ∀ (l : List S62) (k : Nat) (x : Int) (i : Nat), l.length - i = d → i ≤ l.length → d < k → 0 ≤ x → x + 5 * d ≤ 9000000 → l.length ≤ 1000000 →
    ∃ l', laws_markSittingS.l0 k l x i = some (x + 5 * d, l') ∧ l'.length = l.length ∧ (∀ j, j < i → l'[j]? = l[j]?) ∧
      ∀ j, i ≤ j → j < l.length → l'[j]? = some ⟨x + 5 * (j - i), x + 5 * (j - i) + 1, x + 5 * (j - i) + 2, x + 5 * (j - i) + 3, x + 5 * (j - i) + 4⟩ := by
  induction d with
  | zero =>
    intro l k x i h1 h2 h3 h4 h5 h6
    obtain ⟨k, rfl⟩ : ∃ m, k = m + 1 := ⟨k - 1, by omega⟩
    refine ⟨l, ?_, rfl, fun _ _ => rfl, fun j _ _ => by omega⟩
    simp only [laws_markSittingS.l0]; rw [if_neg (by omega)]; simp
  | succ d ih =>
    intro l k x i h1 h2 h3 h4 h5 h6
    obtain ⟨k, rfl⟩ : ∃ m, k = m + 1 := ⟨k - 1, by omega⟩
    rw [mark_step l k x i (by omega) h4 (by omega) h6]
    obtain ⟨l', h, hlen, hlo, hhi⟩ := ih (l.set i ⟨x, x + 1, x + 2, x + 3, x + 4⟩) k (x + 5) (i + 1) (by simp; omega) (by simp; omega) (by omega) (by omega) (by omega) (by simpa using h6)
    refine ⟨l', by rw [h]; congr 2; omega, by simpa using hlen, fun j hj => ?_, fun j hj hj2 => ?_⟩
    · rw [hlo j (by omega), List.getElem?_set_ne (by omega)]
    · by_cases e : j = i
      · subst e
        rw [hlo j (by omega), List.getElem?_set_self (by omega)]
        simp
      · rw [hhi j (by omega) (by simpa using hj2)]
        have : x + 5 + 5 * ((j : Int) - ((i + 1 : Nat) : Int)) = x + 5 * ((j : Int) - i) := by omega
        rw [this]

theorem held_step (l : List S62) (k : Nat) (x : Int) (i : Nat) (hi : i < l.length) (h0 : 0 ≤ x) (h1 : x ≤ 10000000) (hl : l.length ≤ 1000000) (hr : rd_T62 l i = ⟨x, x + 1, x + 2, x + 3, x + 4⟩) :
    laws_heldSittingS.l0 (k + 1) l x i = laws_heldSittingS.l0 k l (x + 5) (i + 1 : Nat) := by
  have hi' : (i : Int) < (l.length : Int) := by omega
  have hi0 : (0 : Int) ≤ i := by omega
  have e1 : wrap64 (x + 1) = x + 1 := w64 (by omega) (by omega)
  have e2 : wrap64 (x + 1 + 1) = x + 2 := by rw [w64 (by omega) (by omega)]; omega
  have e3 : wrap64 (x + 2 + 1) = x + 3 := by rw [w64 (by omega) (by omega)]; omega
  have e4 : wrap64 (x + 3 + 1) = x + 4 := by rw [w64 (by omega) (by omega)]; omega
  have e5 : wrap64 (x + 4 + 1) = x + 5 := by rw [w64 (by omega) (by omega)]; omega
  have e6 : wrap64 ((i : Int) + 1) = (i + 1 : Nat) := by rw [w64 (by omega) (by omega)]; omega
  simp only [laws_heldSittingS.l0, hr, e1, e2, e3, e4, e5, e6]
  rw [if_pos hi', if_pos hi0]
  simp only [if_true]

theorem held_run (d : Nat) : ∀ (l : List S62) (k : Nat) (x : Int) (i : Nat), l.length - i = d → i ≤ l.length → d < k → 0 ≤ x → x + 5 * d ≤ 9000000 → l.length ≤ 1000000 →
    (∀ j, i ≤ j → j < l.length → l[j]? = some ⟨x + 5 * (j - i), x + 5 * (j - i) + 1, x + 5 * (j - i) + 2, x + 5 * (j - i) + 3, x + 5 * (j - i) + 4⟩) →
    laws_heldSittingS.l0 k l x i = some (x + 5 * d) := by
  induction d with
  | zero =>
    intro l k x i h1 h2 h3 h4 h5 h6 _
    obtain ⟨k, rfl⟩ : ∃ m, k = m + 1 := ⟨k - 1, by omega⟩
    simp only [laws_heldSittingS.l0]; rw [if_neg (by omega)]; simp
  | succ d ih =>
    intro l k x i h1 h2 h3 h4 h5 h6 hl
    obtain ⟨k, rfl⟩ : ∃ m, k = m + 1 := ⟨k - 1, by omega⟩
    have hi : i < l.length := by omega
    have hr : rd_T62 l i = ⟨x, x + 1, x + 2, x + 3, x + 4⟩ := by
      have h := hl i (Nat.le_refl i) hi
      rw [Int.sub_self, Int.mul_zero, Int.add_zero] at h
      unfold rd_T62
      rw [List.getD_eq_getElem?_getD, Int.toNat_natCast, h]
      rfl
    rw [held_step l k x i hi h4 (by omega) h6 hr]
    rw [ih l k (x + 5) (i + 1) (by omega) (by omega) (by omega) (by omega) (by omega) h6 (fun j hj hj2 => by
      rw [hl j (by omega) hj2]
      have : x + 5 + 5 * ((j : Int) - ((i + 1 : Nat) : Int)) = x + 5 * ((j : Int) - i) := by omega
      rw [this])]
    congr 1; omega

/-- Both go the same way. -/
theorem same (k : Nat) : ∀ n, (∀ b, spec_RoundRobin.j0 k n b = impl_RoundRobin.j0 k n b) ∧
    (∀ xs r, spec_RoundRobin.l0 k n (wrap64 (n - 1)) xs r = impl_RoundRobin.l0 k n xs (wrap64 (n - 1)) r) ∧
    (∀ xs r a b c d e, spec_RoundRobin.j2 k n (wrap64 (n - 1)) xs r a b c d e = impl_RoundRobin.j2 k n xs r (wrap64 (n - 1)) r a b c d e) ∧
    (∀ xs r t, spec_RoundRobin.l1 k n (wrap64 (n - 1)) xs r t = impl_RoundRobin.l1 k n xs r t (wrap64 (n - 1)) r) := by
  induction k with
  | zero => intro n; exact ⟨fun _ => rfl, fun _ _ => rfl, fun _ _ _ _ _ _ _ => rfl, fun _ _ _ => rfl⟩
  | succ k ih =>
    intro n
    obtain ⟨i0, i1, i2, i3⟩ := ih n
    refine ⟨fun b => ?_, fun xs r => ?_, fun xs r a b c d e => ?_, fun xs r t => ?_⟩
    · simp only [spec_RoundRobin.j0, impl_RoundRobin.j0, i1]
    · simp only [spec_RoundRobin.l0, impl_RoundRobin.l0, i2]
    · simp only [spec_RoundRobin.j2, impl_RoundRobin.j2, i3]
    · simp only [spec_RoundRobin.l1, impl_RoundRobin.l1, i3, i1, spec_l32Mod.f, impl_modulo.f]

/-- A row of tables. -/
theorem row_run (n m : Int) (hn : 2 ≤ n ∧ n ≤ 30) (hm : wrap64 (n - 1) = m) (d : Nat) : ∀ (k : Nat) (xs : List S62) (r t : Int), 0 ≤ r → r ≤ 100 → 0 ≤ t → (n / 2 - t).toNat = d → d < k → xs.length + d ≤ 1000000 →
    ∃ ys : List S62, ys.length = d ∧ impl_RoundRobin.l1 k n xs r t m r = impl_RoundRobin.l0 (k - d - 1) n (xs ++ ys) m (r + 1) := by
  have hm' : m = n - 1 := by rw [← hm, w64 (by omega) (by omega)]
  have h2 : wrap64 (Int.tdiv n 2) = n / 2 := by rw [Int.tdiv_eq_ediv_of_nonneg (by omega), w64 (by omega) (by omega)]
  induction d with
  | zero =>
    intro k xs r t hr hr2 ht h1 h3 h4
    obtain ⟨k, rfl⟩ : ∃ m, k = m + 1 := ⟨k - 1, by omega⟩
    refine ⟨[], rfl, ?_⟩
    simp only [impl_RoundRobin.l1, h2, List.append_nil]
    rw [if_neg (by omega), w64 (by omega) (by omega)]
    rfl
  | succ d ih =>
    intro k xs r t hr hr2 ht h1 h3 h4
    obtain ⟨k, rfl⟩ : ∃ m, k = m + 1 := ⟨k - 1, by omega⟩
    have hmod : ∃ q, impl_modulo.f (wrap64 (r - t)) (wrap64 (n - 1)) = some q := by
      unfold impl_modulo.f; rw [if_neg (by rw [hm]; omega)]; exact ⟨_, rfl⟩
    obtain ⟨q, hq⟩ := hmod
    obtain ⟨ys, hy, h⟩ := ih k (xs ++ [⟨r, t, Int.tmod (wrap64 (r + t)) (wrap64 (n - 1)), q, r⟩]) r (t + 1) hr hr2 (by omega) (by omega) (by omega) (by simp; omega)
    refine ⟨⟨r, t, Int.tmod (wrap64 (r + t)) (wrap64 (n - 1)), q, r⟩ :: ys, by simp [hy], ?_⟩
    simp only [impl_RoundRobin.l1, h2, hq, Option.bind_some]
    rw [if_pos (by omega), if_neg (by rw [hm]; omega), if_pos (by omega), w64 (x := t + 1) (by omega) (by omega), h]
    simp

theorem rows_run (n m : Int) (hn : 2 ≤ n ∧ n ≤ 30) (hm : wrap64 (n - 1) = m) (d : Nat) : ∀ (k : Nat) (xs : List S62) (r : Int), 0 ≤ r → (m - r).toNat = d → r ≤ m → 20 * d < k → xs.length + 20 * d ≤ 1000000 →
    ∃ ys : List S62, ys.length ≤ 20 * d ∧ impl_RoundRobin.l0 k n xs m r = some (xs ++ ys, 0) := by
  have hm' : m = n - 1 := by rw [← hm, w64 (by omega) (by omega)]
  induction d with
  | zero =>
    intro k xs r hr h1 h2 h3 h4
    obtain ⟨k, rfl⟩ : ∃ m, k = m + 1 := ⟨k - 1, by omega⟩
    refine ⟨[], by simp, ?_⟩
    simp only [impl_RoundRobin.l0, List.append_nil]
    rw [if_neg (by omega)]
  | succ d ih =>
    intro k xs r hr h1 h2 h3 h4
    obtain ⟨k, rfl⟩ : ∃ m, k = m + 1 + 1 := ⟨k - 2, by omega⟩
    have key : ∀ x : S62, ∃ ys : List S62, ys.length ≤ 20 * (d + 1) ∧ impl_RoundRobin.j2 (k + 1) n xs r m r x.f0 x.f1 x.f2 x.f3 x.f4 = some (xs ++ ys, 0) := by
      intro x
      obtain ⟨ys, hy, h⟩ := row_run n m hn hm (n / 2 - 1).toNat k (xs ++ [x]) r 1 hr (by omega) (by omega) rfl (by omega) (by simp; omega)
      obtain ⟨zs, hz, h'⟩ := ih (k - (n / 2 - 1).toNat - 1) (xs ++ [x] ++ ys) (r + 1) (by omega) (by omega) (by omega) (by omega) (by simp; omega)
      refine ⟨x :: (ys ++ zs), by simp; omega, ?_⟩
      simp only [impl_RoundRobin.j2]
      rw [if_pos (by omega)]
      refine h.trans (h'.trans ?_)
      simp
    simp only [impl_RoundRobin.l0]
    rw [if_pos (by omega), hm]
    split
    · exact key ⟨r, 0, r, m, r⟩
    · exact key ⟨r, 0, m, r, r⟩

theorem robin_in (a0 : Int) (h : 2 ≤ a0 ∧ a0 ≤ 30) (he : a0 % 2 = 0) : ∃ l : List S62, l.length ≤ 1000 ∧ spec_RoundRobin.f 2000 a0 = some (l, 0) ∧ impl_RoundRobin.f 2000 a0 = some (l, 0) := by
  obtain ⟨ys, hy, h1⟩ := rows_run a0 (wrap64 (a0 - 1)) h rfl (wrap64 (a0 - 1) - 0).toNat 1999 [] 0 (by omega) rfl (by rw [w64 (by omega) (by omega)]; omega) (by rw [w64 (by omega) (by omega)]; omega) (by rw [w64 (by omega) (by omega)]; simp; omega)
  have hm : (a0.tmod 2 == 1) = false := by
    rw [Int.tmod_eq_emod_of_nonneg (by omega)]; simp; omega
  have hi : impl_RoundRobin.f 2000 a0 = some (ys, 0) := by
    have hw : impl_within.f a0 2 30 = some true := by unfold impl_within.f; rw [if_pos h.1, decide_eq_true h.2]
    unfold impl_RoundRobin.f
    rw [hw, hm]
    simp only [Option.bind_some, if_true]
    rw [show (2000 : Nat) = 1999 + 1 from rfl]
    simp only [impl_RoundRobin.j0]
    rw [if_neg (by decide)]
    simpa using h1
  refine ⟨ys, by rw [w64 (by omega) (by omega)] at hy; omega, ?_, hi⟩
  have hw : spec_l15In.f a0 2 30 = some true := by unfold spec_l15In.f; rw [if_pos h.1, decide_eq_true h.2]
  rw [← hi]
  unfold spec_RoundRobin.f impl_RoundRobin.f
  have hw' : impl_within.f a0 2 30 = some true := by unfold impl_within.f; rw [if_pos h.1, decide_eq_true h.2]
  rw [if_pos (by rw [Int.tmod_eq_emod_of_nonneg (by omega)]; omega), hw, hw', hm]
  simp only [Option.bind_some, if_true, Bool.not_true]
  exact (same 2000 a0).1 false

/-- Outside of 2 to 30, and at odd numbers, both return the range error. -/
theorem robin_out (a0 : Int) (h : a0 < 2 ∨ 30 < a0 ∨ a0 % 2 = 1) : spec_RoundRobin.f 2000 a0 = some ([], 2) ∧ impl_RoundRobin.f 2000 a0 = some ([], 2) := by
  constructor
  · by_cases e : a0.tmod 2 = 0
    · have h1 : spec_l15In.f a0 2 30 = some false := by
        unfold spec_l15In.f
        by_cases h' : a0 ≥ 2
        · rw [Int.tmod_eq_emod_of_nonneg (by omega)] at e
          rw [if_pos h', decide_eq_false (by omega)]
        · rw [if_neg h']
      unfold spec_RoundRobin.f; rw [if_pos e, h1]; rfl
    · unfold spec_RoundRobin.f; rw [if_neg e]; rfl
  · by_cases h' : 2 ≤ a0 ∧ a0 ≤ 30
    · have h1 : impl_within.f a0 2 30 = some true := by
        unfold impl_within.f; rw [if_pos h'.1]; simp [h'.2]
      have h2 : (a0.tmod 2 == 1) = true := by
        rw [Int.tmod_eq_emod_of_nonneg (by omega)]
        simp; omega
      unfold impl_RoundRobin.f; rw [h1, h2]; rfl
    · have h1 : impl_within.f a0 2 30 = some false := by
        unfold impl_within.f
        by_cases h'' : 2 ≤ a0
        · rw [if_pos h'', decide_eq_false (by omega)]
        · rw [if_neg h'']
      unfold impl_RoundRobin.f; rw [h1]; rfl

theorem robin_both (a0 : Int) : ∃ (l : List S62) (c : Int), l.length ≤ 1000 ∧ spec_RoundRobin.f 2000 a0 = some (l, c) ∧ impl_RoundRobin.f 2000 a0 = some (l, c) := by
  by_cases h : a0 < 2 ∨ 30 < a0 ∨ a0 % 2 = 1
  · exact ⟨[], 2, by simp, robin_out a0 h⟩
  · obtain ⟨l, hl, h⟩ := robin_in a0 (by omega) (by omega)
    exact ⟨l, 0, hl, h⟩

theorem FnExactRoundRobin : laws_FnExactRoundRobin.Pure := by
  intro a0 _
  obtain ⟨l, c, hl, h1, h2⟩ := robin_both a0
  have e0 : laws_eqSittingS.f 2000 l l = some true := by
    unfold laws_eqSittingS.f; rw [if_pos rfl]; exact eq_self l (by omega) l.length 2000 0 (by omega) (by omega) (by omega)
  obtain ⟨l', hm, hlen, _, hhi⟩ := mark_run l.length l 1999 1 0 (by omega) (by omega) (by omega) (by omega) (by omega) (by omega)
  have hh : ∀ k, 1000 < k → laws_heldSittingS.f k l' 1 = some (1 + 5 * (l.length : Int)) := fun k hk =>
    held_run l.length l' k 1 0 (by omega) (by omega) (by omega) (by omega) (by omega) (by omega) (fun j hj hj2 => hhi j hj (by omega))
  refine ⟨2002, ?_⟩
  have m1 : ∀ k, 2000 ≤ k → spec_RoundRobin.f k a0 = some (l, c) := fun k hk => at_rounds (fun k => spec_RoundRobin.mono a0 k) hk h1
  have m2 : ∀ k, 2000 ≤ k → impl_RoundRobin.f k a0 = some (l, c) := fun k hk => at_rounds (fun k => impl_RoundRobin.mono a0 k) hk h2
  have m3 : ∀ k, 2000 ≤ k → laws_eqSittingS.f k l l = some true := fun k hk => at_rounds (fun k => laws_eqSittingS.mono l l k) hk e0
  have m4 : ∀ k, 2000 ≤ k → laws_markSittingS.f k l 1 = some (1 + 5 * (l.length : Int), l') := fun k hk => at_rounds (g := fun k => laws_markSittingS.f k l 1) (fun k => laws_markSittingS.mono l 1 k) (k := 1999) (by omega) hm
  unfold laws_FnExactRoundRobin.f
  rw [m1 2002 (by omega), m2 2002 (by omega)]
  simp only [Option.bind_some]
  rw [m3 2002 (by omega)]
  simp only [Option.bind_some, if_true, bne_self_eq_false]
  rw [show (2002 : Nat) = 2001 + 1 from rfl]
  simp only [laws_FnExactRoundRobin.j0, Bool.false_eq_true, if_false]
  rw [m4 2001 (by omega)]
  simp only [Option.bind_some]
  rw [hh 2001 (by omega), m2 2001 (by omega)]
  simp only [Option.bind_some]
  rw [m3 2001 (by omega)]
  simp only [Option.bind_some, if_true, bne_self_eq_false]
  rw [if_neg (by omega), show (2001 : Nat) = 2000 + 1 from rfl]
  simp only [laws_FnExactRoundRobin.j1, Bool.false_eq_true, if_false]
  rw [hh 2000 (by omega)]
  simp only [Option.bind_some, if_true]
  rw [if_neg (by omega)]

end Go.Proofs.Ytiaahlbaeeiipaa.Pure
