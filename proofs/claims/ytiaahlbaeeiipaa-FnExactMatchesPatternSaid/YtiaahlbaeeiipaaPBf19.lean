-- printed by wip/myprint.py out of the translation (the kit's print.py, jointly for several laws); Lean checks it.
import Derived.Test.YtiaahlbaeeiipaaPBf0
import Derived.Test.YtiaahlbaeeiipaaPBf61
namespace Go.Proofs.Ytiaahlbaeeiipaa.PB
open Go.RowKit Go.Proofs.YtiaahlbaeeiipaaW.PrintWords Go.Proofs.YtiaahlbaeeiipaaW.PrintLast Go.Proofs.YtiaahlbaeeiipaaW.PrintMore
attribute [local go_sem] max2_int min2_int max_two min_two max_three min_three max_four min_four   -- for this text's walks alone
set_option linter.unusedVariables false
set_option linter.unusedSimpArgs false

/-! ### impl_MatchesPattern: function 19 -/
/-- Does a pattern's sign match a call, place by place? -/
def impl_MatchesPattern.eqs : List Int → List Int → Bool
 | [], [] => true
 | p :: ps, c :: cs => (p == -1 || p == c) && impl_MatchesPattern.eqs ps cs
 | _, _ => false
theorem impl_MatchesPattern.eqs_len : ∀ (a b : List Int), a.length ≠ b.length → impl_MatchesPattern.eqs a b = false
 | [], [], h => absurd rfl h
 | [], _ :: _, _ => rfl
 | _ :: _, [], _ => rfl
 | _ :: ps, _ :: cs, h => by simp only [impl_MatchesPattern.eqs, impl_MatchesPattern.eqs_len ps cs (by simpa using h), Bool.and_false]
theorem impl_MatchesPattern.eqs_skip (a b : List Int) (hl : a.length = b.length) (k : Nat) : (∀ j, j < k → (a.getD j 0 == -1 || a.getD j 0 == b.getD j 0) = true) → k ≤ a.length → impl_MatchesPattern.eqs a b = impl_MatchesPattern.eqs (a.drop k) (b.drop k) := by
 induction k with
 | zero => intro _ _; rfl
 | succ k ih =>
  intro h hk
  rw [ih (fun j hj => h j (by omega)) (by omega), List.drop_eq_getElem_cons (show k < a.length by omega), List.drop_eq_getElem_cons (show k < b.length by omega)]
  have h0 := h k (by omega)
  rw [List.getD_eq_getElem?_getD, List.getD_eq_getElem?_getD, List.getElem?_eq_getElem (show k < a.length by omega), List.getElem?_eq_getElem (show k < b.length by omega)] at h0
  simp only [impl_MatchesPattern.eqs]
  simp only [Option.getD_some] at h0
  rw [h0, Bool.true_and]
theorem impl_MatchesPattern.lit (p c : Int) (w : World) : Calls Try.prog 62 #[.int .i64 p, .int .i64 c] w fun e w' => e = .returned (.bool (p == -1 || p == c)) ∧ w' = w := by
 by_cases h : p = -1
 ·have h1 : (p == -1) = true := by simp [h]
  have h2 : (p != -1) = false := by simp [h]
  have H := Aside0.mk h
  clear h
  go_enter Try.func62, Try.ntmps62
  go_wp2
  go_ret
  exact ⟨by simp [H.out], rfl⟩
 ·have h1 : (p == -1) = false := by simp [h]
  have h2 : (p != -1) = true := by simp [h]
  have H := Aside0.mk h
  clear h
  go_enter Try.func62, Try.ntmps62
  go_wp2
  go_ret
  exact ⟨by simp [H.out], rfl⟩
set_option maxHeartbeats 8000000 in
set_option maxRecDepth 100000 in
theorem impl_MatchesPattern.equalFunc (A0 : Option Addr) (c0 : Nat) (l0 : List Int) (A1 : Option Addr) (c1 : Nat) (l1 : List Int) (w : World) (hr0 : Kd.C (Kd.int .i64) w A0 l0.length l0) (hr1 : Kd.C (Kd.int .i64) w A1 l1.length l1) :
  Calls Try.prog 60 #[.slice A0 l0.length c0, .slice A1 l1.length c1, .func (.func 62) #[] #[]] w fun e w' => e = .returned (.bool (impl_MatchesPattern.eqs l0 l1)) ∧ w' = w := by
 have HR0 := Aside0.mk hr0
 have HR1 := Aside0.mk hr1
 have hm : l0.length ≤ 9223372036854775807 := hr0.2.1
 have hm1 : l1.length ≤ 9223372036854775807 := hr1.2.1
 clear hr0 hr1
 by_cases hl : l0.length = l1.length
 ·have HL := Aside0.mk hl
  have h1 : ((l0.length : Int) != (l1.length : Int)) = false := by simp [hl]
  have h2 : (l0.length != l1.length) = false := by simp [hl]
  clear hl
  go_enter Try.func60, Try.ntmps60
  go_wp2
  go_loop [17] (fun i => ∃ k : Nat, k ≤ l0.length ∧ i = .int .i64 k ∧ Aside0 (∀ j, j < k → (l0.getD j 0 == -1 || l0.getD j 0 == l1.getD j 0) = true)) (fun i => l0.length - (intOf i).toNat)
  case atStart => exact ⟨0, Nat.zero_le _, rfl, ⟨fun j hj => absurd hj (by omega)⟩⟩
  case round =>
   obtain ⟨k, hk, rfl, HZ⟩ := hrel
   by_cases hlt : k < l0.length
   ·have hlt1 : k < l1.length := by have := HL.out; omega
    obtain ⟨ad, e, hx⟩ := Kd.at_int HR0.out (k : Int) (by omega) (by omega)
    cases e
    obtain ⟨ad1, e1, hx1⟩ := Kd.at_int HR1.out (k : Int) (by omega) (by omega)
    cases e1
    simp only [Int.toNat_natCast] at hx hx1
    by_cases hz : (rd l0 (k : Int) == -1 || rd l0 (k : Int) == rd l1 (k : Int)) = true
    ·have HC := Aside0.mk (by have := impl_MatchesPattern.lit (rd l0 (k : Int)) (rd l1 (k : Int)); rw [hz] at this; exact this : ∀ w : World, Calls Try.prog 62 #[.int .i64 (rd l0 (k : Int)), .int .i64 (rd l1 (k : Int))] w fun e w' => e = .returned (.bool true) ∧ w' = w)
     have HZ' := Aside0.mk hz
     clear hz
     go_wp2_with (go_at_call 62; refine (HC.out _).mono ?_; rintro e w' ⟨rfl, rfl⟩)
     go_round
     case rel => exact ⟨k + 1, by omega, by go_num, ⟨fun j hj => by
      by_cases e : j = k
      ·subst e; have := HZ'.out; unfold rd at this; simpa using this
      ·exact HZ.out j (by omega)⟩⟩
     case measure => simp [intOf]; omega
    ·have HC := Aside0.mk (by have := impl_MatchesPattern.lit (rd l0 (k : Int)) (rd l1 (k : Int)); rw [Bool.eq_false_iff.2 hz] at this; exact this : ∀ w : World, Calls Try.prog 62 #[.int .i64 (rd l0 (k : Int)), .int .i64 (rd l1 (k : Int))] w fun e w' => e = .returned (.bool false) ∧ w' = w)
     have HZ' := Aside0.mk hz
     clear hz
     go_wp2_with (go_at_call 62; refine (HC.out _).mono ?_; rintro e w' ⟨rfl, rfl⟩)
     go_ret
     refine ⟨?_, rfl⟩
     rw [impl_MatchesPattern.eqs_skip l0 l1 HL.out k HZ.out hk, List.drop_eq_getElem_cons hlt, List.drop_eq_getElem_cons hlt1]
     have h0 := HZ'.out
     unfold rd at h0
     rw [Int.toNat_natCast, List.getD_eq_getElem?_getD, List.getD_eq_getElem?_getD, List.getElem?_eq_getElem hlt, List.getElem?_eq_getElem hlt1] at h0
     simp only [Option.getD_some] at h0
     simp only [impl_MatchesPattern.eqs]
     rw [Bool.eq_false_iff.2 h0, Bool.false_and]
     rfl
   ·go_wp2
    go_ret
    refine ⟨?_, rfl⟩
    rw [impl_MatchesPattern.eqs_skip l0 l1 HL.out k HZ.out hk, List.drop_of_length_le (by omega), List.drop_of_length_le (by have := HL.out; omega)]
    rfl
 ·have h1 : ((l0.length : Int) != (l1.length : Int)) = true := by simp; omega
  have h2 : (l0.length != l1.length) = true := by simpa using hl
  have HL := Aside0.mk hl
  clear hl
  go_enter Try.func60, Try.ntmps60
  go_wp2
  go_ret
  exact ⟨by rw [impl_MatchesPattern.eqs_len l0 l1 HL.out]; rfl, rfl⟩
def impl_MatchesPattern.f (l0 l1 : List Int) : Option Bool := some (impl_MatchesPattern.eqs l0 (impl_core.L l1))
set_option maxHeartbeats 8000000 in
set_option maxRecDepth 100000 in
theorem impl_MatchesPattern.calls (A0 : Option Addr) (c0 : Nat) (l0 : List Int) (A1 : Option Addr) (c1 : Nat) (l1 : List Int) (r : Bool) (w : World) (hr0 : Kd.C (Kd.int .i64) w A0 l0.length l0) (hc0 : l0.length ≤ c0) (hr1 : Kd.C (Kd.int .i64) w A1 l1.length l1) (hc1 : l1.length ≤ c1) (h : impl_MatchesPattern.f l0 l1 = some r) :
  Calls Try.prog 19 #[.slice A0 l0.length c0, .slice A1 l1.length c1] w fun e w' => e = .returned (.bool r) ∧ Below w.heap.size w w' := by
 obtain rfl := Option.some.inj h
 clear h
 have HR0 := Aside0.mk hr0
 have HR1 := Aside0.mk hr1
 clear hr0 hr1
 go_enter Try.func19, Try.ntmps19
 go_wp2_with (first | (go_at_call 61; refine (impl_core.cut _ _ _ _ HR1.out hc1).mono ?_; rintro e w' ⟨A, c, rfl, hC, hc, rfl⟩; have HC1 := Aside0.mk hC; clear hC hc) | (go_at_call 60; refine (impl_MatchesPattern.equalFunc _ _ _ _ _ _ _ HR0.out HC1.out).mono ?_; rintro e w' ⟨rfl, rfl⟩))
 go_ret
 exact ⟨rfl, Below.refl _ _⟩


end Go.Proofs.Ytiaahlbaeeiipaa.PB
