-- printed by wip/myprint.py out of the translation (the kit's print.py, jointly for several laws); Lean checks it.
import Derived.Test.YtiaahlbaeeiipaaPBf0
namespace Go.Proofs.Ytiaahlbaeeiipaa.PB
open Go.RowKit Go.Proofs.YtiaahlbaeeiipaaW.PrintWords Go.Proofs.YtiaahlbaeeiipaaW.PrintLast Go.Proofs.YtiaahlbaeeiipaaW.PrintMore
attribute [local go_sem] max2_int min2_int max_two min_two max_three min_three max_four min_four   -- for this text's walks alone
set_option linter.unusedVariables false
set_option linter.unusedSimpArgs false

/-! ### impl_core: function 61 -/
/-- The calls without the passes ahead of the first that is none. -/
def impl_core.L : List Int → List Int
 | [] => []
 | c :: l => if c = 0 then impl_core.L l else c :: l
/-- Where it begins; -1: nowhere. -/
def impl_core.at_ : List Int → Nat → Int
 | [], _ => -1
 | c :: l, i => if c = 0 then impl_core.at_ l (i + 1) else i
theorem impl_core.at_drop (l : List Int) : ∀ (i : Nat), (impl_core.at_ l i = -1 ∧ impl_core.L l = []) ∨ ∃ j, j < l.length ∧ impl_core.at_ l i = ((i + j : Nat) : Int) ∧ impl_core.L l = l.drop j := by
 induction l with
 | nil => intro i; exact .inl ⟨rfl, rfl⟩
 | cons c l ih =>
  intro i
  by_cases h : c = 0
  ·rcases ih (i + 1) with ⟨h1, h2⟩ | ⟨j, h1, h2, h3⟩
   ·exact .inl ⟨by simp [impl_core.at_, h, h1], by simp [impl_core.L, h, h2]⟩
   ·exact .inr ⟨j + 1, by simp; omega, by simp only [impl_core.at_, if_pos h, h2]; congr 1; omega, by simp [impl_core.L, h, h3]⟩
  ·exact .inr ⟨0, by simp, by simp [impl_core.at_, h], by simp [impl_core.L, h]⟩
theorem impl_core.at_skip (l : List Int) (k : Nat) : (∀ j, j < k → l.getD j 0 = 0) → k ≤ l.length → impl_core.at_ l 0 = impl_core.at_ (l.drop k) k := by
 induction k with
 | zero => intro _ _; rfl
 | succ k ih =>
  intro h hk
  rw [ih (fun j hj => h j (by omega)) (by omega), List.drop_eq_getElem_cons (by omega)]
  have h0 : l[k] = 0 := by
   have := h k (by omega)
   rwa [List.getD_eq_getElem?_getD, List.getElem?_eq_getElem (by omega)] at this
  simp [impl_core.at_, h0]
/-- The literal: is it no pass? -/
theorem impl_core.lit (x : Int) (w : World) : Calls Try.prog 92 #[.int .i64 x] w fun e w' => e = .returned (.bool (x != 0)) ∧ w' = w := by
 go_enter Try.func92, Try.ntmps92
 go_wp2
 go_ret
 exact ⟨rfl, rfl⟩
set_option maxHeartbeats 8000000 in
set_option maxRecDepth 100000 in
theorem impl_core.index (A0 : Option Addr) (c0 : Nat) (l0 : List Int) (w : World) (hr0 : Kd.C (Kd.int .i64) w A0 l0.length l0) :
  Calls Try.prog 91 #[.slice A0 l0.length c0, .func (.func 92) #[] #[]] w fun e w' => e = .returned (.int .i64 (impl_core.at_ l0 0)) ∧ w' = w := by
 have HR := Aside0.mk hr0
 have hm : l0.length ≤ 9223372036854775807 := hr0.2.1
 clear hr0
 go_enter Try.func91, Try.ntmps91
 go_wp2
 go_loop [8] (fun i => ∃ k : Nat, k ≤ l0.length ∧ i = .int .i64 k ∧ Aside0 (∀ j, j < k → l0.getD j 0 = 0)) (fun i => l0.length - (intOf i).toNat)
 case atStart => exact ⟨0, Nat.zero_le _, rfl, ⟨fun j hj => absurd hj (by omega)⟩⟩
 case round =>
  obtain ⟨k, hk, rfl, HZ⟩ := hrel
  by_cases hlt : k < l0.length
  ·obtain ⟨ad, e, hx⟩ := Kd.at_int HR.out (k : Int) (by omega) (by omega)
   cases e
   simp only [Int.toNat_natCast] at hx
   by_cases hz : rd l0 (k : Int) = 0
   ·have hz0 : (rd l0 (k : Int) != 0) = false := by simp [hz]
    have HZ' := Aside0.mk hz
    clear hz
    go_wp2_with (go_at_call 92; refine (impl_core.lit _ _).mono ?_; rintro e w' ⟨rfl, rfl⟩)
    go_round
    case rel => exact ⟨k + 1, by omega, by go_num, ⟨fun j hj => by
     by_cases e : j = k
     ·subst e; have := HZ'.out; unfold rd at this; simpa using this
     ·exact HZ.out j (by omega)⟩⟩
    case measure => simp [intOf]; omega
   ·have hz0 : (rd l0 (k : Int) != 0) = true := by simp [hz]
    have HZ' := Aside0.mk hz
    clear hz
    go_wp2_with (go_at_call 92; refine (impl_core.lit _ _).mono ?_; rintro e w' ⟨rfl, rfl⟩)
    go_ret
    refine ⟨?_, rfl⟩
    rw [impl_core.at_skip l0 k HZ.out hk, List.drop_eq_getElem_cons hlt]
    have h0 : ¬ l0[k] = 0 := by
     have := HZ'.out
     unfold rd at this
     rwa [Int.toNat_natCast, List.getD_eq_getElem?_getD, List.getElem?_eq_getElem hlt] at this
    simp [impl_core.at_, h0]
  ·go_wp2
   go_ret
   refine ⟨?_, rfl⟩
   rw [impl_core.at_skip l0 k HZ.out hk, List.drop_of_length_le (by omega)]
   rfl
def impl_core.f (l0 : List Int) : Option (List Int) := some (impl_core.L l0)
/-- core: a cut of what came in, or nil. -/
theorem impl_core.cut (A0 : Option Addr) (c0 : Nat) (l0 : List Int) (w : World) (hr0 : Kd.C (Kd.int .i64) w A0 l0.length l0) (hc0 : l0.length ≤ c0) :
  Calls Try.prog 61 #[.slice A0 l0.length c0] w fun e w' => ∃ (A : Option Addr) (c : Nat), e = .returned (.slice A (impl_core.L l0).length c) ∧ Kd.C (Kd.int .i64) w A (impl_core.L l0).length (impl_core.L l0) ∧ (impl_core.L l0).length ≤ c ∧ w' = w := by
 have HR := Aside0.mk hr0
 have hm : l0.length ≤ 9223372036854775807 := hr0.2.1
 clear hr0
 rcases impl_core.at_drop l0 0 with ⟨h1, h2⟩ | ⟨j, h1, h2, h3⟩
 ·have HL := Aside0.mk h2
  have hc := impl_core.index A0 c0 l0 w HR.out
  rw [h1] at hc
  have HC := Aside0.mk hc
  clear h1 h2 hc
  go_enter Try.func61, Try.ntmps61
  go_wp2_with (go_at_call 91; refine HC.out.mono ?_; rintro e w' ⟨rfl, rfl⟩)
  go_ret
  exact ⟨none, 0, by rw [HL.out]; rfl, by rw [HL.out]; exact ⟨rfl, by simp, fun h => absurd h (by simp)⟩, by rw [HL.out]; simp, rfl⟩
 ·have HL := Aside0.mk h3
  have hc := impl_core.index A0 c0 l0 w HR.out
  rw [h2, Nat.zero_add] at hc
  have HC := Aside0.mk hc
  clear h2 h3 hc
  obtain ⟨i0, hi, _, hsz, _⟩ := info_parts info2
  obtain ⟨A', hcut, hA', hC'⟩ := print_drop_of (P := Try.prog) (Value.int .i64) 0 22 2 .i64 Try.underlying22 hi hsz A0 c0 l0 (j : Int) (by omega) (by omega) hc0
  have HA := Aside0.mk (hA' w (Kd.reads_of_C HR.out))
  have HC' := Aside0.mk hC'
  clear hA' hC' hi hsz
  go_enter Try.func61, Try.ntmps61
  go_wp2_with (go_at_call 91; refine HC.out.mono ?_; rintro e w' ⟨rfl, rfl⟩)
  go_ret
  exact ⟨A', c0 - j, by rw [HL.out]; simp, by rw [HL.out]; exact Kd.C_of_reads (h1 := fun _ => rfl) (by simpa using HA.out), by rw [HL.out]; simpa using HC'.out, rfl⟩


end Go.Proofs.Ytiaahlbaeeiipaa.PB
