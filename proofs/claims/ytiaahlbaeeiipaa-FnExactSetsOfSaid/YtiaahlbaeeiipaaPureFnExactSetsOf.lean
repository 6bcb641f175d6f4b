/- The pure statement of FnExactSetsOf: for every list of sittings and every number; no condition. -/
import Derived.Test.YtiaahlbaeeiipaaPAf11
import Derived.Test.YtiaahlbaeeiipaaPuOfPair
import Derived.Test.YtiaahlbaeeiipaaPAuInts
namespace Go.Proofs.Ytiaahlbaeeiipaa.Pure
open Go.RowKit Go.Proofs.Ytiaahlbaeeiipaa.PA Go.Proofs.Ytiaahlbaeeiipaa.Pu Go.Proofs.YtiaahlbaeeiipaaW.PrintWords Go.Proofs.YtiaahlbaeeiipaaW.PrintLast

theorem FnExactSetsOf {G : S66 → Prop} {W : Prop} (l : List S66) (a : Int) (h : (∀ x ∈ l, G x) ∧ l.length * 40 ≤ 140737488351232 ∧ l.length ≤ 9223372036854775807) (_ : W) : ∃ k, laws_FnExactSetsOf.f k l a = some true := by
  have hw : wrap64 (1048576 - (l.length : Int)) = 1048576 - (l.length : Int) := w64 (by omega) (by omega)
  by_cases hl : 1048576 < l.length
  · refine ⟨0, ?_⟩
    unfold laws_FnExactSetsOf.f laws_szSittingS.f
    rw [hw, if_pos (by omega)]
    simp
  · obtain ⟨R, E, m, hR, hb⟩ := sets_eq (l.map conv) a (by rw [List.length_map]; omega)
    rw [List.length_map] at hR
    have A : ∀ k, m + 1048577 ≤ k → (spec_SetsOf.f k (l.map conv) a = some (R, E)) ∧ (impl_SetsOf.f k (l.map conv) a = some (R, E)) ∧ laws_toSittingS.f k l = some (l.map conv) ∧ laws_eqSittingS.f k (l.map conv) (l.map conv) = some true ∧ laws_eqInt64S.f k R R = some true := fun k hk =>
      ⟨(hb k (by omega)).1, (hb k (by omega)).2, to_eq l k (by omega) (by omega), eq_self (l.map conv) k (by rw [List.length_map]; omega) (by rw [List.length_map]; omega), PAu.eqI_self R k (by omega) (by omega)⟩
    generalize hk : m + 1048577 = k at A
    obtain ⟨l', mk, _, _⟩ := mark_eq (l.map conv) (k + 1) 1 (by rw [List.length_map]; omega) (by omega) (by rw [List.length_map]; omega)
    rw [List.length_map] at mk
    have n1 : ¬ (1 + 5 * (l.length : Int)) < 0 := by omega
    obtain ⟨r', m2, hl2, hm2⟩ := PAu.markI_eq R (k + 1) 1 (by omega) (by omega) (by omega)
    have h2 := PAu.heldI_eq r' (k + 1) 1 hm2 (by omega) (by omega) (by omega)
    have h3 := PAu.heldI_eq r' k 1 hm2 (by omega) (by omega) (by omega)
    rw [hl2] at h2 h3
    have n2 : ¬ (1 + (R.length : Int)) < 0 := by omega
    obtain ⟨a1, a2, a3, a4, a5⟩ := A (k + 1 + 1 + 1) (by omega)
    obtain ⟨b1, b2, b3, b4, b5⟩ := A (k + 1 + 1) (by omega)
    obtain ⟨c1, c2, c3, c4, c5⟩ := A (k + 1) (by omega)
    have mk' := laws_markSittingS.mono (l.map conv) 1 (k + 1) _ mk
    have h2' := h2
    refine ⟨k + 1 + 1 + 1, ?_⟩
    clear hb A
    unfold laws_FnExactSetsOf.f laws_szSittingS.f
    rw [hw, if_neg (by omega)]
    simp only [a1, a2, a3, a5, Option.bind_some, if_true, bne_self_eq_false]
    rw [laws_FnExactSetsOf.j0]
    simp only [b3, b4, b5, mk', Option.bind_some, Bool.false_eq_true, if_false, if_true, bne_self_eq_false]
    rw [if_neg n1, laws_FnExactSetsOf.j1]
    simp only [m2, h2, c2, c3, c5, Option.bind_some, Bool.false_eq_true, if_false, if_true, bne_self_eq_false]
    rw [if_neg n2, laws_FnExactSetsOf.j2]
    simp only [h3, Option.bind_some, Bool.false_eq_true, if_false, if_true]
    rw [if_neg n2]
    split <;> rfl

end Go.Proofs.Ytiaahlbaeeiipaa.Pure
