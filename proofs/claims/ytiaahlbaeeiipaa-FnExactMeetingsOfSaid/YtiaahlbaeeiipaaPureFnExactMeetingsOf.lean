/- The pure statement of FnExactMeetingsOf: for every list of sittings and every number; no condition. -/
import Derived.Test.YtiaahlbaeeiipaaPAf12
import Derived.Test.YtiaahlbaeeiipaaPuMeets
import Derived.Test.YtiaahlbaeeiipaaPAuInts
namespace Go.Proofs.Ytiaahlbaeeiipaa.Pure
open Go.RowKit Go.Proofs.Ytiaahlbaeeiipaa.PA Go.Proofs.Ytiaahlbaeeiipaa.Pu Go.Proofs.YtiaahlbaeeiipaaW.PrintWords Go.Proofs.YtiaahlbaeeiipaaW.PrintLast

theorem inR (y : S66) (h : ((Lit.int .i64 y.f0).wf = true) ∧ (((Lit.int .i64 y.f1).wf = true) ∧ (((Lit.int .i64 y.f2).wf = true) ∧ (((Lit.int .i64 y.f3).wf = true) ∧ ((Lit.int .i64 y.f4).wf = true))))) : InR (conv y) := by
  obtain ⟨_, _, h2, h3, _⟩ := h
  simp only [Lit.wf, IntKind.min, IntKind.max, IntKind.signed, IntKind.bits, Bool.and_eq_true, decide_eq_true_eq, if_true] at h2 h3
  unfold InR conv
  simp only
  omega
theorem all_in (l : List S66) (h : ∀ y ∈ l, InR (conv y)) : ∀ i : Nat, i < (l.map conv).length → InR (rd_T62 (l.map conv) i) := by
  intro i hi
  rw [List.length_map] at hi
  unfold rd_T62
  rw [Int.toNat_natCast, List.getD_eq_getElem?_getD, List.getElem?_map, List.getElem?_eq_getElem hi]
  exact h _ (List.getElem_mem hi)
theorem FnExactMeetingsOf {W : Prop} (l : List S66) (a : Int) (h : (∀ x ∈ l, ((Lit.int .i64 x.f0).wf = true) ∧ (((Lit.int .i64 x.f1).wf = true) ∧ (((Lit.int .i64 x.f2).wf = true) ∧ (((Lit.int .i64 x.f3).wf = true) ∧ ((Lit.int .i64 x.f4).wf = true))))) ∧ l.length * 40 ≤ 140737488351232 ∧ l.length ≤ 9223372036854775807) (_ : W) : ∃ k, laws_FnExactMeetingsOf.f k l a = some true := by
  have hin := fun y hy => inR y (h.1 y hy)
  replace h := h.2
  have hw : wrap64 (1048576 - (l.length : Int)) = 1048576 - (l.length : Int) := w64 (by omega) (by omega)
  by_cases hl : 1048576 < l.length
  · refine ⟨0, ?_⟩
    unfold laws_FnExactMeetingsOf.f laws_szSittingS.f
    rw [hw, if_pos (by omega)]
    simp
  · obtain ⟨R, E, m, hR, hb⟩ := meets_eq (l.map conv) a (by rw [List.length_map]; omega) (all_in l hin)
    rw [List.length_map] at hR
    have A : ∀ k, m + 1048577 ≤ k → (spec_MeetingsOf.f k (l.map conv) a = some (R, E)) ∧ (impl_MeetingsOf.f k (l.map conv) a = some (R, E)) ∧ laws_toSittingS.f k l = some (l.map conv) ∧ laws_eqSittingS.f k (l.map conv) (l.map conv) = some true ∧ laws_eqInt64S.f k R R = some true := fun k hk =>
      ⟨(hb k (by omega)).1, (hb k (by omega)).2, to_eq l k (by omega) (by omega), eq_self (l.map conv) k (by rw [List.length_map]; omega) (by rw [List.length_map]; omega), PAu.eqI_self R k (by omega) (by omega)⟩
    generalize hk : m + 1048577 = k at A
    obtain ⟨l', mk, _, _⟩ := mark_eq (l.map conv) (k + 1) 1 (by rw [List.length_map]; omega) (by omega) (by rw [List.length_map]; omega)
    rw [List.length_map] at mk
    have n1 : ¬ (1 + 5 * (l.length : Int)) < 0 := by omega
    obtain ⟨r', m2, hl2, hm2⟩ := PAu.markI_eq R (k + 1) 1 (by omega) (by omega) (by omega)
    have h2 := PAu.heldI_eq r' (k + 1) 1 hm2 (by omega) (by omega) (by omega)
    have h3 := PAu.heldI_eq r' k 1 hm2 (by omega) (by omega) (by omega)
    rw [hl2] at h2 h3
    have n2 : ¬ (1 + (R.length : Int)) < 0 := by omega
    obtain ⟨a1, a2, a3, a4, a5⟩ := A (k + 1 + 1 + 1) (by omega)
    obtain ⟨b1, b2, b3, b4, b5⟩ := A (k + 1 + 1) (by omega)
    obtain ⟨c1, c2, c3, c4, c5⟩ := A (k + 1) (by omega)
    have mk' := laws_markSittingS.mono (l.map conv) 1 (k + 1) _ mk
    have h2' := h2
    refine ⟨k + 1 + 1 + 1, ?_⟩
    clear hb A
    unfold laws_FnExactMeetingsOf.f laws_szSittingS.f
    rw [hw, if_neg (by omega)]
    simp only [a1, a2, a3, a5, Option.bind_some, if_true, bne_self_eq_false]
    rw [laws_FnExactMeetingsOf.j0]
    simp only [b3, b4, b5, mk', Option.bind_some, Bool.false_eq_true, if_false, if_true, bne_self_eq_false]
    rw [if_neg n1, laws_FnExactMeetingsOf.j1]
    simp only [m2, h2, c2, c3, c5, Option.bind_some, Bool.false_eq_true, if_false, if_true, bne_self_eq_false]
    rw [if_neg n2, laws_FnExactMeetingsOf.j2]
    simp only [h3, Option.bind_some, Bool.false_eq_true, if_false, if_true]
    rw [if_neg n2]
    split <;> rfl

end Go.Proofs.Ytiaahlbaeeiipaa.Pure
