/- The pure statement of FnExactIsUnshared: for every list of sittings; no condition. -/
import Derived.Test.YtiaahlbaeeiipaaPAf9
import Derived.Test.YtiaahlbaeeiipaaPuUnsh
namespace Go.Proofs.Ytiaahlbaeeiipaa.Pure
open Go.RowKit Go.Proofs.Ytiaahlbaeeiipaa.PA Go.Proofs.Ytiaahlbaeeiipaa.Pu Go.Proofs.YtiaahlbaeeiipaaW.PrintWords Go.Proofs.YtiaahlbaeeiipaaW.PrintLast

theorem FnExactIsUnshared {G : S66 → Prop} (l : List S66) (h : (∀ x ∈ l, G x) ∧ l.length * 40 ≤ 140737488351232 ∧ l.length ≤ 9223372036854775807) : ∃ k, laws_FnExactIsUnshared.f k l = some true := by
  have hw : wrap64 (1048576 - (l.length : Int)) = 1048576 - (l.length : Int) := w64 (by omega) (by omega)
  by_cases hl : 1048576 < l.length
  · refine ⟨0, ?_⟩
    unfold laws_FnExactIsUnshared.f laws_szSittingS.f
    rw [hw, if_pos (by omega)]
    simp
  · obtain ⟨b, m, hb⟩ := unsh_eq (l.map conv) (by rw [List.length_map]; omega)
    refine ⟨m + 1048577, ?_⟩
    have e1 := to_eq l (m + 1048577) (by omega) (by omega)
    obtain ⟨e2, e3⟩ := hb (m + 1048577) (by omega)
    have e4 := eq_self (l.map conv) (m + 1048577) (by rw [List.length_map]; omega) (by rw [List.length_map]; omega)
    unfold laws_FnExactIsUnshared.f laws_szSittingS.f
    rw [hw, if_neg (by omega)]
    simp only [Option.bind_some, e1, e2, e3, e4, bne_self_eq_false, Bool.false_eq_true, if_false, if_true]
    rw [if_neg (by omega)]

end Go.Proofs.Ytiaahlbaeeiipaa.Pure
