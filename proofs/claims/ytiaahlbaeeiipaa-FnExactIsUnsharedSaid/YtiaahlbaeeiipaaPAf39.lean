-- printed by wip/myprint.py out of the translation (the kit's print.py, jointly for several laws); Lean checks it.
import Derived.Test.YtiaahlbaeeiipaaPAf0
import Derived.Test.YtiaahlbaeeiipaaPAf28
namespace Go.Proofs.Ytiaahlbaeeiipaa.PA
open Go.RowKit Go.Proofs.YtiaahlbaeeiipaaW.PrintWords Go.Proofs.YtiaahlbaeeiipaaW.PrintLast Go.Proofs.YtiaahlbaeeiipaaW.PrintMore
attribute [local go_sem] max2_int min2_int max_two min_two max_three min_three max_four min_four   -- for this text's walks alone
set_option linter.unusedVariables false
set_option linter.unusedSimpArgs false

/-! ### impl_IsUnshared: function 39 -/
/-- Do two sittings share a round and a set? -/
def impl_IsUnshared.p (x y : S62) : Bool := x.f0 == y.f0 && x.f4 == y.f4
/-- The first place at which p holds; -1: none. -/
def impl_IsUnshared.idx (p : S62 → Bool) : List S62 → Nat → Int
 | [], _ => -1
 | y :: l, i => if p y = true then i else impl_IsUnshared.idx p l (i + 1)
theorem impl_IsUnshared.idx_any (p : S62 → Bool) (l : List S62) : ∀ i : Nat, decide (0 ≤ impl_IsUnshared.idx p l i) = l.any p := by
 induction l with
 | nil => intro i; rfl
 | cons y l ih =>
  intro i
  by_cases h : p y = true
  ·simp [impl_IsUnshared.idx, h]
  ·have := ih (i + 1)
   simp only [Bool.not_eq_true] at h
   simpa [impl_IsUnshared.idx, h] using this
theorem impl_IsUnshared.idx_skip (p : S62 → Bool) (l : List S62) (k : Nat) : (∀ j : Nat, j < k → p (rd_T62 l j) = false) → k ≤ l.length → impl_IsUnshared.idx p l 0 = impl_IsUnshared.idx p (l.drop k) k := by
 induction k with
 | zero => intro _ _; rfl
 | succ k ih =>
  intro h hk
  rw [ih (fun j hj => h j (by omega)) (by omega), List.drop_eq_getElem_cons (by omega)]
  have h0 : p l[k] = false := by
   have := h k (by omega)
   unfold rd_T62 at this
   rwa [Int.toNat_natCast, List.getD_eq_getElem?_getD, List.getElem?_eq_getElem (by omega)] at this
  simp [impl_IsUnshared.idx, h0]
theorem impl_IsUnshared.rd_at (l : List S62) (k : Nat) (h : k < l.length) : rd_T62 l (k : Int) = l[k] := by
 unfold rd_T62; rw [Int.toNat_natCast, List.getD_eq_getElem?_getD, List.getElem?_eq_getElem h]; rfl
set_option maxHeartbeats 8000000 in
set_option maxRecDepth 100000 in
theorem impl_IsUnshared.lit (B : Nat) (x y : S62) (w : World) (h0 : w.cell? ⟨B, 0, none⟩ = some (.int .i64 x.f0)) (h4 : w.cell? ⟨B, 4, none⟩ = some (.int .i64 x.f4)) :
  Calls Try.prog 75 #[.agg #[.int .i64 y.f0, .int .i64 y.f1, .int .i64 y.f2, .int .i64 y.f3, .int .i64 y.f4], .pointer (some ⟨B, 0, none⟩)] w fun e w' => e = .returned (.bool (impl_IsUnshared.p x y)) ∧ Below w.heap.size w w' := by
 have hu62 := Try.underlying62
 have hlt := World.block_lt_of_cell? w _ h0
 have hne : B ≠ w.heap.size := by have h : B < w.heap.size := hlt; omega
 have g0 : ∀ o, (w.alloc o).cell? ⟨B, 0, none⟩ = some (.int .i64 x.f0) := fun o => pw_cell_below (below_alloc (Below.refl _ _) o) h0
 have g4 : ∀ o, (w.alloc o).cell? ⟨B, 4, none⟩ = some (.int .i64 x.f4) := fun o => pw_cell_below (below_alloc (Below.refl _ _) o) h4
 by_cases h : x.f0 = y.f0
 ·have h1 : (x.f0 == y.f0) = true := by simp [h]
  have h2 : (x.f0 != y.f0) = false := by simp [h]
  have H := Aside0.mk h
  clear h
  go_enter Try.func75, Try.ntmps75
  go_wp2
  go_ret
  exact ⟨by simp [impl_IsUnshared.p, H.out], below_alloc (Below.refl _ _) _⟩
 ·have h1 : (x.f0 == y.f0) = false := by simp [h]
  have h2 : (x.f0 != y.f0) = true := by simp [h]
  have H := Aside0.mk h
  clear h
  go_enter Try.func75, Try.ntmps75
  go_wp2
  go_ret
  exact ⟨by simp [impl_IsUnshared.p, H.out], below_alloc (Below.refl _ _) _⟩
set_option maxHeartbeats 8000000 in
set_option maxRecDepth 100000 in
theorem impl_IsUnshared.index (A0 : Option Addr) (n c0 : Nat) (l0 : List S62) (B : Nat) (x : S62) (w : World) (hr0 : Kd.C k62 w A0 n l0) (h0 : w.cell? ⟨B, 0, none⟩ = some (.int .i64 x.f0)) (h4 : w.cell? ⟨B, 4, none⟩ = some (.int .i64 x.f4)) :
  Calls Try.prog 93 #[.slice A0 n c0, .func (.func 75) #[] #[.pointer (some ⟨B, 0, none⟩)]] w fun e w' => e = .returned (.int .i64 (impl_IsUnshared.idx (impl_IsUnshared.p x) l0 0)) ∧ Below w.heap.size w w' := by
 have hu62 := Try.underlying62
 obtain rfl := hr0.1
 have HR := Aside0.mk hr0
 have G0 := Aside0.mk h0
 have G4 := Aside0.mk h4
 have hm : l0.length ≤ 9223372036854775807 := hr0.2.1
 clear hr0 h0 h4
 go_enter Try.func93, Try.ntmps93
 go_wp2
 go_loopw [8] (fun i wr => ∃ k : Nat, k ≤ l0.length ∧ i = .int .i64 k ∧ Aside0 (∀ j : Nat, j < k → impl_IsUnshared.p x (rd_T62 l0 j) = false) ∧ Aside0 (Below w.heap.size w wr)) (fun i _ => l0.length - (intOf i).toNat)
 case atStart => exact ⟨0, Nat.zero_le _, rfl, ⟨fun j hj => absurd hj (by omega)⟩, ⟨Below.refl _ _⟩⟩
 case round =>
  obtain ⟨k, hk, rfl, HZ, HB⟩ := hrel
  by_cases hlt : k < l0.length
  ·obtain ⟨ad, e, hx0, hx1, hx2, hx3, hx4⟩ := at_T62 HR.out (k : Int) (by omega) (by omega)
   cases e
   simp only [Int.toNat_natCast] at hx0 hx1 hx2 hx3 hx4
   replace hx0 := pw_cell_below HB.out hx0
   replace hx1 := pw_cell_below HB.out hx1
   replace hx2 := pw_cell_below HB.out hx2
   replace hx3 := pw_cell_below HB.out hx3
   replace hx4 := pw_cell_below HB.out hx4
   have C0 := Aside0.mk (pw_cell_below HB.out G0.out)
   have C4 := Aside0.mk (pw_cell_below HB.out G4.out)
   obtain ⟨q, hq⟩ : ∃ q, impl_IsUnshared.p x (rd_T62 l0 (k : Int)) = q := ⟨_, rfl⟩
   have HL := Aside0.mk (by have := impl_IsUnshared.lit B x (rd_T62 l0 (k : Int)) _ C0.out C4.out; rw [hq] at this; exact this)
   have HQ := Aside0.mk hq
   clear hq
   cases q
   ·go_wp2_with (go_at_call 75; refine HL.out.mono ?_; rintro e w' ⟨rfl, hb⟩; have HB2 := Aside0.mk (below_step HB.out hb); clear hb)
    go_roundw
    case rel => exact ⟨k + 1, by omega, by go_num, ⟨fun j hj => by
     by_cases e : j = k
     ·subst e; exact HQ.out
     ·exact HZ.out j (by omega)⟩, HB2⟩
    case measure => simp [intOf]; omega
   ·go_wp2_with (go_at_call 75; refine HL.out.mono ?_; rintro e w' ⟨rfl, hb⟩; have HB2 := Aside0.mk (below_step HB.out hb); clear hb)
    go_ret
    refine ⟨?_, HB2.out⟩
    have h := HQ.out
    rw [impl_IsUnshared.rd_at l0 k hlt] at h
    rw [impl_IsUnshared.idx_skip _ l0 k HZ.out hk, List.drop_eq_getElem_cons hlt]
    simp [impl_IsUnshared.idx, h]
  ·go_wp2
   go_ret
   refine ⟨?_, HB.out⟩
   rw [impl_IsUnshared.idx_skip _ l0 k HZ.out hk, List.drop_of_length_le (by omega)]
   rfl
set_option maxHeartbeats 8000000 in
set_option maxRecDepth 100000 in
theorem impl_IsUnshared.contains (A0 : Option Addr) (n c0 : Nat) (l0 : List S62) (B : Nat) (x : S62) (w : World) (hr0 : Kd.C k62 w A0 n l0) (h0 : w.cell? ⟨B, 0, none⟩ = some (.int .i64 x.f0)) (h4 : w.cell? ⟨B, 4, none⟩ = some (.int .i64 x.f4)) :
  Calls Try.prog 74 #[.slice A0 n c0, .func (.func 75) #[] #[.pointer (some ⟨B, 0, none⟩)]] w fun e w' => e = .returned (.bool (l0.any (impl_IsUnshared.p x))) ∧ Below w.heap.size w w' := by
 have HI := Aside0.mk (impl_IsUnshared.index A0 n c0 l0 B x w hr0 h0 h4)
 have HA := Aside0.mk (impl_IsUnshared.idx_any (impl_IsUnshared.p x) l0 0)
 clear hr0 h0 h4
 go_enter Try.func74, Try.ntmps74
 go_wp2_with (go_at_call 93; refine HI.out.mono ?_; rintro e w' ⟨rfl, hb⟩; have HB2 := Aside0.mk hb; clear hb)
 go_ret
 exact ⟨by rw [← HA.out]; rfl, HB2.out⟩
/-- No two sittings share a round and a set, from the i-th on. -/
def impl_IsUnshared.ok (l : List S62) (i : Nat) : Bool := !(l.take i).any (impl_IsUnshared.p (rd_T62 l i))
def impl_IsUnshared.L (l : List S62) : Bool := (List.range l.length).all (impl_IsUnshared.ok l)
def impl_IsUnshared.f (k : Nat) (l0 : List S62) : Option Bool := (impl_IsMovement.f k l0).bind fun b => if b = true then some (impl_IsUnshared.L l0) else some false
theorem impl_IsUnshared.mono : ∀ a0 k, LeO (impl_IsUnshared.f k a0) (impl_IsUnshared.f (k + 1) a0) := fun a0 k => LeO.bind (impl_IsMovement.mono a0 k) (fun _ => LeO.refl _)
set_option maxHeartbeats 8000000 in
set_option maxRecDepth 100000 in
theorem impl_IsUnshared.calls (k : Nat) (A0 : Option Addr) (c0 : Nat) (l0 : List S62) (r : Bool) (w : World) (hr0 : Kd.C k62 w A0 l0.length l0) (hc0 : l0.length ≤ c0) (h : impl_IsUnshared.f k l0 = some r) :
  Calls Try.prog 39 #[.slice A0 l0.length c0] w fun e w' => e = .returned (.bool r) ∧ Below w.heap.size w w' := by
 have hu62 := Try.underlying62
 have HR := Aside0.mk hr0
 have hm : l0.length ≤ 9223372036854775807 := hr0.2.1
 obtain ⟨b, hb, h2⟩ := Option.bind_eq_some_iff.1 h
 have HM := Aside0.mk (impl_IsMovement.calls k A0 c0 l0 b w hr0 hc0 hb)
 clear hr0 h hb
 cases b
 ·obtain rfl := Option.some.inj h2
  clear h2
  go_enter Try.func39, Try.ntmps39
  go_wp2_with (go_at_call 28; refine HM.out.mono ?_; rintro e w' ⟨rfl, hb⟩; have HB := Aside0.mk hb; clear hb)
  go_ret
  exact ⟨rfl, HB.out⟩
 ·have HF := Aside0.mk (Option.some.inj h2)
  clear h2
  go_enter Try.func39, Try.ntmps39
  go_wp2_with (go_at_call 28; refine HM.out.mono ?_; rintro e w' ⟨rfl, hb⟩; have HB := Aside0.mk hb; clear hb)
  clear HM
  go_loopw [10] (fun i wr => ∃ k : Nat, k ≤ l0.length ∧ i = .int .i64 k ∧ Aside0 (∀ j : Nat, j < k → impl_IsUnshared.ok l0 j = true) ∧ Aside0 (Below w.heap.size w wr)) (fun i _ => l0.length - (intOf i).toNat)
  case atStart => exact ⟨0, Nat.zero_le _, rfl, ⟨fun j hj => absurd hj (by omega)⟩, HB⟩
  case round =>
   clear HB
   obtain ⟨k, hk, rfl, HZ, HB⟩ := hrel
   by_cases hlt : k < l0.length
   ·obtain ⟨ad, e, hx0, hx1, hx2, hx3, hx4⟩ := at_T62 HR.out (k : Int) (by omega) (by omega)
    cases e
    simp only [Int.toNat_natCast] at hx0 hx1 hx2 hx3 hx4
    replace hx0 := pw_cell_below HB.out hx0
    replace hx1 := pw_cell_below HB.out hx1
    replace hx2 := pw_cell_below HB.out hx2
    replace hx3 := pw_cell_below HB.out hx3
    replace hx4 := pw_cell_below HB.out hx4
    have HC := Aside0.mk (Kd.C_below (Kd.C_take (m := k) HR.out (by omega)) (below_alloc HB.out (.cells #[.int .i64 (rd_T62 l0 k).f0, .int .i64 (rd_T62 l0 k).f1, .int .i64 (rd_T62 l0 k).f2, .int .i64 (rd_T62 l0 k).f3, .int .i64 (rd_T62 l0 k).f4] 62)))
    have hlk : (l0.take k).length = k := by rw [List.length_take]; omega
    rw [hlk] at HC
    obtain ⟨q, hq⟩ : ∃ q, (l0.take k).any (impl_IsUnshared.p (rd_T62 l0 (k : Int))) = q := ⟨_, rfl⟩
    have HK := Aside0.mk (by have := impl_IsUnshared.contains (some ad) k c0 (l0.take k) wr.heap.size (rd_T62 l0 k) _ HC.out (by simp) (by simp); rw [hq] at this; exact this)
    have HQ := Aside0.mk hq
    clear hq hlk HC
    cases q
    ·go_wp2_with (go_at_call 74; refine HK.out.mono ?_; rintro e w' ⟨rfl, hb⟩; have HB2 := Aside0.mk (below_step (below_alloc HB.out _) hb); clear hb)
     go_roundw
     case rel => exact ⟨k + 1, by omega, by go_num, ⟨fun j hj => by
      by_cases e : j = k
      ·subst e; unfold impl_IsUnshared.ok; rw [HQ.out]; rfl
      ·exact HZ.out j (by omega)⟩, HB2⟩
     case measure => simp [intOf]; omega
    ·go_wp2_with (go_at_call 74; refine HK.out.mono ?_; rintro e w' ⟨rfl, hb⟩; have HB2 := Aside0.mk (below_step (below_alloc HB.out _) hb); clear hb)
     go_ret
     refine ⟨?_, HB2.out⟩
     rw [← HF.out]
     have : impl_IsUnshared.L l0 = false := by
      unfold impl_IsUnshared.L
      rw [List.all_eq_false]
      exact ⟨k, List.mem_range.2 hlt, by unfold impl_IsUnshared.ok; rw [HQ.out]; simp⟩
     rw [this]
     rfl
   ·go_wp2
    go_ret
    refine ⟨?_, HB.out⟩
    rw [← HF.out]
    have : impl_IsUnshared.L l0 = true := by
     unfold impl_IsUnshared.L
     rw [List.all_eq_true]
     intro j hj
     exact HZ.out j (by have := List.mem_range.1 hj; omega)
    rw [this]
    rfl


end Go.Proofs.Ytiaahlbaeeiipaa.PA
