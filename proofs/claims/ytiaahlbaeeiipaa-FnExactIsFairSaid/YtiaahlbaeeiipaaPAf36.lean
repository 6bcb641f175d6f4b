-- printed by wip/myprint.py out of the translation (the kit's print.py, jointly for several laws); Lean checks it.
import Derived.Test.YtiaahlbaeeiipaaPAf0
import Derived.Test.YtiaahlbaeeiipaaPAf65
import Derived.Test.YtiaahlbaeeiipaaPAf26
namespace Go.Proofs.Ytiaahlbaeeiipaa.PA
open Go.RowKit Go.Proofs.YtiaahlbaeeiipaaW.PrintWords Go.Proofs.YtiaahlbaeeiipaaW.PrintLast Go.Proofs.YtiaahlbaeeiipaaW.PrintMore
attribute [local go_sem] max2_int min2_int max_two min_two max_three min_three max_four min_four   -- for this text's walks alone
set_option linter.unusedVariables false
set_option linter.unusedSimpArgs false

/-! ### spec_IsFair: function 36 -/
mutual
def spec_IsFair.l0 : Nat → List (S62) → Int → Option (Bool)
 | 0, _, _ => none
 | k + 1, x0, x3 => if x3 < (x0.length : Int) then (spec_IsFair.l1 k x0 x3 0) else (some true)
def spec_IsFair.l1 : Nat → List (S62) → Int → Int → Option (Bool)
 | 0, _, _, _ => none
 | k + 1, x0, x3, x4 => if x4 < x3 then (if 0 ≤ x3 then (if x3 < (x0.length : Int) then (if 0 ≤ x4 then (if x4 < (x0.length : Int) then ((spec_l32Sits.f ((rd_T62 x0 x4).f0) ((rd_T62 x0 x4).f1) ((rd_T62 x0 x4).f2) ((rd_T62 x0 x4).f3) ((rd_T62 x0 x4).f4) ((rd_T62 x0 x3).f2)).bind fun t313 => ((spec_l32Sits.f ((rd_T62 x0 x4).f0) ((rd_T62 x0 x4).f1) ((rd_T62 x0 x4).f2) ((rd_T62 x0 x4).f3) ((rd_T62 x0 x4).f4) ((rd_T62 x0 x3).f3)).bind fun t314 => (if t313 = true then (if t314 = true then (spec_IsFair.j2 k x0 x3 x4 true) else (if ((rd_T62 x0 x3).f4) = ((rd_T62 x0 x4).f4) then (spec_IsFair.j2 k x0 x3 x4 true) else (spec_IsFair.j2 k x0 x3 x4 false))) else (if ((rd_T62 x0 x3).f4) = ((rd_T62 x0 x4).f4) then (spec_IsFair.j2 k x0 x3 x4 t314) else (spec_IsFair.j2 k x0 x3 x4 false))))) else (none)) else (none)) else (none)) else (none)) else (spec_IsFair.l0 k x0 (wrap64 (x3 + 1)))
def spec_IsFair.j2 : Nat → List (S62) → Int → Int → Bool → Option (Bool)
 | 0, _, _, _, _ => none
 | k + 1, x0, x3, x4, x55 => if x55 = true then (some false) else (spec_IsFair.l1 k x0 x3 (wrap64 (x4 + 1)))
end
def spec_IsFair.f (k : Nat) (l0 : List (S62)) : Option (Bool) := (spec_IsMovement.f k l0).bind fun t308 => (if t308 = true then (spec_IsFair.l0 k l0 0) else (some false))
theorem spec_IsFair.mono_l : ∀ k, (∀ y0 y1, LeO (spec_IsFair.l0 k y0 y1) (spec_IsFair.l0 (k + 1) y0 y1)) ∧ (∀ y0 y1 y2, LeO (spec_IsFair.l1 k y0 y1 y2) (spec_IsFair.l1 (k + 1) y0 y1 y2)) ∧ (∀ y0 y1 y2 y3, LeO (spec_IsFair.j2 k y0 y1 y2 y3) (spec_IsFair.j2 (k + 1) y0 y1 y2 y3))
 | 0 => ⟨fun _ _ r h => by simp [spec_IsFair.l0] at h, fun _ _ _ r h => by simp [spec_IsFair.l1] at h, fun _ _ _ _ r h => by simp [spec_IsFair.j2] at h⟩
 | k + 1 => by
  obtain ⟨ih0, ih1, ih2⟩ := spec_IsFair.mono_l k
  refine ⟨?_, ?_, ?_⟩
  ·intro y0 y1
   unfold spec_IsFair.l0
   repeat' first
   | (with_reducible exact ih0 _ _)
   | (with_reducible exact ih1 _ _ _)
   | (with_reducible exact ih2 _ _ _ _)
   | (with_reducible exact spec_IsMovement.mono _ _)
   | (with_reducible exact LeO.refl _)
   | (with_reducible exact LeO.none _)
   | (with_reducible refine LeO.ite ?_ ?_)
   | (with_reducible refine LeO.bind ?_ (fun _ => ?_))
   | exact ih0 _ _
   | exact ih1 _ _ _
   | exact ih2 _ _ _ _
   | exact spec_IsMovement.mono _ _
   | exact LeO.none _
   | refine LeO.ite ?_ ?_
   | refine LeO.bind ?_ (fun _ => ?_)
  ·intro y0 y1 y2
   unfold spec_IsFair.l1
   repeat' first
   | (with_reducible exact ih0 _ _)
   | (with_reducible exact ih1 _ _ _)
   | (with_reducible exact ih2 _ _ _ _)
   | (with_reducible exact spec_IsMovement.mono _ _)
   | (with_reducible exact LeO.refl _)
   | (with_reducible exact LeO.none _)
   | (with_reducible refine LeO.ite ?_ ?_)
   | (with_reducible refine LeO.bind ?_ (fun _ => ?_))
   | exact ih0 _ _
   | exact ih1 _ _ _
   | exact ih2 _ _ _ _
   | exact spec_IsMovement.mono _ _
   | exact LeO.none _
   | refine LeO.ite ?_ ?_
   | refine LeO.bind ?_ (fun _ => ?_)
  ·intro y0 y1 y2 y3
   unfold spec_IsFair.j2
   repeat' first
   | (with_reducible exact ih0 _ _)
   | (with_reducible exact ih1 _ _ _)
   | (with_reducible exact ih2 _ _ _ _)
   | (with_reducible exact spec_IsMovement.mono _ _)
   | (with_reducible exact LeO.refl _)
   | (with_reducible exact LeO.none _)
   | (with_reducible refine LeO.ite ?_ ?_)
   | (with_reducible refine LeO.bind ?_ (fun _ => ?_))
   | exact ih0 _ _
   | exact ih1 _ _ _
   | exact ih2 _ _ _ _
   | exact spec_IsMovement.mono _ _
   | exact LeO.none _
   | refine LeO.ite ?_ ?_
   | refine LeO.bind ?_ (fun _ => ?_)
theorem spec_IsFair.mono : ∀ a0 k, LeO (spec_IsFair.f k a0) (spec_IsFair.f (k + 1) a0) := by
 intro a0 k
 obtain ⟨ih0, ih1, ih2⟩ := spec_IsFair.mono_l k
 unfold spec_IsFair.f
 repeat' first
   | (with_reducible exact ih0 _ _)
   | (with_reducible exact ih1 _ _ _)
   | (with_reducible exact ih2 _ _ _ _)
   | (with_reducible exact spec_IsMovement.mono _ _)
   | (with_reducible exact LeO.refl _)
   | (with_reducible exact LeO.none _)
   | (with_reducible refine LeO.ite ?_ ?_)
   | (with_reducible refine LeO.bind ?_ (fun _ => ?_))
   | exact ih0 _ _
   | exact ih1 _ _ _
   | exact ih2 _ _ _ _
   | exact spec_IsMovement.mono _ _
   | exact LeO.none _
   | refine LeO.ite ?_ ?_
   | refine LeO.bind ?_ (fun _ => ?_)
set_option maxHeartbeats 8000000 in
set_option maxRecDepth 100000 in
theorem spec_IsFair.calls (k : Nat) (A0 : Option Addr) (c0 : Nat) (l0 : List (S62)) (r : Bool) (w : World) (hr0 : Kd.C k62 w A0 l0.length l0) (hc0 : l0.length ≤ c0) (h : spec_IsFair.f k l0 = some r) :
  Calls Try.prog 36 #[.slice A0 l0.length c0] w fun e w' => e = .returned (.bool r) ∧ Below w.heap.size w w' := by
 have hu62 := Try.underlying62
 have HR0 := Aside0.mk hr0
 have HC0 := Aside0.mk hc0
 clear hr0 hc0
 have HB := Aside0.mk (Below.refl w.heap.size w)
 have H : ((spec_IsMovement.f k l0).bind fun t308 => (if t308 = true then (spec_IsFair.l0 k l0 0) else (some false))) = some r := h
 clear h
 replace H := Option.bind_eq_some_iff.mp H
 obtain ⟨t308, A20, H⟩ := H
 replace H : (if t308 = true then (spec_IsFair.l0 k l0 0) else (some false)) = some r := H
 have A2 := Aside0.mk A20
 clear A20
 by_cases c3 : t308 = true
 ·subst c3
  have H1 : (spec_IsFair.l0 k l0 0) = some r := by rw [if_pos rfl] at H; exact H
  clear H
  have H := H1
  clear H1
  have H' := Aside0.mk H
  clear H
  go_enter Try.func36, Try.ntmps36
  go_wp2_with (first | ((with_reducible refine gate_callee (f := 26) rfl ?_); refine goesL_ (some 10) rfl rfl Try.func26 (by kernel_rfl) rfl #[.slice A0 l0.length c0] rfl (by (try simp only [List.map_toArray, List.map_cons, List.map_nil]); first | done | rfl | (simp only [List.length_drop, List.length_take]; rfl)) ?_; (with_reducible refine (spec_IsMovement.calls k _ _ l0 true _ ?side1 ?side2 A2.out).mono ?_); (case side1 => repeat (first | exact HR0.out | (with_reducible refine Kd.C_alloc ?_ _) | (with_reducible refine Kd.C_drewN ?_ _) | (with_reducible refine Kd.C_drew ?_))); (case side2 => exact HC0.out); rintro e w4 ⟨rfl, hb⟩; refine ⟨_, rfl, ?_⟩; have n0_ := Aside0.mk (below_step (by repeat (first | (with_reducible first | exact HB.out | apply below_alloc | apply pw_below_drewN | apply below_drew1) | exact HB.out)) hb); clear HB; have HB := n0_; clear n0_; (try clear hb); (try clear hb2); (try clear hk); (try clear hi)))
  go_loopg [3] k (fun kq v3 w' => ∃ (x3_1 : Int), v3 = .int .i64 x3_1 ∧ Aside0 (spec_IsFair.l0 kq l0 x3_1 = some r) ∧ Aside0 (kq ≤ k) ∧ Aside0 (Below w.heap.size w w'))
  case atStart => exact ⟨(0), (by first | rfl | (simp; done) | (simp [*]; done)), H', ⟨Nat.le_refl _⟩, ⟨by repeat (first | (with_reducible first | exact HB.out | apply below_alloc | apply pw_below_drewN | apply below_drew1) | exact HB.out)⟩⟩
  case round =>
   clear H'
   try clear c2
   try clear p2
   try clear c3
   obtain ⟨x3_1, rfl, HA, HK1, HB⟩ := hrel
   cases gk with
   | zero => exact absurd HA.out (by simp [spec_IsFair.l0])
   | succ k1 =>
    have H := HA.out
    clear HA
    simp only [spec_IsFair.l0] at H
    by_cases c5 : x3_1 < (l0.length : Int)
    ·rw [if_pos c5] at H
     have c5b0 : decide (x3_1 < (l0.length : Int)) = true := decide_eq_true c5
     clear c5
     have H' := Aside0.mk H
     clear H
     go_wp2
     go_loopg [4] k1 (fun kq v4 w' => ∃ (x4_2 : Int), v4 = .int .i64 x4_2 ∧ Aside0 (spec_IsFair.l1 kq l0 x3_1 x4_2 = some r) ∧ Aside0 (kq ≤ k1) ∧ Aside0 (Below w.heap.size w w'))
     case atStart => exact ⟨(0), (by first | rfl | (simp; done) | (simp [*]; done)), H', ⟨Nat.le_refl _⟩, ⟨by repeat (first | (with_reducible first | exact HB.out | apply below_alloc | apply pw_below_drewN | apply below_drew1) | exact HB.out)⟩⟩
     case round =>
      clear H'
      try clear c2
      try clear p2
      try clear c3
      try clear c5
      try clear c5b0
      try clear p2
      obtain ⟨x4_2, rfl, HA, HK2, HB⟩ := hrel
      cases gk with
      | zero => exact absurd HA.out (by simp [spec_IsFair.l1])
      | succ k2 =>
       have H := HA.out
       clear HA
       simp only [spec_IsFair.l1] at H
       by_cases c6 : x4_2 < x3_1
       ·rw [if_pos c6] at H
        have c6b0 : decide (x4_2 < x3_1) = true := decide_eq_true c6
        clear c6
        by_cases c7 : 0 ≤ x3_1
        ·rw [if_pos c7] at H
         have c7b0 : decide (0 ≤ x3_1) = true := decide_eq_true c7
         clear c7
         by_cases c8 : x3_1 < (l0.length : Int)
         ·rw [if_pos c8] at H
          have c8b0 : decide (x3_1 < (l0.length : Int)) = true := decide_eq_true c8
          clear c8
          by_cases c9 : 0 ≤ x4_2
          ·rw [if_pos c9] at H
           have c9b0 : decide (0 ≤ x4_2) = true := decide_eq_true c9
           clear c9
           by_cases c10 : x4_2 < (l0.length : Int)
           ·rw [if_pos c10] at H
            have c10b0 : decide (x4_2 < (l0.length : Int)) = true := decide_eq_true c10
            clear c10
            replace H := Option.bind_eq_some_iff.mp H
            obtain ⟨t313, A110, H⟩ := H
            replace H : ((spec_l32Sits.f ((rd_T62 l0 x4_2).f0) ((rd_T62 l0 x4_2).f1) ((rd_T62 l0 x4_2).f2) ((rd_T62 l0 x4_2).f3) ((rd_T62 l0 x4_2).f4) ((rd_T62 l0 x3_1).f3)).bind fun t314 => (if t313 = true then (if t314 = true then (spec_IsFair.j2 k2 l0 x3_1 x4_2 true) else (if ((rd_T62 l0 x3_1).f4) = ((rd_T62 l0 x4_2).f4) then (spec_IsFair.j2 k2 l0 x3_1 x4_2 true) else (spec_IsFair.j2 k2 l0 x3_1 x4_2 false))) else (if ((rd_T62 l0 x3_1).f4) = ((rd_T62 l0 x4_2).f4) then (spec_IsFair.j2 k2 l0 x3_1 x4_2 t314) else (spec_IsFair.j2 k2 l0 x3_1 x4_2 false)))) = some r := H
            have A11 := Aside0.mk A110
            clear A110
            replace H := Option.bind_eq_some_iff.mp H
            obtain ⟨t314, A120, H⟩ := H
            replace H : (if t313 = true then (if t314 = true then (spec_IsFair.j2 k2 l0 x3_1 x4_2 true) else (if ((rd_T62 l0 x3_1).f4) = ((rd_T62 l0 x4_2).f4) then (spec_IsFair.j2 k2 l0 x3_1 x4_2 true) else (spec_IsFair.j2 k2 l0 x3_1 x4_2 false))) else (if ((rd_T62 l0 x3_1).f4) = ((rd_T62 l0 x4_2).f4) then (spec_IsFair.j2 k2 l0 x3_1 x4_2 t314) else (spec_IsFair.j2 k2 l0 x3_1 x4_2 false))) = some r := H
            have A12 := Aside0.mk A120
            clear A120
            have HC13 := Aside0.mk H
            clear H
            have p309 : 0 ≤ (x3_1 : Int) := of_decide_eq_true (by first | (with_reducible assumption) | assumption)
            have q309 : x3_1 < (l0.length : Int) := of_decide_eq_true (by first | (with_reducible assumption) | assumption)
            obtain ⟨ad309, e309, hx309_0, hx309_1, hx309_2, hx309_3, hx309_4⟩ := at_T62 HR0.out x3_1 p309 q309
            cases e309
            replace hx309_0 := (HB.out.cell (World.block_lt_of_cell? w _ hx309_0)).trans hx309_0
            replace hx309_1 := (HB.out.cell (World.block_lt_of_cell? w _ hx309_1)).trans hx309_1
            replace hx309_2 := (HB.out.cell (World.block_lt_of_cell? w _ hx309_2)).trans hx309_2
            replace hx309_3 := (HB.out.cell (World.block_lt_of_cell? w _ hx309_3)).trans hx309_3
            replace hx309_4 := (HB.out.cell (World.block_lt_of_cell? w _ hx309_4)).trans hx309_4
            replace p309 := eq_true p309
            replace q309 := eq_true q309
            go_upto_region 13 with (first | ((with_reducible refine gate_dst (N := 5) rfl ?_); refine box_event ?hg (N := 5) ?hd (cs := #[.int .i64 0, .int .i64 0, .int .i64 0, .int .i64 0, .int .i64 0]) (t := 62) ?hr ?_; (case hd => rfl); (case hg => rfl); (case hr => first | (go_simp; done) | (go_simp; rfl)); intro gb310 hg w14 hbox hb; have n0_ := Aside0.mk (below_step (by repeat (first | (with_reducible first | exact HB.out | apply below_alloc | apply pw_below_drewN | apply below_drew1) | exact HB.out)) hb); have n1_ := Aside0.mk (hbox); have n2_ := Aside0.mk ((by rw [hg]; exact (below_size (by repeat (first | (with_reducible first | exact HB.out | apply below_alloc | apply pw_below_drewN | apply below_drew1) | exact HB.out))) : w.heap.size ≤ gb310)); have n3_ := Aside0.mk ((by rw [hg]; exact (below_size (by repeat (first | (with_reducible first | exact HB.out | apply below_alloc | apply pw_below_drewN | apply below_drew1) | exact HB.out))) : w.heap.size ≤ gb310)); clear HB; have HB := n0_; have BK310 := n1_; have GW310 := n2_; have GE310 := n3_; clear n0_ n1_ n2_ n3_; clear hb hbox hg; have hcz15_0 : w14.cell? ⟨gb310, 0, none⟩ = some (.int .i64 0) := (blk_cell BK310.out 0).trans rfl; have hcz15_1 : w14.cell? ⟨gb310, 1, none⟩ = some (.int .i64 0) := (blk_cell BK310.out 1).trans rfl; have hcz15_2 : w14.cell? ⟨gb310, 2, none⟩ = some (.int .i64 0) := (blk_cell BK310.out 2).trans rfl; have hcz15_3 : w14.cell? ⟨gb310, 3, none⟩ = some (.int .i64 0) := (blk_cell BK310.out 3).trans rfl; have hcz15_4 : w14.cell? ⟨gb310, 4, none⟩ = some (.int .i64 0) := (blk_cell BK310.out 4).trans rfl; have hfz15_0 := blk_frozen BK310.out 0; have hfz15_1 := blk_frozen BK310.out 1; have hfz15_2 := blk_frozen BK310.out 2; have hfz15_3 := blk_frozen BK310.out 3; have hfz15_4 := blk_frozen BK310.out 4; have p311 : 0 ≤ (x4_2 : Int) := of_decide_eq_true (by first | (with_reducible assumption) | assumption); have q311 : x4_2 < (l0.length : Int) := of_decide_eq_true (by first | (with_reducible assumption) | assumption); obtain ⟨ad311, e311, hx311_0, hx311_1, hx311_2, hx311_3, hx311_4⟩ := at_T62 HR0.out x4_2 p311 q311; obtain rfl : ad309 = ad311 := (by injection e311); have hn311_0 : ad309.block ≠ gb310 := Nat.ne_of_lt (Nat.lt_of_lt_of_le (by have := World.block_lt_of_cell? _ _ hx311_0; first | rwa [add_block] at this | exact this) GW310.out); have hn311_1 : ad309.block ≠ gb310 := Nat.ne_of_lt (Nat.lt_of_lt_of_le (by have := World.block_lt_of_cell? _ _ hx311_0; first | rwa [add_block] at this | exact this) GW310.out); have hn311_2 : ad309.block ≠ gb310 := Nat.ne_of_lt (Nat.lt_of_lt_of_le (by have := World.block_lt_of_cell? _ _ hx311_0; first | rwa [add_block] at this | exact this) GW310.out); have hn311_3 : ad309.block ≠ gb310 := Nat.ne_of_lt (Nat.lt_of_lt_of_le (by have := World.block_lt_of_cell? _ _ hx311_0; first | rwa [add_block] at this | exact this) GW310.out); have hn311_4 : ad309.block ≠ gb310 := Nat.ne_of_lt (Nat.lt_of_lt_of_le (by have := World.block_lt_of_cell? _ _ hx311_0; first | rwa [add_block] at this | exact this) GW310.out); replace hx311_0 := (HB.out.cell (World.block_lt_of_cell? w _ hx311_0)).trans hx311_0; replace hx311_1 := (HB.out.cell (World.block_lt_of_cell? w _ hx311_1)).trans hx311_1; replace hx311_2 := (HB.out.cell (World.block_lt_of_cell? w _ hx311_2)).trans hx311_2; replace hx311_3 := (HB.out.cell (World.block_lt_of_cell? w _ hx311_3)).trans hx311_3; replace hx311_4 := (HB.out.cell (World.block_lt_of_cell? w _ hx311_4)).trans hx311_4; replace hx311_0 := (cell_far (p := ⟨gb310, 0, none⟩) (by first | (rw [add_block]; exact hn311_0) | (show (Addr.add _ _).block ≠ _; rw [add_block]; exact hn311_0) | exact hn311_0) (.int .i64 ((rd_T62 l0 x3_1).f0))).trans hx311_0; replace hx311_1 := (cell_far (p := ⟨gb310, 0, none⟩) (by first | (rw [add_block]; exact hn311_0) | (show (Addr.add _ _).block ≠ _; rw [add_block]; exact hn311_0) | exact hn311_0) (.int .i64 ((rd_T62 l0 x3_1).f0))).trans hx311_1; replace hx311_2 := (cell_far (p := ⟨gb310, 0, none⟩) (by first | (rw [add_block]; exact hn311_0) | (show (Addr.add _ _).block ≠ _; rw [add_block]; exact hn311_0) | exact hn311_0) (.int .i64 ((rd_T62 l0 x3_1).f0))).trans hx311_2; replace hx311_3 := (cell_far (p := ⟨gb310, 0, none⟩) (by first | (rw [add_block]; exact hn311_0) | (show (Addr.add _ _).block ≠ _; rw [add_block]; exact hn311_0) | exact hn311_0) (.int .i64 ((rd_T62 l0 x3_1).f0))).trans hx311_3; replace hx311_4 := (cell_far (p := ⟨gb310, 0, none⟩) (by first | (rw [add_block]; exact hn311_0) | (show (Addr.add _ _).block ≠ _; rw [add_block]; exact hn311_0) | exact hn311_0) (.int .i64 ((rd_T62 l0 x3_1).f0))).trans hx311_4; replace hx311_0 := (cell_far (p := ⟨gb310, 1, none⟩) (by first | (rw [add_block]; exact hn311_1) | (show (Addr.add _ _).block ≠ _; rw [add_block]; exact hn311_1) | exact hn311_1) (.int .i64 ((rd_T62 l0 x3_1).f1))).trans hx311_0; replace hx311_1 := (cell_far (p := ⟨gb310, 1, none⟩) (by first | (rw [add_block]; exact hn311_1) | (show (Addr.add _ _).block ≠ _; rw [add_block]; exact hn311_1) | exact hn311_1) (.int .i64 ((rd_T62 l0 x3_1).f1))).trans hx311_1; replace hx311_2 := (cell_far (p := ⟨gb310, 1, none⟩) (by first | (rw [add_block]; exact hn311_1) | (show (Addr.add _ _).block ≠ _; rw [add_block]; exact hn311_1) | exact hn311_1) (.int .i64 ((rd_T62 l0 x3_1).f1))).trans hx311_2; replace hx311_3 := (cell_far (p := ⟨gb310, 1, none⟩) (by first | (rw [add_block]; exact hn311_1) | (show (Addr.add _ _).block ≠ _; rw [add_block]; exact hn311_1) | exact hn311_1) (.int .i64 ((rd_T62 l0 x3_1).f1))).trans hx311_3; replace hx311_4 := (cell_far (p := ⟨gb310, 1, none⟩) (by first | (rw [add_block]; exact hn311_1) | (show (Addr.add _ _).block ≠ _; rw [add_block]; exact hn311_1) | exact hn311_1) (.int .i64 ((rd_T62 l0 x3_1).f1))).trans hx311_4; replace hx311_0 := (cell_far (p := ⟨gb310, 2, none⟩) (by first | (rw [add_block]; exact hn311_2) | (show (Addr.add _ _).block ≠ _; rw [add_block]; exact hn311_2) | exact hn311_2) (.int .i64 ((rd_T62 l0 x3_1).f2))).trans hx311_0; replace hx311_1 := (cell_far (p := ⟨gb310, 2, none⟩) (by first | (rw [add_block]; exact hn311_2) | (show (Addr.add _ _).block ≠ _; rw [add_block]; exact hn311_2) | exact hn311_2) (.int .i64 ((rd_T62 l0 x3_1).f2))).trans hx311_1; replace hx311_2 := (cell_far (p := ⟨gb310, 2, none⟩) (by first | (rw [add_block]; exact hn311_2) | (show (Addr.add _ _).block ≠ _; rw [add_block]; exact hn311_2) | exact hn311_2) (.int .i64 ((rd_T62 l0 x3_1).f2))).trans hx311_2; replace hx311_3 := (cell_far (p := ⟨gb310, 2, none⟩) (by first | (rw [add_block]; exact hn311_2) | (show (Addr.add _ _).block ≠ _; rw [add_block]; exact hn311_2) | exact hn311_2) (.int .i64 ((rd_T62 l0 x3_1).f2))).trans hx311_3; replace hx311_4 := (cell_far (p := ⟨gb310, 2, none⟩) (by first | (rw [add_block]; exact hn311_2) | (show (Addr.add _ _).block ≠ _; rw [add_block]; exact hn311_2) | exact hn311_2) (.int .i64 ((rd_T62 l0 x3_1).f2))).trans hx311_4; replace hx311_0 := (cell_far (p := ⟨gb310, 3, none⟩) (by first | (rw [add_block]; exact hn311_3) | (show (Addr.add _ _).block ≠ _; rw [add_block]; exact hn311_3) | exact hn311_3) (.int .i64 ((rd_T62 l0 x3_1).f3))).trans hx311_0; replace hx311_1 := (cell_far (p := ⟨gb310, 3, none⟩) (by first | (rw [add_block]; exact hn311_3) | (show (Addr.add _ _).block ≠ _; rw [add_block]; exact hn311_3) | exact hn311_3) (.int .i64 ((rd_T62 l0 x3_1).f3))).trans hx311_1; replace hx311_2 := (cell_far (p := ⟨gb310, 3, none⟩) (by first | (rw [add_block]; exact hn311_3) | (show (Addr.add _ _).block ≠ _; rw [add_block]; exact hn311_3) | exact hn311_3) (.int .i64 ((rd_T62 l0 x3_1).f3))).trans hx311_2; replace hx311_3 := (cell_far (p := ⟨gb310, 3, none⟩) (by first | (rw [add_block]; exact hn311_3) | (show (Addr.add _ _).block ≠ _; rw [add_block]; exact hn311_3) | exact hn311_3) (.int .i64 ((rd_T62 l0 x3_1).f3))).trans hx311_3; replace hx311_4 := (cell_far (p := ⟨gb310, 3, none⟩) (by first | (rw [add_block]; exact hn311_3) | (show (Addr.add _ _).block ≠ _; rw [add_block]; exact hn311_3) | exact hn311_3) (.int .i64 ((rd_T62 l0 x3_1).f3))).trans hx311_4; replace hx311_0 := (cell_far (p := ⟨gb310, 4, none⟩) (by first | (rw [add_block]; exact hn311_4) | (show (Addr.add _ _).block ≠ _; rw [add_block]; exact hn311_4) | exact hn311_4) (.int .i64 ((rd_T62 l0 x3_1).f4))).trans hx311_0; replace hx311_1 := (cell_far (p := ⟨gb310, 4, none⟩) (by first | (rw [add_block]; exact hn311_4) | (show (Addr.add _ _).block ≠ _; rw [add_block]; exact hn311_4) | exact hn311_4) (.int .i64 ((rd_T62 l0 x3_1).f4))).trans hx311_1; replace hx311_2 := (cell_far (p := ⟨gb310, 4, none⟩) (by first | (rw [add_block]; exact hn311_4) | (show (Addr.add _ _).block ≠ _; rw [add_block]; exact hn311_4) | exact hn311_4) (.int .i64 ((rd_T62 l0 x3_1).f4))).trans hx311_2; replace hx311_3 := (cell_far (p := ⟨gb310, 4, none⟩) (by first | (rw [add_block]; exact hn311_4) | (show (Addr.add _ _).block ≠ _; rw [add_block]; exact hn311_4) | exact hn311_4) (.int .i64 ((rd_T62 l0 x3_1).f4))).trans hx311_3; replace hx311_4 := (cell_far (p := ⟨gb310, 4, none⟩) (by first | (rw [add_block]; exact hn311_4) | (show (Addr.add _ _).block ≠ _; rw [add_block]; exact hn311_4) | exact hn311_4) (.int .i64 ((rd_T62 l0 x3_1).f4))).trans hx311_4; clear hn311_0; clear hn311_1; clear hn311_2; clear hn311_3; clear hn311_4; replace p311 := eq_true p311; replace q311 := eq_true q311) | ((with_reducible refine gate_dst (N := 6) rfl ?_); refine box_event ?hg (N := 6) ?hd (cs := #[.int .i64 0, .int .i64 0, .int .i64 0, .int .i64 0, .int .i64 0]) (t := 62) ?hr ?_; (case hd => rfl); (case hg => rfl); (case hr => first | (go_simp; done) | (go_simp; rfl)); intro gb312 hg w16 hbox hb; have n0_ := Aside0.mk (blk_below (g := gb310) (o := .cells #[.int .i64 ((rd_T62 l0 x3_1).f0), .int .i64 ((rd_T62 l0 x3_1).f1), .int .i64 ((rd_T62 l0 x3_1).f2), .int .i64 ((rd_T62 l0 x3_1).f3), .int .i64 ((rd_T62 l0 x3_1).f4)] 62 (0, 0)) (by (with_reducible repeat (first | refine blk_drewN ?_ _ | refine blk_drew ?_ | refine blk_alloc ?_ _)); refine blk_put (cs := #[.int .i64 ((rd_T62 l0 x3_1).f0), .int .i64 ((rd_T62 l0 x3_1).f1), .int .i64 ((rd_T62 l0 x3_1).f2), .int .i64 ((rd_T62 l0 x3_1).f3), .int .i64 0]) ?_ 4 _ rfl; (with_reducible repeat (first | refine blk_drewN ?_ _ | refine blk_drew ?_ | refine blk_alloc ?_ _)); refine blk_put (cs := #[.int .i64 ((rd_T62 l0 x3_1).f0), .int .i64 ((rd_T62 l0 x3_1).f1), .int .i64 ((rd_T62 l0 x3_1).f2), .int .i64 0, .int .i64 0]) ?_ 3 _ rfl; (with_reducible repeat (first | refine blk_drewN ?_ _ | refine blk_drew ?_ | refine blk_alloc ?_ _)); refine blk_put (cs := #[.int .i64 ((rd_T62 l0 x3_1).f0), .int .i64 ((rd_T62 l0 x3_1).f1), .int .i64 0, .int .i64 0, .int .i64 0]) ?_ 2 _ rfl; (with_reducible repeat (first | refine blk_drewN ?_ _ | refine blk_drew ?_ | refine blk_alloc ?_ _)); refine blk_put (cs := #[.int .i64 ((rd_T62 l0 x3_1).f0), .int .i64 0, .int .i64 0, .int .i64 0, .int .i64 0]) ?_ 1 _ rfl; (with_reducible repeat (first | refine blk_drewN ?_ _ | refine blk_drew ?_ | refine blk_alloc ?_ _)); refine blk_put (cs := #[.int .i64 0, .int .i64 0, .int .i64 0, .int .i64 0, .int .i64 0]) ?_ 0 _ rfl; (with_reducible repeat (first | refine blk_drewN ?_ _ | refine blk_drew ?_ | refine blk_alloc ?_ _)); exact BK310.out) hb); have n1_ := Aside0.mk (below_step (by repeat (first | (with_reducible first | exact HB.out | apply below_alloc | apply pw_below_drewN | apply below_drew1 | refine below_set ?_ GE310.out) | exact HB.out)) hb); have n2_ := Aside0.mk (hbox); have n3_ := Aside0.mk ((by rw [hg]; exact (below_size (by repeat (first | (with_reducible first | exact HB.out | apply below_alloc | apply pw_below_drewN | apply below_drew1 | refine below_set ?_ GE310.out) | exact HB.out))) : w.heap.size ≤ gb312)); have n4_ := Aside0.mk ((by rw [hg]; exact (below_size (by repeat (first | (with_reducible first | exact HB.out | apply below_alloc | apply pw_below_drewN | apply below_drew1 | refine below_set ?_ GE310.out) | exact HB.out))) : w.heap.size ≤ gb312)); have n5_ := Aside0.mk ((by rw [hg]; exact Nat.ne_of_lt (blk_lt (g := gb310) (o := .cells #[.int .i64 ((rd_T62 l0 x3_1).f0), .int .i64 ((rd_T62 l0 x3_1).f1), .int .i64 ((rd_T62 l0 x3_1).f2), .int .i64 ((rd_T62 l0 x3_1).f3), .int .i64 ((rd_T62 l0 x3_1).f4)] 62 (0, 0)) (by (with_reducible repeat (first | refine blk_drewN ?_ _ | refine blk_drew ?_ | refine blk_alloc ?_ _)); refine blk_put (cs := #[.int .i64 ((rd_T62 l0 x3_1).f0), .int .i64 ((rd_T62 l0 x3_1).f1), .int .i64 ((rd_T62 l0 x3_1).f2), .int .i64 ((rd_T62 l0 x3_1).f3), .int .i64 0]) ?_ 4 _ rfl; (with_reducible repeat (first | refine blk_drewN ?_ _ | refine blk_drew ?_ | refine blk_alloc ?_ _)); refine blk_put (cs := #[.int .i64 ((rd_T62 l0 x3_1).f0), .int .i64 ((rd_T62 l0 x3_1).f1), .int .i64 ((rd_T62 l0 x3_1).f2), .int .i64 0, .int .i64 0]) ?_ 3 _ rfl; (with_reducible repeat (first | refine blk_drewN ?_ _ | refine blk_drew ?_ | refine blk_alloc ?_ _)); refine blk_put (cs := #[.int .i64 ((rd_T62 l0 x3_1).f0), .int .i64 ((rd_T62 l0 x3_1).f1), .int .i64 0, .int .i64 0, .int .i64 0]) ?_ 2 _ rfl; (with_reducible repeat (first | refine blk_drewN ?_ _ | refine blk_drew ?_ | refine blk_alloc ?_ _)); refine blk_put (cs := #[.int .i64 ((rd_T62 l0 x3_1).f0), .int .i64 0, .int .i64 0, .int .i64 0, .int .i64 0]) ?_ 1 _ rfl; (with_reducible repeat (first | refine blk_drewN ?_ _ | refine blk_drew ?_ | refine blk_alloc ?_ _)); refine blk_put (cs := #[.int .i64 0, .int .i64 0, .int .i64 0, .int .i64 0, .int .i64 0]) ?_ 0 _ rfl; (with_reducible repeat (first | refine blk_drewN ?_ _ | refine blk_drew ?_ | refine blk_alloc ?_ _)); exact BK310.out)) : gb310 ≠ gb312)); have n6_ := Aside0.mk ((by rw [hg]; exact Nat.ne_of_gt (blk_lt (g := gb310) (o := .cells #[.int .i64 ((rd_T62 l0 x3_1).f0), .int .i64 ((rd_T62 l0 x3_1).f1), .int .i64 ((rd_T62 l0 x3_1).f2), .int .i64 ((rd_T62 l0 x3_1).f3), .int .i64 ((rd_T62 l0 x3_1).f4)] 62 (0, 0)) (by (with_reducible repeat (first | refine blk_drewN ?_ _ | refine blk_drew ?_ | refine blk_alloc ?_ _)); refine blk_put (cs := #[.int .i64 ((rd_T62 l0 x3_1).f0), .int .i64 ((rd_T62 l0 x3_1).f1), .int .i64 ((rd_T62 l0 x3_1).f2), .int .i64 ((rd_T62 l0 x3_1).f3), .int .i64 0]) ?_ 4 _ rfl; (with_reducible repeat (first | refine blk_drewN ?_ _ | refine blk_drew ?_ | refine blk_alloc ?_ _)); refine blk_put (cs := #[.int .i64 ((rd_T62 l0 x3_1).f0), .int .i64 ((rd_T62 l0 x3_1).f1), .int .i64 ((rd_T62 l0 x3_1).f2), .int .i64 0, .int .i64 0]) ?_ 3 _ rfl; (with_reducible repeat (first | refine blk_drewN ?_ _ | refine blk_drew ?_ | refine blk_alloc ?_ _)); refine blk_put (cs := #[.int .i64 ((rd_T62 l0 x3_1).f0), .int .i64 ((rd_T62 l0 x3_1).f1), .int .i64 0, .int .i64 0, .int .i64 0]) ?_ 2 _ rfl; (with_reducible repeat (first | refine blk_drewN ?_ _ | refine blk_drew ?_ | refine blk_alloc ?_ _)); refine blk_put (cs := #[.int .i64 ((rd_T62 l0 x3_1).f0), .int .i64 0, .int .i64 0, .int .i64 0, .int .i64 0]) ?_ 1 _ rfl; (with_reducible repeat (first | refine blk_drewN ?_ _ | refine blk_drew ?_ | refine blk_alloc ?_ _)); refine blk_put (cs := #[.int .i64 0, .int .i64 0, .int .i64 0, .int .i64 0, .int .i64 0]) ?_ 0 _ rfl; (with_reducible repeat (first | refine blk_drewN ?_ _ | refine blk_drew ?_ | refine blk_alloc ?_ _)); exact BK310.out)) : gb312 ≠ gb310)); clear BK310; clear HB; have BK310 := n0_; have HB := n1_; have BK312 := n2_; have GW312 := n3_; have GE312 := n4_; have NB310_312 := n5_; have NB312_310 := n6_; clear n0_ n1_ n2_ n3_ n4_ n5_ n6_; clear hb hbox hg; have hnb17 := NB312_310.out; have hnc17 := NB310_312.out; have hcz18_0 : w16.cell? ⟨gb312, 0, none⟩ = some (.int .i64 0) := (blk_cell BK312.out 0).trans rfl; have hcz18_1 : w16.cell? ⟨gb312, 1, none⟩ = some (.int .i64 0) := (blk_cell BK312.out 1).trans rfl; have hcz18_2 : w16.cell? ⟨gb312, 2, none⟩ = some (.int .i64 0) := (blk_cell BK312.out 2).trans rfl; have hcz18_3 : w16.cell? ⟨gb312, 3, none⟩ = some (.int .i64 0) := (blk_cell BK312.out 3).trans rfl; have hcz18_4 : w16.cell? ⟨gb312, 4, none⟩ = some (.int .i64 0) := (blk_cell BK312.out 4).trans rfl; have hfz18_0 := blk_frozen BK312.out 0; have hfz18_1 := blk_frozen BK312.out 1; have hfz18_2 := blk_frozen BK312.out 2; have hfz18_3 := blk_frozen BK312.out 3; have hfz18_4 := blk_frozen BK312.out 4; have hcz19_0 : w16.cell? ⟨gb310, 0, none⟩ = some (.int .i64 ((rd_T62 l0 x3_1).f0)) := (blk_cell BK310.out 0).trans rfl; have hcz19_1 : w16.cell? ⟨gb310, 1, none⟩ = some (.int .i64 ((rd_T62 l0 x3_1).f1)) := (blk_cell BK310.out 1).trans rfl; have hcz19_2 : w16.cell? ⟨gb310, 2, none⟩ = some (.int .i64 ((rd_T62 l0 x3_1).f2)) := (blk_cell BK310.out 2).trans rfl; have hcz19_3 : w16.cell? ⟨gb310, 3, none⟩ = some (.int .i64 ((rd_T62 l0 x3_1).f3)) := (blk_cell BK310.out 3).trans rfl; have hcz19_4 : w16.cell? ⟨gb310, 4, none⟩ = some (.int .i64 ((rd_T62 l0 x3_1).f4)) := (blk_cell BK310.out 4).trans rfl; have hfz19_0 := blk_frozen BK310.out 0; have hfz19_1 := blk_frozen BK310.out 1; have hfz19_2 := blk_frozen BK310.out 2; have hfz19_3 := blk_frozen BK310.out 3; have hfz19_4 := blk_frozen BK310.out 4) | ((with_reducible refine gate_callee (f := 65) rfl ?_); refine goesL_ (some 34) rfl rfl Try.func65 (by kernel_rfl) rfl #[.agg #[.int .i64 ((rd_T62 l0 x4_2).f0), .int .i64 ((rd_T62 l0 x4_2).f1), .int .i64 ((rd_T62 l0 x4_2).f2), .int .i64 ((rd_T62 l0 x4_2).f3), .int .i64 ((rd_T62 l0 x4_2).f4)], .int .i64 ((rd_T62 l0 x3_1).f2)] rfl (by (try simp only [List.map_toArray, List.map_cons, List.map_nil]); first | done | rfl | (simp only [List.length_drop, List.length_take]; rfl)) ?_; (with_reducible refine (spec_l32Sits.calls ((rd_T62 l0 x4_2).f0) ((rd_T62 l0 x4_2).f1) ((rd_T62 l0 x4_2).f2) ((rd_T62 l0 x4_2).f3) ((rd_T62 l0 x4_2).f4) ((rd_T62 l0 x3_1).f2) t313 _ A11.out).mono ?_); rintro e w20 ⟨rfl, hb⟩; refine ⟨_, rfl, ?_⟩; have n0_ := Aside0.mk (blk_below (g := gb310) (o := .cells #[.int .i64 ((rd_T62 l0 x3_1).f0), .int .i64 ((rd_T62 l0 x3_1).f1), .int .i64 ((rd_T62 l0 x3_1).f2), .int .i64 ((rd_T62 l0 x3_1).f3), .int .i64 ((rd_T62 l0 x3_1).f4)] 62 (0, 0)) (by (with_reducible repeat (first | refine blk_drewN ?_ _ | refine blk_drew ?_ | refine blk_alloc ?_ _)); refine blk_far ?_ NB310_312.out _; (with_reducible repeat (first | refine blk_drewN ?_ _ | refine blk_drew ?_ | refine blk_alloc ?_ _)); refine blk_far ?_ NB310_312.out _; (with_reducible repeat (first | refine blk_drewN ?_ _ | refine blk_drew ?_ | refine blk_alloc ?_ _)); refine blk_far ?_ NB310_312.out _; (with_reducible repeat (first | refine blk_drewN ?_ _ | refine blk_drew ?_ | refine blk_alloc ?_ _)); refine blk_far ?_ NB310_312.out _; (with_reducible repeat (first | refine blk_drewN ?_ _ | refine blk_drew ?_ | refine blk_alloc ?_ _)); refine blk_far ?_ NB310_312.out _; (with_reducible repeat (first | refine blk_drewN ?_ _ | refine blk_drew ?_ | refine blk_alloc ?_ _)); exact BK310.out) hb); have n1_ := Aside0.mk (blk_below (g := gb312) (o := .cells #[.int .i64 ((rd_T62 l0 x4_2).f0), .int .i64 ((rd_T62 l0 x4_2).f1), .int .i64 ((rd_T62 l0 x4_2).f2), .int .i64 ((rd_T62 l0 x4_2).f3), .int .i64 ((rd_T62 l0 x4_2).f4)] 62 (0, 0)) (by (with_reducible repeat (first | refine blk_drewN ?_ _ | refine blk_drew ?_ | refine blk_alloc ?_ _)); refine blk_put (cs := #[.int .i64 ((rd_T62 l0 x4_2).f0), .int .i64 ((rd_T62 l0 x4_2).f1), .int .i64 ((rd_T62 l0 x4_2).f2), .int .i64 ((rd_T62 l0 x4_2).f3), .int .i64 0]) ?_ 4 _ rfl; (with_reducible repeat (first | refine blk_drewN ?_ _ | refine blk_drew ?_ | refine blk_alloc ?_ _)); refine blk_put (cs := #[.int .i64 ((rd_T62 l0 x4_2).f0), .int .i64 ((rd_T62 l0 x4_2).f1), .int .i64 ((rd_T62 l0 x4_2).f2), .int .i64 0, .int .i64 0]) ?_ 3 _ rfl; (with_reducible repeat (first | refine blk_drewN ?_ _ | refine blk_drew ?_ | refine blk_alloc ?_ _)); refine blk_put (cs := #[.int .i64 ((rd_T62 l0 x4_2).f0), .int .i64 ((rd_T62 l0 x4_2).f1), .int .i64 0, .int .i64 0, .int .i64 0]) ?_ 2 _ rfl; (with_reducible repeat (first | refine blk_drewN ?_ _ | refine blk_drew ?_ | refine blk_alloc ?_ _)); refine blk_put (cs := #[.int .i64 ((rd_T62 l0 x4_2).f0), .int .i64 0, .int .i64 0, .int .i64 0, .int .i64 0]) ?_ 1 _ rfl; (with_reducible repeat (first | refine blk_drewN ?_ _ | refine blk_drew ?_ | refine blk_alloc ?_ _)); refine blk_put (cs := #[.int .i64 0, .int .i64 0, .int .i64 0, .int .i64 0, .int .i64 0]) ?_ 0 _ rfl; (with_reducible repeat (first | refine blk_drewN ?_ _ | refine blk_drew ?_ | refine blk_alloc ?_ _)); exact BK312.out) hb); have n2_ := Aside0.mk (below_step (by repeat (first | (with_reducible first | exact HB.out | apply below_alloc | apply pw_below_drewN | apply below_drew1 | refine below_set ?_ GE310.out | refine below_set ?_ GE312.out) | exact HB.out)) hb); clear BK310; clear BK312; clear HB; have BK310 := n0_; have BK312 := n1_; have HB := n2_; clear n0_ n1_ n2_; (try clear hb); (try clear hb2); (try clear hk); (try clear hi); have hcz21_0 : w20.cell? ⟨gb312, 0, none⟩ = some (.int .i64 ((rd_T62 l0 x4_2).f0)) := (blk_cell BK312.out 0).trans rfl; have hcz21_1 : w20.cell? ⟨gb312, 1, none⟩ = some (.int .i64 ((rd_T62 l0 x4_2).f1)) := (blk_cell BK312.out 1).trans rfl; have hcz21_2 : w20.cell? ⟨gb312, 2, none⟩ = some (.int .i64 ((rd_T62 l0 x4_2).f2)) := (blk_cell BK312.out 2).trans rfl; have hcz21_3 : w20.cell? ⟨gb312, 3, none⟩ = some (.int .i64 ((rd_T62 l0 x4_2).f3)) := (blk_cell BK312.out 3).trans rfl; have hcz21_4 : w20.cell? ⟨gb312, 4, none⟩ = some (.int .i64 ((rd_T62 l0 x4_2).f4)) := (blk_cell BK312.out 4).trans rfl; have hfz21_0 := blk_frozen BK312.out 0; have hfz21_1 := blk_frozen BK312.out 1; have hfz21_2 := blk_frozen BK312.out 2; have hfz21_3 := blk_frozen BK312.out 3; have hfz21_4 := blk_frozen BK312.out 4; have hcz22_0 : w20.cell? ⟨gb310, 0, none⟩ = some (.int .i64 ((rd_T62 l0 x3_1).f0)) := (blk_cell BK310.out 0).trans rfl; have hcz22_1 : w20.cell? ⟨gb310, 1, none⟩ = some (.int .i64 ((rd_T62 l0 x3_1).f1)) := (blk_cell BK310.out 1).trans rfl; have hcz22_2 : w20.cell? ⟨gb310, 2, none⟩ = some (.int .i64 ((rd_T62 l0 x3_1).f2)) := (blk_cell BK310.out 2).trans rfl; have hcz22_3 : w20.cell? ⟨gb310, 3, none⟩ = some (.int .i64 ((rd_T62 l0 x3_1).f3)) := (blk_cell BK310.out 3).trans rfl; have hcz22_4 : w20.cell? ⟨gb310, 4, none⟩ = some (.int .i64 ((rd_T62 l0 x3_1).f4)) := (blk_cell BK310.out 4).trans rfl; have hfz22_0 := blk_frozen BK310.out 0; have hfz22_1 := blk_frozen BK310.out 1; have hfz22_2 := blk_frozen BK310.out 2; have hfz22_3 := blk_frozen BK310.out 3; have hfz22_4 := blk_frozen BK310.out 4) | ((with_reducible refine gate_callee (f := 65) rfl ?_); refine goesL_ (some 38) rfl rfl Try.func65 (by kernel_rfl) rfl #[.agg #[.int .i64 ((rd_T62 l0 x4_2).f0), .int .i64 ((rd_T62 l0 x4_2).f1), .int .i64 ((rd_T62 l0 x4_2).f2), .int .i64 ((rd_T62 l0 x4_2).f3), .int .i64 ((rd_T62 l0 x4_2).f4)], .int .i64 ((rd_T62 l0 x3_1).f3)] rfl (by (try simp only [List.map_toArray, List.map_cons, List.map_nil]); first | done | rfl | (simp only [List.length_drop, List.length_take]; rfl)) ?_; (with_reducible refine (spec_l32Sits.calls ((rd_T62 l0 x4_2).f0) ((rd_T62 l0 x4_2).f1) ((rd_T62 l0 x4_2).f2) ((rd_T62 l0 x4_2).f3) ((rd_T62 l0 x4_2).f4) ((rd_T62 l0 x3_1).f3) t314 _ A12.out).mono ?_); rintro e w23 ⟨rfl, hb⟩; refine ⟨_, rfl, ?_⟩; have n0_ := Aside0.mk (blk_below (g := gb310) (o := .cells #[.int .i64 ((rd_T62 l0 x3_1).f0), .int .i64 ((rd_T62 l0 x3_1).f1), .int .i64 ((rd_T62 l0 x3_1).f2), .int .i64 ((rd_T62 l0 x3_1).f3), .int .i64 ((rd_T62 l0 x3_1).f4)] 62 (0, 0)) (by (with_reducible repeat (first | refine blk_drewN ?_ _ | refine blk_drew ?_ | refine blk_alloc ?_ _)); exact BK310.out) hb); have n1_ := Aside0.mk (blk_below (g := gb312) (o := .cells #[.int .i64 ((rd_T62 l0 x4_2).f0), .int .i64 ((rd_T62 l0 x4_2).f1), .int .i64 ((rd_T62 l0 x4_2).f2), .int .i64 ((rd_T62 l0 x4_2).f3), .int .i64 ((rd_T62 l0 x4_2).f4)] 62 (0, 0)) (by (with_reducible repeat (first | refine blk_drewN ?_ _ | refine blk_drew ?_ | refine blk_alloc ?_ _)); exact BK312.out) hb); have n2_ := Aside0.mk (below_step (by repeat (first | (with_reducible first | exact HB.out | apply below_alloc | apply pw_below_drewN | apply below_drew1 | refine below_set ?_ GE310.out | refine below_set ?_ GE312.out) | exact HB.out)) hb); clear BK310; clear BK312; clear HB; have BK310 := n0_; have BK312 := n1_; have HB := n2_; clear n0_ n1_ n2_; (try clear hb); (try clear hb2); (try clear hk); (try clear hi)))
            (try simp only [Act.put, List.setIfInBounds_toArray, List.set_cons_zero, List.set_cons_succ])
            go_cut [55] (fun v55 wc => ∃ (kq : Nat) (x55_12 : Bool), v55 = .bool x55_12 ∧ Aside0 (spec_IsFair.j2 kq l0 x3_1 x4_2 x55_12 = some r) ∧ Aside0 (kq ≤ k2) ∧ Aside0 (wc.heap[gb310]? = some (.cells #[.int .i64 ((rd_T62 l0 x3_1).f0), .int .i64 ((rd_T62 l0 x3_1).f1), .int .i64 ((rd_T62 l0 x3_1).f2), .int .i64 ((rd_T62 l0 x3_1).f3), .int .i64 ((rd_T62 l0 x3_1).f4)] 62 (0, 0))) ∧ Aside0 (wc.heap[gb312]? = some (.cells #[.int .i64 ((rd_T62 l0 x4_2).f0), .int .i64 ((rd_T62 l0 x4_2).f1), .int .i64 ((rd_T62 l0 x4_2).f2), .int .i64 ((rd_T62 l0 x4_2).f3), .int .i64 ((rd_T62 l0 x4_2).f4)] 62 (0, 0))) ∧ Aside0 (Below w.heap.size w wc))
            case first =>
             have H := HC13.out
             clear HC13
             by_cases c24 : t313 = true
             ·subst c24
              have H1 : (if t314 = true then (spec_IsFair.j2 k2 l0 x3_1 x4_2 true) else (if ((rd_T62 l0 x3_1).f4) = ((rd_T62 l0 x4_2).f4) then (spec_IsFair.j2 k2 l0 x3_1 x4_2 true) else (spec_IsFair.j2 k2 l0 x3_1 x4_2 false))) = some r := by rw [if_pos rfl] at H; exact H
              clear H
              have H := H1
              clear H1
              by_cases c25 : t314 = true
              ·subst c25
               have H1 : (spec_IsFair.j2 k2 l0 x3_1 x4_2 true) = some r := by rw [if_pos rfl] at H; exact H
               clear H
               have H := H1
               clear H1
               have H' := Aside0.mk H
               clear H
               go_wp2
               go_meet
               case rel => exact ⟨_, (true), (by first | rfl | (simp; done) | (simp [*]; done)), H', ⟨by have := HK1.out; have := HK2.out; first | omega | exact Nat.le_refl _⟩, ⟨by (with_reducible repeat (first | refine blk_drewN ?_ _ | refine blk_drew ?_ | refine blk_alloc ?_ _)); exact BK310.out⟩, ⟨by (with_reducible repeat (first | refine blk_drewN ?_ _ | refine blk_drew ?_ | refine blk_alloc ?_ _)); exact BK312.out⟩, ⟨by repeat (first | (with_reducible first | exact HB.out | apply below_alloc | apply pw_below_drewN | apply below_drew1 | refine below_set ?_ GE310.out | refine below_set ?_ GE312.out) | exact HB.out)⟩⟩
              ·replace c25 := Bool.eq_false_iff.mpr c25
               subst c25
               have H1 : (if ((rd_T62 l0 x3_1).f4) = ((rd_T62 l0 x4_2).f4) then (spec_IsFair.j2 k2 l0 x3_1 x4_2 true) else (spec_IsFair.j2 k2 l0 x3_1 x4_2 false)) = some r := by rw [if_neg (show ¬ (false = true) by decide)] at H; exact H
               clear H
               have H := H1
               clear H1
               by_cases c26 : ((rd_T62 l0 x3_1).f4) = ((rd_T62 l0 x4_2).f4)
               ·rw [if_pos c26] at H
                have c26b0 : (((rd_T62 l0 x3_1).f4) == ((rd_T62 l0 x4_2).f4)) = true := beq_iff_eq.mpr c26
                have c26b1 : (((rd_T62 l0 x3_1).f4) != ((rd_T62 l0 x4_2).f4)) = false := bne_eq_false_iff_eq.mpr c26
                clear c26
                (first | rw [c26b0] | (simp only [i64_w, i32_w]; rw [c26b0]) | skip)
                have H' := Aside0.mk H
                clear H
                have hnb27 := NB310_312.out
                have hnc27 := NB312_310.out
                have hcz28_0 : w23.cell? ⟨gb310, 0, none⟩ = some (.int .i64 ((rd_T62 l0 x3_1).f0)) := (blk_cell BK310.out 0).trans rfl
                have hcz28_1 : w23.cell? ⟨gb310, 1, none⟩ = some (.int .i64 ((rd_T62 l0 x3_1).f1)) := (blk_cell BK310.out 1).trans rfl
                have hcz28_2 : w23.cell? ⟨gb310, 2, none⟩ = some (.int .i64 ((rd_T62 l0 x3_1).f2)) := (blk_cell BK310.out 2).trans rfl
                have hcz28_3 : w23.cell? ⟨gb310, 3, none⟩ = some (.int .i64 ((rd_T62 l0 x3_1).f3)) := (blk_cell BK310.out 3).trans rfl
                have hcz28_4 : w23.cell? ⟨gb310, 4, none⟩ = some (.int .i64 ((rd_T62 l0 x3_1).f4)) := (blk_cell BK310.out 4).trans rfl
                have hfz28_0 := blk_frozen BK310.out 0
                have hfz28_1 := blk_frozen BK310.out 1
                have hfz28_2 := blk_frozen BK310.out 2
                have hfz28_3 := blk_frozen BK310.out 3
                have hfz28_4 := blk_frozen BK310.out 4
                have hcz29_0 : w23.cell? ⟨gb312, 0, none⟩ = some (.int .i64 ((rd_T62 l0 x4_2).f0)) := (blk_cell BK312.out 0).trans rfl
                have hcz29_1 : w23.cell? ⟨gb312, 1, none⟩ = some (.int .i64 ((rd_T62 l0 x4_2).f1)) := (blk_cell BK312.out 1).trans rfl
                have hcz29_2 : w23.cell? ⟨gb312, 2, none⟩ = some (.int .i64 ((rd_T62 l0 x4_2).f2)) := (blk_cell BK312.out 2).trans rfl
                have hcz29_3 : w23.cell? ⟨gb312, 3, none⟩ = some (.int .i64 ((rd_T62 l0 x4_2).f3)) := (blk_cell BK312.out 3).trans rfl
                have hcz29_4 : w23.cell? ⟨gb312, 4, none⟩ = some (.int .i64 ((rd_T62 l0 x4_2).f4)) := (blk_cell BK312.out 4).trans rfl
                have hfz29_0 := blk_frozen BK312.out 0
                have hfz29_1 := blk_frozen BK312.out 1
                have hfz29_2 := blk_frozen BK312.out 2
                have hfz29_3 := blk_frozen BK312.out 3
                have hfz29_4 := blk_frozen BK312.out 4
                go_wp2
                go_meet
                case rel => exact ⟨_, (true), (by first | rfl | (simp; done) | (simp [*]; done)), H', ⟨by have := HK1.out; have := HK2.out; first | omega | exact Nat.le_refl _⟩, ⟨by (with_reducible repeat (first | refine blk_drewN ?_ _ | refine blk_drew ?_ | refine blk_alloc ?_ _)); exact BK310.out⟩, ⟨by (with_reducible repeat (first | refine blk_drewN ?_ _ | refine blk_drew ?_ | refine blk_alloc ?_ _)); exact BK312.out⟩, ⟨by repeat (first | (with_reducible first | exact HB.out | apply below_alloc | apply pw_below_drewN | apply below_drew1 | refine below_set ?_ GE310.out | refine below_set ?_ GE312.out) | exact HB.out)⟩⟩
               ·rw [if_neg c26] at H
                have c26b0 : (((rd_T62 l0 x3_1).f4) == ((rd_T62 l0 x4_2).f4)) = false := beq_eq_false_iff_ne.mpr c26
                have c26b1 : (((rd_T62 l0 x3_1).f4) != ((rd_T62 l0 x4_2).f4)) = true := bne_iff_ne.mpr c26
                (first | rw [c26b0] | (simp only [i64_w, i32_w]; rw [c26b0]) | skip)
                have H' := Aside0.mk H
                clear H
                have hnb30 := NB310_312.out
                have hnc30 := NB312_310.out
                have hcz31_0 : w23.cell? ⟨gb310, 0, none⟩ = some (.int .i64 ((rd_T62 l0 x3_1).f0)) := (blk_cell BK310.out 0).trans rfl
                have hcz31_1 : w23.cell? ⟨gb310, 1, none⟩ = some (.int .i64 ((rd_T62 l0 x3_1).f1)) := (blk_cell BK310.out 1).trans rfl
                have hcz31_2 : w23.cell? ⟨gb310, 2, none⟩ = some (.int .i64 ((rd_T62 l0 x3_1).f2)) := (blk_cell BK310.out 2).trans rfl
                have hcz31_3 : w23.cell? ⟨gb310, 3, none⟩ = some (.int .i64 ((rd_T62 l0 x3_1).f3)) := (blk_cell BK310.out 3).trans rfl
                have hcz31_4 : w23.cell? ⟨gb310, 4, none⟩ = some (.int .i64 ((rd_T62 l0 x3_1).f4)) := (blk_cell BK310.out 4).trans rfl
                have hfz31_0 := blk_frozen BK310.out 0
                have hfz31_1 := blk_frozen BK310.out 1
                have hfz31_2 := blk_frozen BK310.out 2
                have hfz31_3 := blk_frozen BK310.out 3
                have hfz31_4 := blk_frozen BK310.out 4
                have hcz32_0 : w23.cell? ⟨gb312, 0, none⟩ = some (.int .i64 ((rd_T62 l0 x4_2).f0)) := (blk_cell BK312.out 0).trans rfl
                have hcz32_1 : w23.cell? ⟨gb312, 1, none⟩ = some (.int .i64 ((rd_T62 l0 x4_2).f1)) := (blk_cell BK312.out 1).trans rfl
                have hcz32_2 : w23.cell? ⟨gb312, 2, none⟩ = some (.int .i64 ((rd_T62 l0 x4_2).f2)) := (blk_cell BK312.out 2).trans rfl
                have hcz32_3 : w23.cell? ⟨gb312, 3, none⟩ = some (.int .i64 ((rd_T62 l0 x4_2).f3)) := (blk_cell BK312.out 3).trans rfl
                have hcz32_4 : w23.cell? ⟨gb312, 4, none⟩ = some (.int .i64 ((rd_T62 l0 x4_2).f4)) := (blk_cell BK312.out 4).trans rfl
                have hfz32_0 := blk_frozen BK312.out 0
                have hfz32_1 := blk_frozen BK312.out 1
                have hfz32_2 := blk_frozen BK312.out 2
                have hfz32_3 := blk_frozen BK312.out 3
                have hfz32_4 := blk_frozen BK312.out 4
                go_wp2
                go_meet
                case rel => exact ⟨_, (false), (by first | rfl | (simp; done) | (simp [*]; done)), H', ⟨by have := HK1.out; have := HK2.out; first | omega | exact Nat.le_refl _⟩, ⟨by (with_reducible repeat (first | refine blk_drewN ?_ _ | refine blk_drew ?_ | refine blk_alloc ?_ _)); exact BK310.out⟩, ⟨by (with_reducible repeat (first | refine blk_drewN ?_ _ | refine blk_drew ?_ | refine blk_alloc ?_ _)); exact BK312.out⟩, ⟨by repeat (first | (with_reducible first | exact HB.out | apply below_alloc | apply pw_below_drewN | apply below_drew1 | refine below_set ?_ GE310.out | refine below_set ?_ GE312.out) | exact HB.out)⟩⟩
             ·replace c24 := Bool.eq_false_iff.mpr c24
              subst c24
              have H1 : (if ((rd_T62 l0 x3_1).f4) = ((rd_T62 l0 x4_2).f4) then (spec_IsFair.j2 k2 l0 x3_1 x4_2 t314) else (spec_IsFair.j2 k2 l0 x3_1 x4_2 false)) = some r := by rw [if_neg (show ¬ (false = true) by decide)] at H; exact H
              clear H
              have H := H1
              clear H1
              by_cases c33 : ((rd_T62 l0 x3_1).f4) = ((rd_T62 l0 x4_2).f4)
              ·rw [if_pos c33] at H
               have c33b0 : (((rd_T62 l0 x3_1).f4) == ((rd_T62 l0 x4_2).f4)) = true := beq_iff_eq.mpr c33
               have c33b1 : (((rd_T62 l0 x3_1).f4) != ((rd_T62 l0 x4_2).f4)) = false := bne_eq_false_iff_eq.mpr c33
               clear c33
               have H' := Aside0.mk H
               clear H
               have hnb34 := NB310_312.out
               have hnc34 := NB312_310.out
               have hcz35_0 : w23.cell? ⟨gb310, 0, none⟩ = some (.int .i64 ((rd_T62 l0 x3_1).f0)) := (blk_cell BK310.out 0).trans rfl
               have hcz35_1 : w23.cell? ⟨gb310, 1, none⟩ = some (.int .i64 ((rd_T62 l0 x3_1).f1)) := (blk_cell BK310.out 1).trans rfl
               have hcz35_2 : w23.cell? ⟨gb310, 2, none⟩ = some (.int .i64 ((rd_T62 l0 x3_1).f2)) := (blk_cell BK310.out 2).trans rfl
               have hcz35_3 : w23.cell? ⟨gb310, 3, none⟩ = some (.int .i64 ((rd_T62 l0 x3_1).f3)) := (blk_cell BK310.out 3).trans rfl
               have hcz35_4 : w23.cell? ⟨gb310, 4, none⟩ = some (.int .i64 ((rd_T62 l0 x3_1).f4)) := (blk_cell BK310.out 4).trans rfl
               have hfz35_0 := blk_frozen BK310.out 0
               have hfz35_1 := blk_frozen BK310.out 1
               have hfz35_2 := blk_frozen BK310.out 2
               have hfz35_3 := blk_frozen BK310.out 3
               have hfz35_4 := blk_frozen BK310.out 4
               have hcz36_0 : w23.cell? ⟨gb312, 0, none⟩ = some (.int .i64 ((rd_T62 l0 x4_2).f0)) := (blk_cell BK312.out 0).trans rfl
               have hcz36_1 : w23.cell? ⟨gb312, 1, none⟩ = some (.int .i64 ((rd_T62 l0 x4_2).f1)) := (blk_cell BK312.out 1).trans rfl
               have hcz36_2 : w23.cell? ⟨gb312, 2, none⟩ = some (.int .i64 ((rd_T62 l0 x4_2).f2)) := (blk_cell BK312.out 2).trans rfl
               have hcz36_3 : w23.cell? ⟨gb312, 3, none⟩ = some (.int .i64 ((rd_T62 l0 x4_2).f3)) := (blk_cell BK312.out 3).trans rfl
               have hcz36_4 : w23.cell? ⟨gb312, 4, none⟩ = some (.int .i64 ((rd_T62 l0 x4_2).f4)) := (blk_cell BK312.out 4).trans rfl
               have hfz36_0 := blk_frozen BK312.out 0
               have hfz36_1 := blk_frozen BK312.out 1
               have hfz36_2 := blk_frozen BK312.out 2
               have hfz36_3 := blk_frozen BK312.out 3
               have hfz36_4 := blk_frozen BK312.out 4
               go_wp2
               go_meet
               case rel => exact ⟨_, (t314), (by first | rfl | (simp; done) | (simp [*]; done)), H', ⟨by have := HK1.out; have := HK2.out; first | omega | exact Nat.le_refl _⟩, ⟨by (with_reducible repeat (first | refine blk_drewN ?_ _ | refine blk_drew ?_ | refine blk_alloc ?_ _)); exact BK310.out⟩, ⟨by (with_reducible repeat (first | refine blk_drewN ?_ _ | refine blk_drew ?_ | refine blk_alloc ?_ _)); exact BK312.out⟩, ⟨by repeat (first | (with_reducible first | exact HB.out | apply below_alloc | apply pw_below_drewN | apply below_drew1 | refine below_set ?_ GE310.out | refine below_set ?_ GE312.out) | exact HB.out)⟩⟩
              ·rw [if_neg c33] at H
               have c33b0 : (((rd_T62 l0 x3_1).f4) == ((rd_T62 l0 x4_2).f4)) = false := beq_eq_false_iff_ne.mpr c33
               have c33b1 : (((rd_T62 l0 x3_1).f4) != ((rd_T62 l0 x4_2).f4)) = true := bne_iff_ne.mpr c33
               have H' := Aside0.mk H
               clear H
               have hnb37 := NB310_312.out
               have hnc37 := NB312_310.out
               have hcz38_0 : w23.cell? ⟨gb310, 0, none⟩ = some (.int .i64 ((rd_T62 l0 x3_1).f0)) := (blk_cell BK310.out 0).trans rfl
               have hcz38_1 : w23.cell? ⟨gb310, 1, none⟩ = some (.int .i64 ((rd_T62 l0 x3_1).f1)) := (blk_cell BK310.out 1).trans rfl
               have hcz38_2 : w23.cell? ⟨gb310, 2, none⟩ = some (.int .i64 ((rd_T62 l0 x3_1).f2)) := (blk_cell BK310.out 2).trans rfl
               have hcz38_3 : w23.cell? ⟨gb310, 3, none⟩ = some (.int .i64 ((rd_T62 l0 x3_1).f3)) := (blk_cell BK310.out 3).trans rfl
               have hcz38_4 : w23.cell? ⟨gb310, 4, none⟩ = some (.int .i64 ((rd_T62 l0 x3_1).f4)) := (blk_cell BK310.out 4).trans rfl
               have hfz38_0 := blk_frozen BK310.out 0
               have hfz38_1 := blk_frozen BK310.out 1
               have hfz38_2 := blk_frozen BK310.out 2
               have hfz38_3 := blk_frozen BK310.out 3
               have hfz38_4 := blk_frozen BK310.out 4
               have hcz39_0 : w23.cell? ⟨gb312, 0, none⟩ = some (.int .i64 ((rd_T62 l0 x4_2).f0)) := (blk_cell BK312.out 0).trans rfl
               have hcz39_1 : w23.cell? ⟨gb312, 1, none⟩ = some (.int .i64 ((rd_T62 l0 x4_2).f1)) := (blk_cell BK312.out 1).trans rfl
               have hcz39_2 : w23.cell? ⟨gb312, 2, none⟩ = some (.int .i64 ((rd_T62 l0 x4_2).f2)) := (blk_cell BK312.out 2).trans rfl
               have hcz39_3 : w23.cell? ⟨gb312, 3, none⟩ = some (.int .i64 ((rd_T62 l0 x4_2).f3)) := (blk_cell BK312.out 3).trans rfl
               have hcz39_4 : w23.cell? ⟨gb312, 4, none⟩ = some (.int .i64 ((rd_T62 l0 x4_2).f4)) := (blk_cell BK312.out 4).trans rfl
               have hfz39_0 := blk_frozen BK312.out 0
               have hfz39_1 := blk_frozen BK312.out 1
               have hfz39_2 := blk_frozen BK312.out 2
               have hfz39_3 := blk_frozen BK312.out 3
               have hfz39_4 := blk_frozen BK312.out 4
               go_wp2
               go_meet
               case rel => exact ⟨_, (false), (by first | rfl | (simp; done) | (simp [*]; done)), H', ⟨by have := HK1.out; have := HK2.out; first | omega | exact Nat.le_refl _⟩, ⟨by (with_reducible repeat (first | refine blk_drewN ?_ _ | refine blk_drew ?_ | refine blk_alloc ?_ _)); exact BK310.out⟩, ⟨by (with_reducible repeat (first | refine blk_drewN ?_ _ | refine blk_drew ?_ | refine blk_alloc ?_ _)); exact BK312.out⟩, ⟨by repeat (first | (with_reducible first | exact HB.out | apply below_alloc | apply pw_below_drewN | apply below_drew1 | refine below_set ?_ GE310.out | refine below_set ?_ GE312.out) | exact HB.out)⟩⟩
            case rest =>
             clear HC13
             try clear c1
             try clear c2
             try clear p2
             try clear c3
             try clear p3
             try clear q3
             try clear hx3
             try clear c5
             try clear c5b0
             try clear c6
             try clear c6b0
             try clear c7
             try clear c7b0
             try clear c8
             try clear c8b0
             try clear c9
             try clear c9b0
             try clear c10
             try clear c10b0
             try clear c17
             try clear c24
             try clear c25
             try clear c26
             try clear c26b0
             try clear c26b1
             try clear c27
             try clear c30
             try clear p30
             try clear q30
             try clear hx30
             try clear p31
             try clear q31
             try clear hx31
             try clear c33
             try clear c33b0
             try clear c33b1
             try clear c34
             try clear c36
             try clear c37
             try clear hcz15_0
             try clear hcz15_1
             try clear hcz15_2
             try clear hcz15_3
             try clear hcz15_4
             try clear hcz18_0
             try clear hcz18_1
             try clear hcz18_2
             try clear hcz18_3
             try clear hcz18_4
             try clear hcz19_0
             try clear hcz19_1
             try clear hcz19_2
             try clear hcz19_3
             try clear hcz19_4
             try clear hcz21_0
             try clear hcz21_1
             try clear hcz21_2
             try clear hcz21_3
             try clear hcz21_4
             try clear hcz22_0
             try clear hcz22_1
             try clear hcz22_2
             try clear hcz22_3
             try clear hcz22_4
             try clear hcz28_0
             try clear hcz28_1
             try clear hcz28_2
             try clear hcz28_3
             try clear hcz28_4
             try clear hcz29_0
             try clear hcz29_1
             try clear hcz29_2
             try clear hcz29_3
             try clear hcz29_4
             try clear hcz31_0
             try clear hcz31_1
             try clear hcz31_2
             try clear hcz31_3
             try clear hcz31_4
             try clear hcz32_0
             try clear hcz32_1
             try clear hcz32_2
             try clear hcz32_3
             try clear hcz32_4
             try clear hcz35_0
             try clear hcz35_1
             try clear hcz35_2
             try clear hcz35_3
             try clear hcz35_4
             try clear hcz36_0
             try clear hcz36_1
             try clear hcz36_2
             try clear hcz36_3
             try clear hcz36_4
             try clear hcz38_0
             try clear hcz38_1
             try clear hcz38_2
             try clear hcz38_3
             try clear hcz38_4
             try clear hcz39_0
             try clear hcz39_1
             try clear hcz39_2
             try clear hcz39_3
             try clear hcz39_4
             try clear hfz15_0
             try clear hfz15_1
             try clear hfz15_2
             try clear hfz15_3
             try clear hfz15_4
             try clear hfz18_0
             try clear hfz18_1
             try clear hfz18_2
             try clear hfz18_3
             try clear hfz18_4
             try clear hfz19_0
             try clear hfz19_1
             try clear hfz19_2
             try clear hfz19_3
             try clear hfz19_4
             try clear hfz21_0
             try clear hfz21_1
             try clear hfz21_2
             try clear hfz21_3
             try clear hfz21_4
             try clear hfz22_0
             try clear hfz22_1
             try clear hfz22_2
             try clear hfz22_3
             try clear hfz22_4
             try clear hfz28_0
             try clear hfz28_1
             try clear hfz28_2
             try clear hfz28_3
             try clear hfz28_4
             try clear hfz29_0
             try clear hfz29_1
             try clear hfz29_2
             try clear hfz29_3
             try clear hfz29_4
             try clear hfz31_0
             try clear hfz31_1
             try clear hfz31_2
             try clear hfz31_3
             try clear hfz31_4
             try clear hfz32_0
             try clear hfz32_1
             try clear hfz32_2
             try clear hfz32_3
             try clear hfz32_4
             try clear hfz35_0
             try clear hfz35_1
             try clear hfz35_2
             try clear hfz35_3
             try clear hfz35_4
             try clear hfz36_0
             try clear hfz36_1
             try clear hfz36_2
             try clear hfz36_3
             try clear hfz36_4
             try clear hfz38_0
             try clear hfz38_1
             try clear hfz38_2
             try clear hfz38_3
             try clear hfz38_4
             try clear hfz39_0
             try clear hfz39_1
             try clear hfz39_2
             try clear hfz39_3
             try clear hfz39_4
             try clear hx309_0
             try clear hx309_1
             try clear hx309_2
             try clear hx309_3
             try clear hx309_4
             try clear hx311_0
             try clear hx311_1
             try clear hx311_2
             try clear hx311_3
             try clear hx311_4
             try clear p2
             try clear p309
             try clear p311
             try clear q309
             try clear q311
             obtain ⟨kq, x55_12, rfl, HA, HJ12, BK310, BK312, HB⟩ := hcut
             cases kq with
             | zero => exact absurd HA.out (by simp [spec_IsFair.j2])
             | succ kj12 =>
              have H := HA.out
              clear HA
              simp only [spec_IsFair.j2] at H
              by_cases c40 : x55_12 = true
              ·subst c40
               have H1 : (some false) = some r := by rw [if_pos rfl] at H; exact H
               clear H
               have H := H1
               clear H1
               obtain rfl := Option.some.inj H
               go_wp2
               go_ret
               exact ⟨by first | rfl | (simp [errW_none, errW_some] <;> rfl) | (simp [*, errW_none, errW_some] <;> rfl), by repeat (first | (with_reducible first | exact HB.out | apply below_alloc | apply pw_below_drewN | apply below_drew1 | refine below_set ?_ GE310.out | refine below_set ?_ GE312.out) | exact HB.out)⟩
              ·replace c40 := Bool.eq_false_iff.mpr c40
               subst c40
               have H1 : (spec_IsFair.l1 kj12 l0 x3_1 (wrap64 (x4_2 + 1))) = some r := by rw [if_neg (show ¬ (false = true) by decide)] at H; exact H
               clear H
               have H := H1
               clear H1
               have H' := Aside0.mk H
               clear H
               go_wp2
               go_roundg kj12
               case measure => have := HK1.out; have := HK2.out; have := HJ12.out; omega
               case rel => exact ⟨(wrap64 (x4_2 + 1)), (by first | rfl | (simp; done) | (simp [*]; done)), H', ⟨by have := HK1.out; have := HK2.out; have := HJ12.out; omega⟩, ⟨by repeat (first | (with_reducible first | exact HB.out | apply below_alloc | apply pw_below_drewN | apply below_drew1 | refine below_set ?_ GE310.out | refine below_set ?_ GE312.out) | exact HB.out)⟩⟩
           ·rw [if_neg c10] at H
            exact absurd H (by simp)
          ·rw [if_neg c9] at H
           exact absurd H (by simp)
         ·rw [if_neg c8] at H
          exact absurd H (by simp)
        ·rw [if_neg c7] at H
         exact absurd H (by simp)
       ·rw [if_neg c6] at H
        have c6b0 : decide (x4_2 < x3_1) = false := decide_eq_false c6
        clear c6
        have H' := Aside0.mk H
        clear H
        go_wp2
        go_roundg k2
        case measure => have := HK1.out; have := HK2.out; omega
        case rel => exact ⟨(wrap64 (x3_1 + 1)), (by first | rfl | (simp; done) | (simp [*]; done)), H', ⟨by have := HK1.out; have := HK2.out; omega⟩, ⟨by repeat (first | (with_reducible first | exact HB.out | apply below_alloc | apply pw_below_drewN | apply below_drew1) | exact HB.out)⟩⟩
    ·rw [if_neg c5] at H
     have c5b0 : decide (x3_1 < (l0.length : Int)) = false := decide_eq_false c5
     clear c5
     obtain rfl := Option.some.inj H
     go_wp2
     go_ret
     exact ⟨by first | rfl | (simp [errW_none, errW_some] <;> rfl) | (simp [*, errW_none, errW_some] <;> rfl), by repeat (first | (with_reducible first | exact HB.out | apply below_alloc | apply pw_below_drewN | apply below_drew1) | exact HB.out)⟩
 ·replace c3 := Bool.eq_false_iff.mpr c3
  subst c3
  have H1 : (some false) = some r := by rw [if_neg (show ¬ (false = true) by decide)] at H; exact H
  clear H
  have H := H1
  clear H1
  obtain rfl := Option.some.inj H
  go_enter Try.func36, Try.ntmps36
  go_wp2_with (first | ((with_reducible refine gate_callee (f := 26) rfl ?_); refine goesL_ (some 10) rfl rfl Try.func26 (by kernel_rfl) rfl #[.slice A0 l0.length c0] rfl (by (try simp only [List.map_toArray, List.map_cons, List.map_nil]); first | done | rfl | (simp only [List.length_drop, List.length_take]; rfl)) ?_; (with_reducible refine (spec_IsMovement.calls k _ _ l0 false _ ?side1 ?side2 A2.out).mono ?_); (case side1 => repeat (first | exact HR0.out | (with_reducible refine Kd.C_alloc ?_ _) | (with_reducible refine Kd.C_drewN ?_ _) | (with_reducible refine Kd.C_drew ?_))); (case side2 => exact HC0.out); rintro e w41 ⟨rfl, hb⟩; refine ⟨_, rfl, ?_⟩; have n0_ := Aside0.mk (below_step (by repeat (first | (with_reducible first | exact HB.out | apply below_alloc | apply pw_below_drewN | apply below_drew1) | exact HB.out)) hb); clear HB; have HB := n0_; clear n0_; (try clear hb); (try clear hb2); (try clear hk); (try clear hi)))
  go_ret
  exact ⟨by first | rfl | (simp [errW_none, errW_some] <;> rfl) | (simp [*, errW_none, errW_some] <;> rfl), by repeat (first | (with_reducible first | exact HB.out | apply below_alloc | apply pw_below_drewN | apply below_drew1) | exact HB.out)⟩

end Go.Proofs.Ytiaahlbaeeiipaa.PA
