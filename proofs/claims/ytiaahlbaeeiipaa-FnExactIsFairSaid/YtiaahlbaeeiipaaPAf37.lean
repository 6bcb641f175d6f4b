-- printed by wip/myprint.py out of the translation (the kit's print.py, jointly for several laws); Lean checks it.
import Derived.Test.YtiaahlbaeeiipaaPAf0
import Derived.Test.YtiaahlbaeeiipaaPAf68
import Derived.Test.YtiaahlbaeeiipaaPAf28
namespace Go.Proofs.Ytiaahlbaeeiipaa.PA
open Go.RowKit Go.Proofs.YtiaahlbaeeiipaaW.PrintWords Go.Proofs.YtiaahlbaeeiipaaW.PrintLast Go.Proofs.YtiaahlbaeeiipaaW.PrintMore
attribute [local go_sem] max2_int min2_int max_two min_two max_three min_three max_four min_four   -- for this text's walks alone
set_option linter.unusedVariables false
set_option linter.unusedSimpArgs false

/-! ### impl_IsFair: function 37 -/
mutual
def impl_IsFair.l0 : Nat → List (S62) → List (S62) → Int → Int → Option (Bool)
 | 0, _, _, _, _ => none
 | k + 1, x0, x12, x13, x14 => if x14 < x13 then (if 0 ≤ x14 then (if x14 < (x12.length : Int) then (if x14 ≤ (x0.length : Int) then ((some (x0.take (x14 : Int).toNat : List (S62))).bind fun y318 => (impl_IsFair.l1 k x0 x12 x13 x14 y318 (y318.length : Int) 0 ((rd_T62 x12 x14).f0) ((rd_T62 x12 x14).f1) ((rd_T62 x12 x14).f2) ((rd_T62 x12 x14).f3) ((rd_T62 x12 x14).f4))) else (none)) else (none)) else (none)) else (some true)
def impl_IsFair.l1 : Nat → List (S62) → List (S62) → Int → Int → List (S62) → Int → Int → Int → Int → Int → Int → Int → Option (Bool)
 | 0, _, _, _, _, _, _, _, _, _, _, _, _ => none
 | k + 1, x0, x12, x13, x14, x21, x22, x23, x318000, x318001, x318002, x318003, x318004 => if x23 < x22 then (if 0 ≤ x23 then (if x23 < (x21.length : Int) then ((impl_plays.f ((rd_T62 x21 x23).f0) ((rd_T62 x21 x23).f1) ((rd_T62 x21 x23).f2) ((rd_T62 x21 x23).f3) ((rd_T62 x21 x23).f4) x318002).bind fun t324 => ((impl_plays.f ((rd_T62 x21 x23).f0) ((rd_T62 x21 x23).f1) ((rd_T62 x21 x23).f2) ((rd_T62 x21 x23).f3) ((rd_T62 x21 x23).f4) x318003).bind fun t325 => (if t324 = true then (if t325 = true then (impl_IsFair.j2 k x0 x12 x13 x14 x21 x22 x23 true x318000 x318001 x318002 x318003 x318004) else (impl_IsFair.j2 k x0 x12 x13 x14 x21 x22 x23 (x318004 == ((rd_T62 x21 x23).f4)) x318000 x318001 x318002 x318003 x318004)) else (if t325 = true then (impl_IsFair.j2 k x0 x12 x13 x14 x21 x22 x23 (x318004 == ((rd_T62 x21 x23).f4)) x318000 x318001 x318002 x318003 x318004) else (impl_IsFair.j2 k x0 x12 x13 x14 x21 x22 x23 false x318000 x318001 x318002 x318003 x318004))))) else (none)) else (none)) else (impl_IsFair.l0 k x0 x12 x13 (wrap64 (x14 + 1)))
def impl_IsFair.j2 : Nat → List (S62) → List (S62) → Int → Int → List (S62) → Int → Int → Bool → Int → Int → Int → Int → Int → Option (Bool)
 | 0, _, _, _, _, _, _, _, _, _, _, _, _, _ => none
 | k + 1, x0, x12, x13, x14, x21, x22, x23, x51, x318000, x318001, x318002, x318003, x318004 => if x51 = true then (some false) else (impl_IsFair.l1 k x0 x12 x13 x14 x21 x22 (wrap64 (x23 + 1)) x318000 x318001 x318002 x318003 x318004)
end
def impl_IsFair.f (k : Nat) (l0 : List (S62)) : Option (Bool) := (impl_IsMovement.f k l0).bind fun t315 => (if t315 = true then (impl_IsFair.l0 k l0 l0 (l0.length : Int) 0) else (some false))
theorem impl_IsFair.mono_l : ∀ k, (∀ y0 y1 y2 y3, LeO (impl_IsFair.l0 k y0 y1 y2 y3) (impl_IsFair.l0 (k + 1) y0 y1 y2 y3)) ∧ (∀ y0 y1 y2 y3 y4 y5 y6 y7 y8 y9 y10 y11, LeO (impl_IsFair.l1 k y0 y1 y2 y3 y4 y5 y6 y7 y8 y9 y10 y11) (impl_IsFair.l1 (k + 1) y0 y1 y2 y3 y4 y5 y6 y7 y8 y9 y10 y11)) ∧ (∀ y0 y1 y2 y3 y4 y5 y6 y7 y8 y9 y10 y11 y12, LeO (impl_IsFair.j2 k y0 y1 y2 y3 y4 y5 y6 y7 y8 y9 y10 y11 y12) (impl_IsFair.j2 (k + 1) y0 y1 y2 y3 y4 y5 y6 y7 y8 y9 y10 y11 y12))
 | 0 => ⟨fun _ _ _ _ r h => by simp [impl_IsFair.l0] at h, fun _ _ _ _ _ _ _ _ _ _ _ _ r h => by simp [impl_IsFair.l1] at h, fun _ _ _ _ _ _ _ _ _ _ _ _ _ r h => by simp [impl_IsFair.j2] at h⟩
 | k + 1 => by
  obtain ⟨ih0, ih1, ih2⟩ := impl_IsFair.mono_l k
  refine ⟨?_, ?_, ?_⟩
  ·intro y0 y1 y2 y3
   unfold impl_IsFair.l0
   repeat' first
   | (with_reducible exact ih0 _ _ _ _)
   | (with_reducible exact ih1 _ _ _ _ _ _ _ _ _ _ _ _)
   | (with_reducible exact ih2 _ _ _ _ _ _ _ _ _ _ _ _ _)
   | (with_reducible exact impl_IsMovement.mono _ _)
   | (with_reducible exact LeO.refl _)
   | (with_reducible exact LeO.none _)
   | (with_reducible refine LeO.ite ?_ ?_)
   | (with_reducible refine LeO.bind ?_ (fun _ => ?_))
   | exact ih0 _ _ _ _
   | exact ih1 _ _ _ _ _ _ _ _ _ _ _ _
   | exact ih2 _ _ _ _ _ _ _ _ _ _ _ _ _
   | exact impl_IsMovement.mono _ _
   | exact LeO.none _
   | refine LeO.ite ?_ ?_
   | refine LeO.bind ?_ (fun _ => ?_)
  ·intro y0 y1 y2 y3 y4 y5 y6 y7 y8 y9 y10 y11
   unfold impl_IsFair.l1
   repeat' first
   | (with_reducible exact ih0 _ _ _ _)
   | (with_reducible exact ih1 _ _ _ _ _ _ _ _ _ _ _ _)
   | (with_reducible exact ih2 _ _ _ _ _ _ _ _ _ _ _ _ _)
   | (with_reducible exact impl_IsMovement.mono _ _)
   | (with_reducible exact LeO.refl _)
   | (with_reducible exact LeO.none _)
   | (with_reducible refine LeO.ite ?_ ?_)
   | (with_reducible refine LeO.bind ?_ (fun _ => ?_))
   | exact ih0 _ _ _ _
   | exact ih1 _ _ _ _ _ _ _ _ _ _ _ _
   | exact ih2 _ _ _ _ _ _ _ _ _ _ _ _ _
   | exact impl_IsMovement.mono _ _
   | exact LeO.none _
   | refine LeO.ite ?_ ?_
   | refine LeO.bind ?_ (fun _ => ?_)
  ·intro y0 y1 y2 y3 y4 y5 y6 y7 y8 y9 y10 y11 y12
   unfold impl_IsFair.j2
   repeat' first
   | (with_reducible exact ih0 _ _ _ _)
   | (with_reducible exact ih1 _ _ _ _ _ _ _ _ _ _ _ _)
   | (with_reducible exact ih2 _ _ _ _ _ _ _ _ _ _ _ _ _)
   | (with_reducible exact impl_IsMovement.mono _ _)
   | (with_reducible exact LeO.refl _)
   | (with_reducible exact LeO.none _)
   | (with_reducible refine LeO.ite ?_ ?_)
   | (with_reducible refine LeO.bind ?_ (fun _ => ?_))
   | exact ih0 _ _ _ _
   | exact ih1 _ _ _ _ _ _ _ _ _ _ _ _
   | exact ih2 _ _ _ _ _ _ _ _ _ _ _ _ _
   | exact impl_IsMovement.mono _ _
   | exact LeO.none _
   | refine LeO.ite ?_ ?_
   | refine LeO.bind ?_ (fun _ => ?_)
theorem impl_IsFair.mono : ∀ a0 k, LeO (impl_IsFair.f k a0) (impl_IsFair.f (k + 1) a0) := by
 intro a0 k
 obtain ⟨ih0, ih1, ih2⟩ := impl_IsFair.mono_l k
 unfold impl_IsFair.f
 repeat' first
   | (with_reducible exact ih0 _ _ _ _)
   | (with_reducible exact ih1 _ _ _ _ _ _ _ _ _ _ _ _)
   | (with_reducible exact ih2 _ _ _ _ _ _ _ _ _ _ _ _ _)
   | (with_reducible exact impl_IsMovement.mono _ _)
   | (with_reducible exact LeO.refl _)
   | (with_reducible exact LeO.none _)
   | (with_reducible refine LeO.ite ?_ ?_)
   | (with_reducible refine LeO.bind ?_ (fun _ => ?_))
   | exact ih0 _ _ _ _
   | exact ih1 _ _ _ _ _ _ _ _ _ _ _ _
   | exact ih2 _ _ _ _ _ _ _ _ _ _ _ _ _
   | exact impl_IsMovement.mono _ _
   | exact LeO.none _
   | refine LeO.ite ?_ ?_
   | refine LeO.bind ?_ (fun _ => ?_)
def impl_IsFair.T9 : Bool × List (List Nat × List Nat) := (true, [([], []), ([], []), ([1], [1]), ([0, 2], [0, 2]), ([], []), ([], []), ([5], [5]), ([4, 6, 3], [4, 6]), ([3, 7, 0, 1, 2, 3], [3]), ([7, 8, 0, 1, 2, 3, 4, 5, 6, 7, 8], [7])])
def impl_IsFair.B9 : List Nat := [0, 0, 2, 7, 0, 0, 32, 127, 255, 511]
theorem impl_IsFair.tab9 : rtab .any (opsOf Try.f37 9) = impl_IsFair.T9 := by kernel_rfl
theorem impl_IsFair.bits9 : waitsOk impl_IsFair.T9.2 impl_IsFair.B9 = true := by kernel_rfl
set_option maxHeartbeats 8000000 in
set_option maxRecDepth 100000 in
theorem impl_IsFair.calls (k : Nat) (A0 : Option Addr) (c0 : Nat) (l0 : List (S62)) (r : Bool) (w : World) (hr0 : Kd.C k62 w A0 l0.length l0) (hc0 : l0.length ≤ c0) (h : impl_IsFair.f k l0 = some r) :
  Calls Try.prog 37 #[.slice A0 l0.length c0] w fun e w' => e = .returned (.bool r) ∧ Below w.heap.size w w' := by
 have hu62 := Try.underlying62
 have HR0 := Aside0.mk hr0
 have HC0 := Aside0.mk hc0
 clear hr0 hc0
 have HB := Aside0.mk (Below.refl w.heap.size w)
 have H : ((impl_IsMovement.f k l0).bind fun t315 => (if t315 = true then (impl_IsFair.l0 k l0 l0 (l0.length : Int) 0) else (some false))) = some r := h
 clear h
 replace H := Option.bind_eq_some_iff.mp H
 obtain ⟨t315, A20, H⟩ := H
 replace H : (if t315 = true then (impl_IsFair.l0 k l0 l0 (l0.length : Int) 0) else (some false)) = some r := H
 have A2 := Aside0.mk A20
 clear A20
 by_cases c3 : t315 = true
 ·subst c3
  have H1 : (impl_IsFair.l0 k l0 l0 (l0.length : Int) 0) = some r := by rw [if_pos rfl] at H; exact H
  clear H
  have H := H1
  clear H1
  have H' := Aside0.mk H
  clear H
  go_enter Try.func37, Try.ntmps37
  go_wp2_with (first | ((with_reducible refine gate_callee (f := 28) rfl ?_); refine goesL_ (some 10) rfl rfl Try.func28 (by kernel_rfl) rfl #[.slice A0 l0.length c0] rfl (by (try simp only [List.map_toArray, List.map_cons, List.map_nil]); first | done | rfl | (simp only [List.length_drop, List.length_take]; rfl)) ?_; (with_reducible refine (impl_IsMovement.calls k _ _ l0 true _ ?side1 ?side2 A2.out).mono ?_); (case side1 => repeat (first | exact HR0.out | (with_reducible refine Kd.C_alloc ?_ _) | (with_reducible refine Kd.C_drewN ?_ _) | (with_reducible refine Kd.C_drew ?_))); (case side2 => exact HC0.out); rintro e w4 ⟨rfl, hb⟩; refine ⟨_, rfl, ?_⟩; have n0_ := Aside0.mk (below_step (by repeat (first | (with_reducible first | exact HB.out | apply below_alloc | apply pw_below_drewN | apply below_drew1) | exact HB.out)) hb); clear HB; have HB := n0_; clear n0_; (try clear hb); (try clear hb2); (try clear hk); (try clear hi)))
  go_loopg [14] k (fun kq v14 w' => ∃ (x14_1 : Int), v14 = .int .i64 x14_1 ∧ Aside0 (impl_IsFair.l0 kq l0 l0 (l0.length : Int) x14_1 = some r) ∧ Aside0 (kq ≤ k) ∧ Aside0 (Below w.heap.size w w'))
  case atStart => exact ⟨(0), (by first | rfl | (simp; done) | (simp [*]; done)), H', ⟨Nat.le_refl _⟩, ⟨by repeat (first | (with_reducible first | exact HB.out | apply below_alloc | apply pw_below_drewN | apply below_drew1) | exact HB.out)⟩⟩
  case round =>
   clear H'
   try clear c2
   try clear p2
   try clear c3
   obtain ⟨x14_1, rfl, HA, HK1, HB⟩ := hrel
   cases gk with
   | zero => exact absurd HA.out (by simp [impl_IsFair.l0])
   | succ k1 =>
    have H := HA.out
    clear HA
    simp only [impl_IsFair.l0] at H
    by_cases c5 : x14_1 < (l0.length : Int)
    ·rw [if_pos c5] at H
     have c5b0 : decide (x14_1 < (l0.length : Int)) = true := decide_eq_true c5
     clear c5
     by_cases c6 : 0 ≤ x14_1
     ·rw [if_pos c6] at H
      have c6b0 : decide (0 ≤ x14_1) = true := decide_eq_true c6
      clear c6
      by_cases c7 : x14_1 < (l0.length : Int)
      ·rw [if_pos c7] at H
       have c7b0 : decide (x14_1 < (l0.length : Int)) = true := decide_eq_true c7
       clear c7
       have c8b0 := eq_true (of_decide_eq_true (by first | (with_reducible assumption) | assumption) : 0 ≤ x14_1)
       by_cases c9 : x14_1 ≤ (l0.length : Int)
       ·rw [if_pos c9] at H
        have c9b0 := eq_true c9
        have c9b1 : decide (x14_1 ≤ (l0.length : Int)) = true := decide_eq_true c9
        clear c9
        obtain ⟨y318, hy318⟩ : ∃ y_ : List (S62), y_ = (l0.take (x14_1 : Int).toNat) := ⟨_, rfl⟩
        replace H : (impl_IsFair.l1 k1 l0 l0 (l0.length : Int) x14_1 y318 (y318.length : Int) 0 ((rd_T62 l0 x14_1).f0) ((rd_T62 l0 x14_1).f1) ((rd_T62 l0 x14_1).f2) ((rd_T62 l0 x14_1).f3) ((rd_T62 l0 x14_1).f4)) = some r := by first | (rw [hy318]; with_reducible exact H) | (have H2_ := (Option.bind_some _ _).symm.trans H; rw [hy318]; with_reducible exact H2_) | (have H2_ := (Option.bind_some _ _).symm.trans H; with_reducible exact H2_) | with_reducible exact H | (rw [hy318]; exact H) | exact H
        have Ny318 := Aside0.mk hy318
        clear hy318
        have H' := Aside0.mk H
        clear H
        have p316 : 0 ≤ (x14_1 : Int) := of_decide_eq_true (by first | (with_reducible assumption) | assumption)
        have q316 : x14_1 < (l0.length : Int) := of_decide_eq_true (by first | (with_reducible assumption) | assumption)
        obtain ⟨ad316, e316, hx316_0, hx316_1, hx316_2, hx316_3, hx316_4⟩ := at_T62 HR0.out x14_1 p316 q316
        cases e316
        replace hx316_0 := (HB.out.cell (World.block_lt_of_cell? w _ hx316_0)).trans hx316_0
        replace hx316_1 := (HB.out.cell (World.block_lt_of_cell? w _ hx316_1)).trans hx316_1
        replace hx316_2 := (HB.out.cell (World.block_lt_of_cell? w _ hx316_2)).trans hx316_2
        replace hx316_3 := (HB.out.cell (World.block_lt_of_cell? w _ hx316_3)).trans hx316_3
        replace hx316_4 := (HB.out.cell (World.block_lt_of_cell? w _ hx316_4)).trans hx316_4
        replace p316 := eq_true p316
        replace q316 := eq_true q316
        go_wp2_with (first | ((with_reducible refine gate_dst (N := 4) rfl ?_); refine box_event ?hg (N := 4) ?hd (cs := #[.int .i64 0, .int .i64 0, .int .i64 0, .int .i64 0, .int .i64 0]) (t := 62) ?hr ?_; (case hd => rfl); (case hg => rfl); (case hr => first | (go_simp; done) | (go_simp; rfl)); intro gb317 hg w10 hbox hb; have n0_ := Aside0.mk (below_step (by repeat (first | (with_reducible first | exact HB.out | apply below_alloc | apply pw_below_drewN | apply below_drew1) | exact HB.out)) hb); have n1_ := Aside0.mk (hbox); have n2_ := Aside0.mk ((by rw [hg]; exact (below_size (by repeat (first | (with_reducible first | exact HB.out | apply below_alloc | apply pw_below_drewN | apply below_drew1) | exact HB.out))) : w.heap.size ≤ gb317)); have n3_ := Aside0.mk ((by rw [hg]; exact (below_size (by repeat (first | (with_reducible first | exact HB.out | apply below_alloc | apply pw_below_drewN | apply below_drew1) | exact HB.out))) : w.heap.size ≤ gb317)); clear HB; have HB := n0_; have BK317 := n1_; have GW317 := n2_; have GE317 := n3_; clear n0_ n1_ n2_ n3_; clear hb hbox hg; have hcz11_0 : w10.cell? ⟨gb317, 0, none⟩ = some (.int .i64 0) := (blk_cell BK317.out 0).trans rfl; have hcz11_1 : w10.cell? ⟨gb317, 1, none⟩ = some (.int .i64 0) := (blk_cell BK317.out 1).trans rfl; have hcz11_2 : w10.cell? ⟨gb317, 2, none⟩ = some (.int .i64 0) := (blk_cell BK317.out 2).trans rfl; have hcz11_3 : w10.cell? ⟨gb317, 3, none⟩ = some (.int .i64 0) := (blk_cell BK317.out 3).trans rfl; have hcz11_4 : w10.cell? ⟨gb317, 4, none⟩ = some (.int .i64 0) := (blk_cell BK317.out 4).trans rfl; have hfz11_0 := blk_frozen BK317.out 0; have hfz11_1 := blk_frozen BK317.out 1; have hfz11_2 := blk_frozen BK317.out 2; have hfz11_3 := blk_frozen BK317.out 3; have hfz11_4 := blk_frozen BK317.out 4) | ((with_reducible refine gate_store (t := 62) (p := 4) rfl ?_); refine store_event (t := 62) (p := 4) (v := ?vo_w12) (w1 := (((((w10.setCell ⟨gb317, 0, none⟩ (.int .i64 ((rd_T62 l0 x14_1).f0))).setCell ⟨gb317, 1, none⟩ (.int .i64 ((rd_T62 l0 x14_1).f1))).setCell ⟨gb317, 2, none⟩ (.int .i64 ((rd_T62 l0 x14_1).f2))).setCell ⟨gb317, 3, none⟩ (.int .i64 ((rd_T62 l0 x14_1).f3))).setCell ⟨gb317, 4, none⟩ (.int .i64 ((rd_T62 l0 x14_1).f4)))) ?hg ?ho ?hn ?hr ?_; (case ho => rfl); (case hg => rfl); (case hn => rfl); (case hr => first | (go_simp; done) | (go_simp; rfl)); intro w12 hw; have n0_ : Aside0 (w12.heap[gb317]? = some (.cells #[.int .i64 ((rd_T62 l0 x14_1).f0), .int .i64 ((rd_T62 l0 x14_1).f1), .int .i64 ((rd_T62 l0 x14_1).f2), .int .i64 ((rd_T62 l0 x14_1).f3), .int .i64 ((rd_T62 l0 x14_1).f4)] 62 (0, 0))) := ⟨(by rw [hw]; exact (by (with_reducible repeat (first | refine blk_drewN ?_ _ | refine blk_drew ?_ | refine blk_alloc ?_ _)); refine blk_put (cs := #[.int .i64 ((rd_T62 l0 x14_1).f0), .int .i64 ((rd_T62 l0 x14_1).f1), .int .i64 ((rd_T62 l0 x14_1).f2), .int .i64 ((rd_T62 l0 x14_1).f3), .int .i64 0]) ?_ 4 _ rfl; (with_reducible repeat (first | refine blk_drewN ?_ _ | refine blk_drew ?_ | refine blk_alloc ?_ _)); refine blk_put (cs := #[.int .i64 ((rd_T62 l0 x14_1).f0), .int .i64 ((rd_T62 l0 x14_1).f1), .int .i64 ((rd_T62 l0 x14_1).f2), .int .i64 0, .int .i64 0]) ?_ 3 _ rfl; (with_reducible repeat (first | refine blk_drewN ?_ _ | refine blk_drew ?_ | refine blk_alloc ?_ _)); refine blk_put (cs := #[.int .i64 ((rd_T62 l0 x14_1).f0), .int .i64 ((rd_T62 l0 x14_1).f1), .int .i64 0, .int .i64 0, .int .i64 0]) ?_ 2 _ rfl; (with_reducible repeat (first | refine blk_drewN ?_ _ | refine blk_drew ?_ | refine blk_alloc ?_ _)); refine blk_put (cs := #[.int .i64 ((rd_T62 l0 x14_1).f0), .int .i64 0, .int .i64 0, .int .i64 0, .int .i64 0]) ?_ 1 _ rfl; (with_reducible repeat (first | refine blk_drewN ?_ _ | refine blk_drew ?_ | refine blk_alloc ?_ _)); refine blk_put (cs := #[.int .i64 0, .int .i64 0, .int .i64 0, .int .i64 0, .int .i64 0]) ?_ 0 _ rfl; (with_reducible repeat (first | refine blk_drewN ?_ _ | refine blk_drew ?_ | refine blk_alloc ?_ _)); exact BK317.out))⟩; have n1_ : Aside0 (Below w.heap.size w w12) := ⟨(by rw [hw]; exact (by repeat (first | (with_reducible first | exact HB.out | apply below_alloc | apply pw_below_drewN | apply below_drew1 | refine below_set ?_ GE317.out) | exact HB.out)))⟩; clear hw; clear BK317; clear HB; have BK317 := n0_; have HB := n1_; clear n0_ n1_; have q13 : (x14_1 : Int) ≤ ((l0.length : Int) : Int) := of_decide_eq_true (by first | (with_reducible assumption) | assumption); obtain ⟨i013, hi013, _, hsz13, _⟩ := info_parts info62; have hroom13 : l0.length ≤ c0 := HC0.out; have hC13 : Kd.C k62 _ (some ad316) l0.length l0 := HR0.out; have hcut13 := cut_to (P := Try.prog) 30 62 .i64 Try.underlying30 hi013 (some ad316) l0.length c0 x14_1 (of_decide_eq_true (by first | (with_reducible assumption) | assumption)) q13 hroom13; have hr13 := Kd.C_take (m := (x14_1 : Int).toNat) hC13 (by omega); have hy13 : y318.length = (x14_1 : Int).toNat := (by rw [Ny318.out, List.length_take]; omega); rw [← Ny318.out] at hr13; rw [← hy13] at hcut13; have HR321 := Aside0.mk hr13; have HC321 := Aside0.mk (show y318.length ≤ c0 from by omega); clear hr13 hC13 hroom13 hi013 hsz13; have KY13 := Aside0.mk hy13; clear hy13; replace q13 := eq_true q13))
        go_loopg [23] k1 (fun kq v23 w' => ∃ (x23_2 : Int), v23 = .int .i64 x23_2 ∧ Aside0 (impl_IsFair.l1 kq l0 l0 (l0.length : Int) x14_1 y318 (y318.length : Int) x23_2 ((rd_T62 l0 x14_1).f0) ((rd_T62 l0 x14_1).f1) ((rd_T62 l0 x14_1).f2) ((rd_T62 l0 x14_1).f3) ((rd_T62 l0 x14_1).f4) = some r) ∧ Aside0 (kq ≤ k1) ∧ Aside0 (w'.heap[gb317]? = some (.cells #[.int .i64 ((rd_T62 l0 x14_1).f0), .int .i64 ((rd_T62 l0 x14_1).f1), .int .i64 ((rd_T62 l0 x14_1).f2), .int .i64 ((rd_T62 l0 x14_1).f3), .int .i64 ((rd_T62 l0 x14_1).f4)] 62 (0, 0))) ∧ Aside0 (Below w.heap.size w w'))
        case atStart => exact ⟨(0), (by first | rfl | (simp; done) | (simp [*]; done)), H', ⟨Nat.le_refl _⟩, ⟨by (with_reducible repeat (first | refine blk_drewN ?_ _ | refine blk_drew ?_ | refine blk_alloc ?_ _)); exact BK317.out⟩, ⟨by repeat (first | (with_reducible first | exact HB.out | apply below_alloc | apply pw_below_drewN | apply below_drew1 | refine below_set ?_ GE317.out) | exact HB.out)⟩⟩
        case round =>
         clear H'
         try clear q1
         try clear c2
         try clear p2
         try clear c3
         try clear p3
         try clear q3
         try clear hx3
         try clear c5
         try clear c5b0
         try clear c6
         try clear c6b0
         try clear c7
         try clear c7b0
         try clear c8
         try clear c8b0
         try clear c9
         try clear c9b0
         try clear c9b1
         try clear q13
         try clear hcz11_0
         try clear hcz11_1
         try clear hcz11_2
         try clear hcz11_3
         try clear hcz11_4
         try clear hfz11_0
         try clear hfz11_1
         try clear hfz11_2
         try clear hfz11_3
         try clear hfz11_4
         try clear hx316_0
         try clear hx316_1
         try clear hx316_2
         try clear hx316_3
         try clear hx316_4
         try clear p2
         try clear p316
         try clear q13
         try clear q316
         obtain ⟨x23_2, rfl, HA, HK2, BK317, HB⟩ := hrel
         cases gk with
         | zero => exact absurd HA.out (by simp [impl_IsFair.l1])
         | succ k2 =>
          have H := HA.out
          clear HA
          simp only [impl_IsFair.l1] at H
          by_cases c14 : x23_2 < (y318.length : Int)
          ·rw [if_pos c14] at H
           have c14b0 : decide (x23_2 < (y318.length : Int)) = true := decide_eq_true c14
           clear c14
           by_cases c15 : 0 ≤ x23_2
           ·rw [if_pos c15] at H
            have c15b0 : decide (0 ≤ x23_2) = true := decide_eq_true c15
            clear c15
            by_cases c16 : x23_2 < (y318.length : Int)
            ·rw [if_pos c16] at H
             have c16b0 : decide (x23_2 < (y318.length : Int)) = true := decide_eq_true c16
             clear c16
             replace H := Option.bind_eq_some_iff.mp H
             obtain ⟨t324, A170, H⟩ := H
             replace H : ((impl_plays.f ((rd_T62 y318 x23_2).f0) ((rd_T62 y318 x23_2).f1) ((rd_T62 y318 x23_2).f2) ((rd_T62 y318 x23_2).f3) ((rd_T62 y318 x23_2).f4) ((rd_T62 l0 x14_1).f3)).bind fun t325 => (if t324 = true then (if t325 = true then (impl_IsFair.j2 k2 l0 l0 (l0.length : Int) x14_1 y318 (y318.length : Int) x23_2 true ((rd_T62 l0 x14_1).f0) ((rd_T62 l0 x14_1).f1) ((rd_T62 l0 x14_1).f2) ((rd_T62 l0 x14_1).f3) ((rd_T62 l0 x14_1).f4)) else (impl_IsFair.j2 k2 l0 l0 (l0.length : Int) x14_1 y318 (y318.length : Int) x23_2 (((rd_T62 l0 x14_1).f4) == ((rd_T62 y318 x23_2).f4)) ((rd_T62 l0 x14_1).f0) ((rd_T62 l0 x14_1).f1) ((rd_T62 l0 x14_1).f2) ((rd_T62 l0 x14_1).f3) ((rd_T62 l0 x14_1).f4))) else (if t325 = true then (impl_IsFair.j2 k2 l0 l0 (l0.length : Int) x14_1 y318 (y318.length : Int) x23_2 (((rd_T62 l0 x14_1).f4) == ((rd_T62 y318 x23_2).f4)) ((rd_T62 l0 x14_1).f0) ((rd_T62 l0 x14_1).f1) ((rd_T62 l0 x14_1).f2) ((rd_T62 l0 x14_1).f3) ((rd_T62 l0 x14_1).f4)) else (impl_IsFair.j2 k2 l0 l0 (l0.length : Int) x14_1 y318 (y318.length : Int) x23_2 false ((rd_T62 l0 x14_1).f0) ((rd_T62 l0 x14_1).f1) ((rd_T62 l0 x14_1).f2) ((rd_T62 l0 x14_1).f3) ((rd_T62 l0 x14_1).f4))))) = some r := H
             have A17 := Aside0.mk A170
             clear A170
             replace H := Option.bind_eq_some_iff.mp H
             obtain ⟨t325, A180, H⟩ := H
             replace H : (if t324 = true then (if t325 = true then (impl_IsFair.j2 k2 l0 l0 (l0.length : Int) x14_1 y318 (y318.length : Int) x23_2 true ((rd_T62 l0 x14_1).f0) ((rd_T62 l0 x14_1).f1) ((rd_T62 l0 x14_1).f2) ((rd_T62 l0 x14_1).f3) ((rd_T62 l0 x14_1).f4)) else (impl_IsFair.j2 k2 l0 l0 (l0.length : Int) x14_1 y318 (y318.length : Int) x23_2 (((rd_T62 l0 x14_1).f4) == ((rd_T62 y318 x23_2).f4)) ((rd_T62 l0 x14_1).f0) ((rd_T62 l0 x14_1).f1) ((rd_T62 l0 x14_1).f2) ((rd_T62 l0 x14_1).f3) ((rd_T62 l0 x14_1).f4))) else (if t325 = true then (impl_IsFair.j2 k2 l0 l0 (l0.length : Int) x14_1 y318 (y318.length : Int) x23_2 (((rd_T62 l0 x14_1).f4) == ((rd_T62 y318 x23_2).f4)) ((rd_T62 l0 x14_1).f0) ((rd_T62 l0 x14_1).f1) ((rd_T62 l0 x14_1).f2) ((rd_T62 l0 x14_1).f3) ((rd_T62 l0 x14_1).f4)) else (impl_IsFair.j2 k2 l0 l0 (l0.length : Int) x14_1 y318 (y318.length : Int) x23_2 false ((rd_T62 l0 x14_1).f0) ((rd_T62 l0 x14_1).f1) ((rd_T62 l0 x14_1).f2) ((rd_T62 l0 x14_1).f3) ((rd_T62 l0 x14_1).f4)))) = some r := H
             have A18 := Aside0.mk A180
             clear A180
             have HC19 := Aside0.mk H
             clear H
             have p322 : 0 ≤ (x23_2 : Int) := of_decide_eq_true (by first | (with_reducible assumption) | assumption)
             have q322 : x23_2 < (y318.length : Int) := of_decide_eq_true (by first | (with_reducible assumption) | assumption)
             obtain ⟨ad322, e322, hx322_0, hx322_1, hx322_2, hx322_3, hx322_4⟩ := at_T62 HR321.out x23_2 p322 q322
             obtain rfl : ad316 = ad322 := (by injection e322)
             replace hx322_0 := (HB.out.cell (World.block_lt_of_cell? w _ hx322_0)).trans hx322_0
             replace hx322_1 := (HB.out.cell (World.block_lt_of_cell? w _ hx322_1)).trans hx322_1
             replace hx322_2 := (HB.out.cell (World.block_lt_of_cell? w _ hx322_2)).trans hx322_2
             replace hx322_3 := (HB.out.cell (World.block_lt_of_cell? w _ hx322_3)).trans hx322_3
             replace hx322_4 := (HB.out.cell (World.block_lt_of_cell? w _ hx322_4)).trans hx322_4
             replace p322 := eq_true p322
             replace q322 := eq_true q322
             try go_wp2_with (first | ((with_reducible refine gate_dst (N := 6) rfl ?_); refine box_event ?hg (N := 6) ?hd (cs := #[.int .i64 0, .int .i64 0, .int .i64 0, .int .i64 0, .int .i64 0]) (t := 62) ?hr ?_; (case hd => rfl); (case hg => rfl); (case hr => first | (go_simp; done) | (go_simp; rfl)); intro gb323 hg w20 hbox hb; have n0_ := Aside0.mk (blk_below (g := gb317) (o := .cells #[.int .i64 ((rd_T62 l0 x14_1).f0), .int .i64 ((rd_T62 l0 x14_1).f1), .int .i64 ((rd_T62 l0 x14_1).f2), .int .i64 ((rd_T62 l0 x14_1).f3), .int .i64 ((rd_T62 l0 x14_1).f4)] 62 (0, 0)) (by (with_reducible repeat (first | refine blk_drewN ?_ _ | refine blk_drew ?_ | refine blk_alloc ?_ _)); exact BK317.out) hb); have n1_ := Aside0.mk (below_step (by repeat (first | (with_reducible first | exact HB.out | apply below_alloc | apply pw_below_drewN | apply below_drew1 | refine below_set ?_ GE317.out) | exact HB.out)) hb); have n2_ := Aside0.mk (hbox); have n3_ := Aside0.mk ((by rw [hg]; exact (below_size (by repeat (first | (with_reducible first | exact HB.out | apply below_alloc | apply pw_below_drewN | apply below_drew1 | refine below_set ?_ GE317.out) | exact HB.out))) : w.heap.size ≤ gb323)); have n4_ := Aside0.mk ((by rw [hg]; exact (below_size (by repeat (first | (with_reducible first | exact HB.out | apply below_alloc | apply pw_below_drewN | apply below_drew1 | refine below_set ?_ GE317.out) | exact HB.out))) : w.heap.size ≤ gb323)); have n5_ := Aside0.mk ((by rw [hg]; exact Nat.ne_of_lt (blk_lt (g := gb317) (o := .cells #[.int .i64 ((rd_T62 l0 x14_1).f0), .int .i64 ((rd_T62 l0 x14_1).f1), .int .i64 ((rd_T62 l0 x14_1).f2), .int .i64 ((rd_T62 l0 x14_1).f3), .int .i64 ((rd_T62 l0 x14_1).f4)] 62 (0, 0)) (by (with_reducible repeat (first | refine blk_drewN ?_ _ | refine blk_drew ?_ | refine blk_alloc ?_ _)); exact BK317.out)) : gb317 ≠ gb323)); have n6_ := Aside0.mk ((by rw [hg]; exact Nat.ne_of_gt (blk_lt (g := gb317) (o := .cells #[.int .i64 ((rd_T62 l0 x14_1).f0), .int .i64 ((rd_T62 l0 x14_1).f1), .int .i64 ((rd_T62 l0 x14_1).f2), .int .i64 ((rd_T62 l0 x14_1).f3), .int .i64 ((rd_T62 l0 x14_1).f4)] 62 (0, 0)) (by (with_reducible repeat (first | refine blk_drewN ?_ _ | refine blk_drew ?_ | refine blk_alloc ?_ _)); exact BK317.out)) : gb323 ≠ gb317)); clear BK317; clear HB; have BK317 := n0_; have HB := n1_; have BK323 := n2_; have GW323 := n3_; have GE323 := n4_; have NB317_323 := n5_; have NB323_317 := n6_; clear n0_ n1_ n2_ n3_ n4_ n5_ n6_; clear hb hbox hg; have hnb21 := NB323_317.out; have hnc21 := NB317_323.out; have hcz22_0 : w20.cell? ⟨gb323, 0, none⟩ = some (.int .i64 0) := (blk_cell BK323.out 0).trans rfl; have hcz22_1 : w20.cell? ⟨gb323, 1, none⟩ = some (.int .i64 0) := (blk_cell BK323.out 1).trans rfl; have hcz22_2 : w20.cell? ⟨gb323, 2, none⟩ = some (.int .i64 0) := (blk_cell BK323.out 2).trans rfl; have hcz22_3 : w20.cell? ⟨gb323, 3, none⟩ = some (.int .i64 0) := (blk_cell BK323.out 3).trans rfl; have hcz22_4 : w20.cell? ⟨gb323, 4, none⟩ = some (.int .i64 0) := (blk_cell BK323.out 4).trans rfl; have hfz22_0 := blk_frozen BK323.out 0; have hfz22_1 := blk_frozen BK323.out 1; have hfz22_2 := blk_frozen BK323.out 2; have hfz22_3 := blk_frozen BK323.out 3; have hfz22_4 := blk_frozen BK323.out 4))
             have n0_ : Aside0 ((((((w20.setCell ⟨gb323, 0, none⟩ (.int .i64 ((rd_T62 y318 x23_2).f0))).setCell ⟨gb323, 1, none⟩ (.int .i64 ((rd_T62 y318 x23_2).f1))).setCell ⟨gb323, 2, none⟩ (.int .i64 ((rd_T62 y318 x23_2).f2))).setCell ⟨gb323, 3, none⟩ (.int .i64 ((rd_T62 y318 x23_2).f3))).setCell ⟨gb323, 4, none⟩ (.int .i64 ((rd_T62 y318 x23_2).f4))).heap[gb317]? = some (.cells #[.int .i64 ((rd_T62 l0 x14_1).f0), .int .i64 ((rd_T62 l0 x14_1).f1), .int .i64 ((rd_T62 l0 x14_1).f2), .int .i64 ((rd_T62 l0 x14_1).f3), .int .i64 ((rd_T62 l0 x14_1).f4)] 62 (0, 0))) := ⟨by (with_reducible repeat (first | refine blk_drewN ?_ _ | refine blk_drew ?_ | refine blk_alloc ?_ _)); refine blk_far ?_ NB317_323.out _; (with_reducible repeat (first | refine blk_drewN ?_ _ | refine blk_drew ?_ | refine blk_alloc ?_ _)); refine blk_far ?_ NB317_323.out _; (with_reducible repeat (first | refine blk_drewN ?_ _ | refine blk_drew ?_ | refine blk_alloc ?_ _)); refine blk_far ?_ NB317_323.out _; (with_reducible repeat (first | refine blk_drewN ?_ _ | refine blk_drew ?_ | refine blk_alloc ?_ _)); refine blk_far ?_ NB317_323.out _; (with_reducible repeat (first | refine blk_drewN ?_ _ | refine blk_drew ?_ | refine blk_alloc ?_ _)); refine blk_far ?_ NB317_323.out _; (with_reducible repeat (first | refine blk_drewN ?_ _ | refine blk_drew ?_ | refine blk_alloc ?_ _)); exact BK317.out⟩
             have n1_ : Aside0 ((((((w20.setCell ⟨gb323, 0, none⟩ (.int .i64 ((rd_T62 y318 x23_2).f0))).setCell ⟨gb323, 1, none⟩ (.int .i64 ((rd_T62 y318 x23_2).f1))).setCell ⟨gb323, 2, none⟩ (.int .i64 ((rd_T62 y318 x23_2).f2))).setCell ⟨gb323, 3, none⟩ (.int .i64 ((rd_T62 y318 x23_2).f3))).setCell ⟨gb323, 4, none⟩ (.int .i64 ((rd_T62 y318 x23_2).f4))).heap[gb323]? = some (.cells #[.int .i64 ((rd_T62 y318 x23_2).f0), .int .i64 ((rd_T62 y318 x23_2).f1), .int .i64 ((rd_T62 y318 x23_2).f2), .int .i64 ((rd_T62 y318 x23_2).f3), .int .i64 ((rd_T62 y318 x23_2).f4)] 62 (0, 0))) := ⟨by (with_reducible repeat (first | refine blk_drewN ?_ _ | refine blk_drew ?_ | refine blk_alloc ?_ _)); refine blk_put (cs := #[.int .i64 ((rd_T62 y318 x23_2).f0), .int .i64 ((rd_T62 y318 x23_2).f1), .int .i64 ((rd_T62 y318 x23_2).f2), .int .i64 ((rd_T62 y318 x23_2).f3), .int .i64 0]) ?_ 4 _ rfl; (with_reducible repeat (first | refine blk_drewN ?_ _ | refine blk_drew ?_ | refine blk_alloc ?_ _)); refine blk_put (cs := #[.int .i64 ((rd_T62 y318 x23_2).f0), .int .i64 ((rd_T62 y318 x23_2).f1), .int .i64 ((rd_T62 y318 x23_2).f2), .int .i64 0, .int .i64 0]) ?_ 3 _ rfl; (with_reducible repeat (first | refine blk_drewN ?_ _ | refine blk_drew ?_ | refine blk_alloc ?_ _)); refine blk_put (cs := #[.int .i64 ((rd_T62 y318 x23_2).f0), .int .i64 ((rd_T62 y318 x23_2).f1), .int .i64 0, .int .i64 0, .int .i64 0]) ?_ 2 _ rfl; (with_reducible repeat (first | refine blk_drewN ?_ _ | refine blk_drew ?_ | refine blk_alloc ?_ _)); refine blk_put (cs := #[.int .i64 ((rd_T62 y318 x23_2).f0), .int .i64 0, .int .i64 0, .int .i64 0, .int .i64 0]) ?_ 1 _ rfl; (with_reducible repeat (first | refine blk_drewN ?_ _ | refine blk_drew ?_ | refine blk_alloc ?_ _)); refine blk_put (cs := #[.int .i64 0, .int .i64 0, .int .i64 0, .int .i64 0, .int .i64 0]) ?_ 0 _ rfl; (with_reducible repeat (first | refine blk_drewN ?_ _ | refine blk_drew ?_ | refine blk_alloc ?_ _)); exact BK323.out⟩
             have n2_ : Aside0 (Below w.heap.size w (((((w20.setCell ⟨gb323, 0, none⟩ (.int .i64 ((rd_T62 y318 x23_2).f0))).setCell ⟨gb323, 1, none⟩ (.int .i64 ((rd_T62 y318 x23_2).f1))).setCell ⟨gb323, 2, none⟩ (.int .i64 ((rd_T62 y318 x23_2).f2))).setCell ⟨gb323, 3, none⟩ (.int .i64 ((rd_T62 y318 x23_2).f3))).setCell ⟨gb323, 4, none⟩ (.int .i64 ((rd_T62 y318 x23_2).f4)))) := ⟨by repeat (first | (with_reducible first | exact HB.out | apply below_alloc | apply pw_below_drewN | apply below_drew1 | refine below_set ?_ GE317.out | refine below_set ?_ GE323.out) | exact HB.out)⟩
             (try clear BK317)
             (try clear BK323)
             (try clear HB)
             generalize (((((w20.setCell ⟨gb323, 0, none⟩ (.int .i64 ((rd_T62 y318 x23_2).f0))).setCell ⟨gb323, 1, none⟩ (.int .i64 ((rd_T62 y318 x23_2).f1))).setCell ⟨gb323, 2, none⟩ (.int .i64 ((rd_T62 y318 x23_2).f2))).setCell ⟨gb323, 3, none⟩ (.int .i64 ((rd_T62 y318 x23_2).f3))).setCell ⟨gb323, 4, none⟩ (.int .i64 ((rd_T62 y318 x23_2).f4))) = w23 at n0_ n1_ n2_ ⊢
             have BK317 := n0_
             have BK323 := n1_
             have HB := n2_
             clear n0_ n1_ n2_
             have n0_ := Aside0.mk (blk_drew BK317.out)
             have n1_ := Aside0.mk (blk_drew BK323.out)
             have n2_ := Aside0.mk (below_drew1 HB.out)
             clear BK317
             clear BK323
             clear HB
             have BK317 := n0_
             have BK323 := n1_
             have HB := n2_
             clear n0_ n1_ n2_
             refine start_ (n := 10) (S := fun w' => w'.cell? ⟨gb323, 0, none⟩ = some (.int .i64 ((rd_T62 y318 x23_2).f0)) ∧ w'.cell? ⟨gb323, 1, none⟩ = some (.int .i64 ((rd_T62 y318 x23_2).f1)) ∧ w'.cell? ⟨gb323, 2, none⟩ = some (.int .i64 ((rd_T62 y318 x23_2).f2)) ∧ w'.cell? ⟨gb323, 3, none⟩ = some (.int .i64 ((rd_T62 y318 x23_2).f3)) ∧ w'.cell? ⟨gb323, 4, none⟩ = some (.int .i64 ((rd_T62 y318 x23_2).f4)) ∧ w'.cell? ⟨gb317, 0, none⟩ = some (.int .i64 ((rd_T62 l0 x14_1).f0)) ∧ w'.cell? ⟨gb317, 1, none⟩ = some (.int .i64 ((rd_T62 l0 x14_1).f1)) ∧ w'.cell? ⟨gb317, 2, none⟩ = some (.int .i64 ((rd_T62 l0 x14_1).f2)) ∧ w'.cell? ⟨gb317, 3, none⟩ = some (.int .i64 ((rd_T62 l0 x14_1).f3)) ∧ w'.cell? ⟨gb317, 4, none⟩ = some (.int .i64 ((rd_T62 l0 x14_1).f4))) (ds := []) #[false, false, false, false, false, false, false, false, false, false] (by kernel_rfl) rfl rfl ⟨(blk_cell BK323.out 0).trans rfl, (blk_cell BK323.out 1).trans rfl, (blk_cell BK323.out 2).trans rfl, (blk_cell BK323.out 3).trans rfl, (blk_cell BK323.out 4).trans rfl, (blk_cell BK317.out 0).trans rfl, (blk_cell BK317.out 1).trans rfl, (blk_cell BK317.out 2).trans rfl, (blk_cell BK317.out 3).trans rfl, (blk_cell BK317.out 4).trans rfl⟩ (fun hHeld => ?_); refine with_tabW impl_IsFair.tab9 impl_IsFair.bits9 (fun HT_ HW_ => ?_)
             generalize w23.drew = w24 at BK317 BK323 HB hHeld ⊢
             refine pure_ (i := 1) (N := some 28) (v := ?_) (a' := ?_) #[false, true, false, false, false, false, false, false, false, false] rfl rfl (any_of HT_.out (by kernel_rfl)) (fun _ _ _ h => h) (Or.inl ⟨by rfl, ?_⟩) ?_ ?_
             rotate_left
             ·intro w'
              go_simp
              with_reducible rfl
             rotate_left
             ·simp only [Act.put, List.setIfInBounds_toArray, List.set_cons_zero, List.set_cons_succ, i64_w, i32_w]
              rfl
             refine pure_ (i := 5) (N := some 32) (v := ?_) (a' := ?_) #[false, true, false, false, false, true, false, false, false, false] rfl rfl (any_of HT_.out (by kernel_rfl)) (fun _ _ _ h => h) (Or.inl ⟨by rfl, ?_⟩) ?_ ?_
             rotate_left
             ·intro w'
              go_simp
              with_reducible rfl
             rotate_left
             ·simp only [Act.put, List.setIfInBounds_toArray, List.set_cons_zero, List.set_cons_succ, i64_w, i32_w]
              rfl
             refine take_ (i := 0) (N := some 27) (v := ?_) (a' := ?_) #[true, true, false, false, false, true, false, false, false, false] rfl rfl (take_ofW HT_.out HW_.out (by kernel_rfl)) (fun _ _ _ h => h) (Or.inl ⟨by rfl, ?_⟩) hHeld ?_ ?_
             rotate_left
             ·rintro w' ⟨s0, s1, s2, s3, s4, s5, s6, s7, s8, s9⟩
              go_simp
              with_reducible rfl
             rotate_left
             ·simp only [Act.put, List.setIfInBounds_toArray, List.set_cons_zero, List.set_cons_succ, i64_w, i32_w]
              rfl
             refine take_ (i := 2) (N := some 29) (v := ?_) (a' := ?_) #[true, true, true, false, false, true, false, false, false, false] rfl rfl (take_ofW HT_.out HW_.out (by kernel_rfl)) (fun _ _ _ h => h) (Or.inl ⟨by rfl, ?_⟩) hHeld ?_ ?_
             rotate_left
             ·rintro w' ⟨s0, s1, s2, s3, s4, s5, s6, s7, s8, s9⟩
              go_simp
              with_reducible rfl
             rotate_left
             ·simp only [Act.put, List.setIfInBounds_toArray, List.set_cons_zero, List.set_cons_succ, i64_w, i32_w]
              rfl
             refine take_ (i := 4) (N := some 31) (v := ?_) (a' := ?_) #[true, true, true, false, true, true, false, false, false, false] rfl rfl (take_ofW HT_.out HW_.out (by kernel_rfl)) (fun _ _ _ h => h) (Or.inl ⟨by rfl, ?_⟩) hHeld ?_ ?_
             rotate_left
             ·rintro w' ⟨s0, s1, s2, s3, s4, s5, s6, s7, s8, s9⟩
              go_simp
              with_reducible rfl
             rotate_left
             ·simp only [Act.put, List.setIfInBounds_toArray, List.set_cons_zero, List.set_cons_succ, i64_w, i32_w]
              rfl
             refine take_ (i := 6) (N := some 33) (v := ?_) (a' := ?_) #[true, true, true, false, true, true, true, false, false, false] rfl rfl (take_ofW HT_.out HW_.out (by kernel_rfl)) (fun _ _ _ h => h) (Or.inl ⟨by rfl, ?_⟩) hHeld ?_ ?_
             rotate_left
             ·rintro w' ⟨s0, s1, s2, s3, s4, s5, s6, s7, s8, s9⟩
              go_simp
              with_reducible rfl
             rotate_left
             ·simp only [Act.put, List.setIfInBounds_toArray, List.set_cons_zero, List.set_cons_succ, i64_w, i32_w]
              rfl
             refine one_ (i := 3) (N := some 30) #[true, true, true, true, true, true, true, false, false, false] rfl rfl (one_of HT_.out (by kernel_rfl)) (by decide) (fun K hK => ?_)
             refine goes_ Try.func68 (by kernel_rfl) rfl #[.agg #[.int .i64 ((rd_T62 y318 x23_2).f0), .int .i64 ((rd_T62 y318 x23_2).f1), .int .i64 ((rd_T62 y318 x23_2).f2), .int .i64 ((rd_T62 y318 x23_2).f3), .int .i64 ((rd_T62 y318 x23_2).f4)], .int .i64 ((rd_T62 l0 x14_1).f2)] (by rfl) rfl rfl (by (try simp only [List.map_toArray, List.map_cons, List.map_nil]); first | done | rfl | (simp only [List.length_drop, List.length_take]; rfl)) ?_
             with_reducible refine (impl_plays.calls ((rd_T62 y318 x23_2).f0) ((rd_T62 y318 x23_2).f1) ((rd_T62 y318 x23_2).f2) ((rd_T62 y318 x23_2).f3) ((rd_T62 y318 x23_2).f4) ((rd_T62 l0 x14_1).f2) t324 _ A17.out).mono ?_
             rintro e w25 ⟨rfl, hb⟩
             refine ⟨_, rfl, ?_⟩
             have n0_ := Aside0.mk (blk_below (g := gb317) (o := .cells #[.int .i64 ((rd_T62 l0 x14_1).f0), .int .i64 ((rd_T62 l0 x14_1).f1), .int .i64 ((rd_T62 l0 x14_1).f2), .int .i64 ((rd_T62 l0 x14_1).f3), .int .i64 ((rd_T62 l0 x14_1).f4)] 62 (0, 0)) (by (with_reducible repeat (first | refine blk_drewN ?_ _ | refine blk_drew ?_ | refine blk_alloc ?_ _)); exact BK317.out) hb)
             have n1_ := Aside0.mk (blk_below (g := gb323) (o := .cells #[.int .i64 ((rd_T62 y318 x23_2).f0), .int .i64 ((rd_T62 y318 x23_2).f1), .int .i64 ((rd_T62 y318 x23_2).f2), .int .i64 ((rd_T62 y318 x23_2).f3), .int .i64 ((rd_T62 y318 x23_2).f4)] 62 (0, 0)) (by (with_reducible repeat (first | refine blk_drewN ?_ _ | refine blk_drew ?_ | refine blk_alloc ?_ _)); exact BK323.out) hb)
             have n2_ := Aside0.mk (below_step (by repeat (first | (with_reducible first | exact HB.out | apply below_alloc | apply pw_below_drewN | apply below_drew1 | refine below_set ?_ GE317.out | refine below_set ?_ GE323.out) | exact HB.out)) hb)
             clear BK317
             clear BK323
             clear HB
             have BK317 := n0_
             have BK323 := n1_
             have HB := n2_
             clear n0_ n1_ n2_
             (try clear hb)
             (try clear hb2)
             (try clear hk)
             (try clear hi)
             refine hK.out _ _ ⟨(blk_cell BK323.out 0).trans rfl, (blk_cell BK323.out 1).trans rfl, (blk_cell BK323.out 2).trans rfl, (blk_cell BK323.out 3).trans rfl, (blk_cell BK323.out 4).trans rfl, (blk_cell BK317.out 0).trans rfl, (blk_cell BK317.out 1).trans rfl, (blk_cell BK317.out 2).trans rfl, (blk_cell BK317.out 3).trans rfl, (blk_cell BK317.out 4).trans rfl⟩ (fun hHeld => ?_)
             clear hK K
             refine norm_ (a' := ?_) ?_ ?_
             rotate_left
             ·show Act.put _ (some 30) _ = _
              simp only [Act.put, List.setIfInBounds_toArray, List.set_cons_zero, List.set_cons_succ, i64_w, i32_w]
              rfl
             refine one_ (i := 7) (N := some 34) #[true, true, true, true, true, true, true, true, false, false] rfl rfl (one_of HT_.out (by kernel_rfl)) (by decide) (fun K hK => ?_)
             refine goes_ Try.func68 (by kernel_rfl) rfl #[.agg #[.int .i64 ((rd_T62 y318 x23_2).f0), .int .i64 ((rd_T62 y318 x23_2).f1), .int .i64 ((rd_T62 y318 x23_2).f2), .int .i64 ((rd_T62 y318 x23_2).f3), .int .i64 ((rd_T62 y318 x23_2).f4)], .int .i64 ((rd_T62 l0 x14_1).f3)] (by rfl) rfl rfl (by (try simp only [List.map_toArray, List.map_cons, List.map_nil]); first | done | rfl | (simp only [List.length_drop, List.length_take]; rfl)) ?_
             with_reducible refine (impl_plays.calls ((rd_T62 y318 x23_2).f0) ((rd_T62 y318 x23_2).f1) ((rd_T62 y318 x23_2).f2) ((rd_T62 y318 x23_2).f3) ((rd_T62 y318 x23_2).f4) ((rd_T62 l0 x14_1).f3) t325 _ A18.out).mono ?_
             rintro e w26 ⟨rfl, hb⟩
             refine ⟨_, rfl, ?_⟩
             have n0_ := Aside0.mk (blk_below (g := gb317) (o := .cells #[.int .i64 ((rd_T62 l0 x14_1).f0), .int .i64 ((rd_T62 l0 x14_1).f1), .int .i64 ((rd_T62 l0 x14_1).f2), .int .i64 ((rd_T62 l0 x14_1).f3), .int .i64 ((rd_T62 l0 x14_1).f4)] 62 (0, 0)) (by (with_reducible repeat (first | refine blk_drewN ?_ _ | refine blk_drew ?_ | refine blk_alloc ?_ _)); exact BK317.out) hb)
             have n1_ := Aside0.mk (blk_below (g := gb323) (o := .cells #[.int .i64 ((rd_T62 y318 x23_2).f0), .int .i64 ((rd_T62 y318 x23_2).f1), .int .i64 ((rd_T62 y318 x23_2).f2), .int .i64 ((rd_T62 y318 x23_2).f3), .int .i64 ((rd_T62 y318 x23_2).f4)] 62 (0, 0)) (by (with_reducible repeat (first | refine blk_drewN ?_ _ | refine blk_drew ?_ | refine blk_alloc ?_ _)); exact BK323.out) hb)
             have n2_ := Aside0.mk (below_step (by repeat (first | (with_reducible first | exact HB.out | apply below_alloc | apply pw_below_drewN | apply below_drew1 | refine below_set ?_ GE317.out | refine below_set ?_ GE323.out) | exact HB.out)) hb)
             clear BK317
             clear BK323
             clear HB
             have BK317 := n0_
             have BK323 := n1_
             have HB := n2_
             clear n0_ n1_ n2_
             (try clear hb)
             (try clear hb2)
             (try clear hk)
             (try clear hi)
             refine hK.out _ _ ⟨(blk_cell BK323.out 0).trans rfl, (blk_cell BK323.out 1).trans rfl, (blk_cell BK323.out 2).trans rfl, (blk_cell BK323.out 3).trans rfl, (blk_cell BK323.out 4).trans rfl, (blk_cell BK317.out 0).trans rfl, (blk_cell BK317.out 1).trans rfl, (blk_cell BK317.out 2).trans rfl, (blk_cell BK317.out 3).trans rfl, (blk_cell BK317.out 4).trans rfl⟩ (fun hHeld => ?_)
             clear hK K
             refine norm_ (a' := ?_) ?_ ?_
             rotate_left
             ·show Act.put _ (some 34) _ = _
              simp only [Act.put, List.setIfInBounds_toArray, List.set_cons_zero, List.set_cons_succ, i64_w, i32_w]
              rfl
             refine pure_ (i := 8) (N := some 7) (v := ?_) (a' := ?_) #[true, true, true, true, true, true, true, true, true, false] rfl rfl (any_of HT_.out (by kernel_rfl)) (fun _ _ _ h => h) (Or.inl ⟨by rfl, ?_⟩) ?_ ?_
             rotate_left
             ·intro w'
              go_simp
              with_reducible rfl
             rotate_left
             ·simp only [Act.put, List.setIfInBounds_toArray, List.set_cons_zero, List.set_cons_succ, i64_w, i32_w]
              rfl
             refine pure_ (i := 9) (N := some 8) (v := ?_) (a' := ?_) #[true, true, true, true, true, true, true, true, true, true] rfl rfl (any_of HT_.out (by kernel_rfl)) (fun _ _ _ h => h) (Or.inl ⟨by rfl, ?_⟩) ?_ ?_
             rotate_left
             ·intro w'
              go_simp
              with_reducible rfl
             rotate_left
             ·simp only [Act.put, List.setIfInBounds_toArray, List.set_cons_zero, List.set_cons_succ, i64_w, i32_w]
              rfl
             refine done_ (done_of HT_.out (by kernel_rfl)) ?_
             go_upto_region 10 with (fail)
             go_cut [51] (fun v51 wc => ∃ (kq : Nat) (x51_18 : Bool), v51 = .bool x51_18 ∧ Aside0 (impl_IsFair.j2 kq l0 l0 (l0.length : Int) x14_1 y318 (y318.length : Int) x23_2 x51_18 ((rd_T62 l0 x14_1).f0) ((rd_T62 l0 x14_1).f1) ((rd_T62 l0 x14_1).f2) ((rd_T62 l0 x14_1).f3) ((rd_T62 l0 x14_1).f4) = some r) ∧ Aside0 (kq ≤ k2) ∧ Aside0 (wc.heap[gb317]? = some (.cells #[.int .i64 ((rd_T62 l0 x14_1).f0), .int .i64 ((rd_T62 l0 x14_1).f1), .int .i64 ((rd_T62 l0 x14_1).f2), .int .i64 ((rd_T62 l0 x14_1).f3), .int .i64 ((rd_T62 l0 x14_1).f4)] 62 (0, 0))) ∧ Aside0 (wc.heap[gb323]? = some (.cells #[.int .i64 ((rd_T62 y318 x23_2).f0), .int .i64 ((rd_T62 y318 x23_2).f1), .int .i64 ((rd_T62 y318 x23_2).f2), .int .i64 ((rd_T62 y318 x23_2).f3), .int .i64 ((rd_T62 y318 x23_2).f4)] 62 (0, 0))) ∧ Aside0 (Below w.heap.size w wc))
             case first =>
              have H := HC19.out
              clear HC19
              by_cases c27 : t324 = true
              ·subst c27
               have H1 : (if t325 = true then (impl_IsFair.j2 k2 l0 l0 (l0.length : Int) x14_1 y318 (y318.length : Int) x23_2 true ((rd_T62 l0 x14_1).f0) ((rd_T62 l0 x14_1).f1) ((rd_T62 l0 x14_1).f2) ((rd_T62 l0 x14_1).f3) ((rd_T62 l0 x14_1).f4)) else (impl_IsFair.j2 k2 l0 l0 (l0.length : Int) x14_1 y318 (y318.length : Int) x23_2 (((rd_T62 l0 x14_1).f4) == ((rd_T62 y318 x23_2).f4)) ((rd_T62 l0 x14_1).f0) ((rd_T62 l0 x14_1).f1) ((rd_T62 l0 x14_1).f2) ((rd_T62 l0 x14_1).f3) ((rd_T62 l0 x14_1).f4))) = some r := by rw [if_pos rfl] at H; exact H
               clear H
               have H := H1
               clear H1
               by_cases c28 : t325 = true
               ·subst c28
                have H1 : (impl_IsFair.j2 k2 l0 l0 (l0.length : Int) x14_1 y318 (y318.length : Int) x23_2 true ((rd_T62 l0 x14_1).f0) ((rd_T62 l0 x14_1).f1) ((rd_T62 l0 x14_1).f2) ((rd_T62 l0 x14_1).f3) ((rd_T62 l0 x14_1).f4)) = some r := by rw [if_pos rfl] at H; exact H
                clear H
                have H := H1
                clear H1
                have H' := Aside0.mk H
                clear H
                go_wp2
                go_meet
                case rel => exact ⟨_, (true), (by first | rfl | (simp; done) | (simp [*]; done)), H', ⟨by have := HK1.out; have := HK2.out; first | omega | exact Nat.le_refl _⟩, ⟨by (with_reducible repeat (first | refine blk_drewN ?_ _ | refine blk_drew ?_ | refine blk_alloc ?_ _)); exact BK317.out⟩, ⟨by (with_reducible repeat (first | refine blk_drewN ?_ _ | refine blk_drew ?_ | refine blk_alloc ?_ _)); exact BK323.out⟩, ⟨by repeat (first | (with_reducible first | exact HB.out | apply below_alloc | apply pw_below_drewN | apply below_drew1 | refine below_set ?_ GE317.out | refine below_set ?_ GE323.out) | exact HB.out)⟩⟩
               ·replace c28 := Bool.eq_false_iff.mpr c28
                subst c28
                have H1 : (impl_IsFair.j2 k2 l0 l0 (l0.length : Int) x14_1 y318 (y318.length : Int) x23_2 (((rd_T62 l0 x14_1).f4) == ((rd_T62 y318 x23_2).f4)) ((rd_T62 l0 x14_1).f0) ((rd_T62 l0 x14_1).f1) ((rd_T62 l0 x14_1).f2) ((rd_T62 l0 x14_1).f3) ((rd_T62 l0 x14_1).f4)) = some r := by rw [if_neg (show ¬ (false = true) by decide)] at H; exact H
                clear H
                have H := H1
                clear H1
                have H' := Aside0.mk H
                clear H
                have hnb29 := NB317_323.out
                have hnc29 := NB323_317.out
                have hcz30_0 : w26.cell? ⟨gb317, 0, none⟩ = some (.int .i64 ((rd_T62 l0 x14_1).f0)) := (blk_cell BK317.out 0).trans rfl
                have hcz30_1 : w26.cell? ⟨gb317, 1, none⟩ = some (.int .i64 ((rd_T62 l0 x14_1).f1)) := (blk_cell BK317.out 1).trans rfl
                have hcz30_2 : w26.cell? ⟨gb317, 2, none⟩ = some (.int .i64 ((rd_T62 l0 x14_1).f2)) := (blk_cell BK317.out 2).trans rfl
                have hcz30_3 : w26.cell? ⟨gb317, 3, none⟩ = some (.int .i64 ((rd_T62 l0 x14_1).f3)) := (blk_cell BK317.out 3).trans rfl
                have hcz30_4 : w26.cell? ⟨gb317, 4, none⟩ = some (.int .i64 ((rd_T62 l0 x14_1).f4)) := (blk_cell BK317.out 4).trans rfl
                have hfz30_0 := blk_frozen BK317.out 0
                have hfz30_1 := blk_frozen BK317.out 1
                have hfz30_2 := blk_frozen BK317.out 2
                have hfz30_3 := blk_frozen BK317.out 3
                have hfz30_4 := blk_frozen BK317.out 4
                have hcz31_0 : w26.cell? ⟨gb323, 0, none⟩ = some (.int .i64 ((rd_T62 y318 x23_2).f0)) := (blk_cell BK323.out 0).trans rfl
                have hcz31_1 : w26.cell? ⟨gb323, 1, none⟩ = some (.int .i64 ((rd_T62 y318 x23_2).f1)) := (blk_cell BK323.out 1).trans rfl
                have hcz31_2 : w26.cell? ⟨gb323, 2, none⟩ = some (.int .i64 ((rd_T62 y318 x23_2).f2)) := (blk_cell BK323.out 2).trans rfl
                have hcz31_3 : w26.cell? ⟨gb323, 3, none⟩ = some (.int .i64 ((rd_T62 y318 x23_2).f3)) := (blk_cell BK323.out 3).trans rfl
                have hcz31_4 : w26.cell? ⟨gb323, 4, none⟩ = some (.int .i64 ((rd_T62 y318 x23_2).f4)) := (blk_cell BK323.out 4).trans rfl
                have hfz31_0 := blk_frozen BK323.out 0
                have hfz31_1 := blk_frozen BK323.out 1
                have hfz31_2 := blk_frozen BK323.out 2
                have hfz31_3 := blk_frozen BK323.out 3
                have hfz31_4 := blk_frozen BK323.out 4
                go_wp2
                go_meet
                case rel => exact ⟨_, ((((rd_T62 l0 x14_1).f4) == ((rd_T62 y318 x23_2).f4))), (by first | rfl | (simp; done) | (simp [*]; done)), H', ⟨by have := HK1.out; have := HK2.out; first | omega | exact Nat.le_refl _⟩, ⟨by (with_reducible repeat (first | refine blk_drewN ?_ _ | refine blk_drew ?_ | refine blk_alloc ?_ _)); exact BK317.out⟩, ⟨by (with_reducible repeat (first | refine blk_drewN ?_ _ | refine blk_drew ?_ | refine blk_alloc ?_ _)); exact BK323.out⟩, ⟨by repeat (first | (with_reducible first | exact HB.out | apply below_alloc | apply pw_below_drewN | apply below_drew1 | refine below_set ?_ GE317.out | refine below_set ?_ GE323.out) | exact HB.out)⟩⟩
              ·replace c27 := Bool.eq_false_iff.mpr c27
               subst c27
               have H1 : (if t325 = true then (impl_IsFair.j2 k2 l0 l0 (l0.length : Int) x14_1 y318 (y318.length : Int) x23_2 (((rd_T62 l0 x14_1).f4) == ((rd_T62 y318 x23_2).f4)) ((rd_T62 l0 x14_1).f0) ((rd_T62 l0 x14_1).f1) ((rd_T62 l0 x14_1).f2) ((rd_T62 l0 x14_1).f3) ((rd_T62 l0 x14_1).f4)) else (impl_IsFair.j2 k2 l0 l0 (l0.length : Int) x14_1 y318 (y318.length : Int) x23_2 false ((rd_T62 l0 x14_1).f0) ((rd_T62 l0 x14_1).f1) ((rd_T62 l0 x14_1).f2) ((rd_T62 l0 x14_1).f3) ((rd_T62 l0 x14_1).f4))) = some r := by rw [if_neg (show ¬ (false = true) by decide)] at H; exact H
               clear H
               have H := H1
               clear H1
               by_cases c32 : t325 = true
               ·subst c32
                have H1 : (impl_IsFair.j2 k2 l0 l0 (l0.length : Int) x14_1 y318 (y318.length : Int) x23_2 (((rd_T62 l0 x14_1).f4) == ((rd_T62 y318 x23_2).f4)) ((rd_T62 l0 x14_1).f0) ((rd_T62 l0 x14_1).f1) ((rd_T62 l0 x14_1).f2) ((rd_T62 l0 x14_1).f3) ((rd_T62 l0 x14_1).f4)) = some r := by rw [if_pos rfl] at H; exact H
                clear H
                have H := H1
                clear H1
                have H' := Aside0.mk H
                clear H
                have hnb33 := NB317_323.out
                have hnc33 := NB323_317.out
                have hcz34_0 : w26.cell? ⟨gb317, 0, none⟩ = some (.int .i64 ((rd_T62 l0 x14_1).f0)) := (blk_cell BK317.out 0).trans rfl
                have hcz34_1 : w26.cell? ⟨gb317, 1, none⟩ = some (.int .i64 ((rd_T62 l0 x14_1).f1)) := (blk_cell BK317.out 1).trans rfl
                have hcz34_2 : w26.cell? ⟨gb317, 2, none⟩ = some (.int .i64 ((rd_T62 l0 x14_1).f2)) := (blk_cell BK317.out 2).trans rfl
                have hcz34_3 : w26.cell? ⟨gb317, 3, none⟩ = some (.int .i64 ((rd_T62 l0 x14_1).f3)) := (blk_cell BK317.out 3).trans rfl
                have hcz34_4 : w26.cell? ⟨gb317, 4, none⟩ = some (.int .i64 ((rd_T62 l0 x14_1).f4)) := (blk_cell BK317.out 4).trans rfl
                have hfz34_0 := blk_frozen BK317.out 0
                have hfz34_1 := blk_frozen BK317.out 1
                have hfz34_2 := blk_frozen BK317.out 2
                have hfz34_3 := blk_frozen BK317.out 3
                have hfz34_4 := blk_frozen BK317.out 4
                have hcz35_0 : w26.cell? ⟨gb323, 0, none⟩ = some (.int .i64 ((rd_T62 y318 x23_2).f0)) := (blk_cell BK323.out 0).trans rfl
                have hcz35_1 : w26.cell? ⟨gb323, 1, none⟩ = some (.int .i64 ((rd_T62 y318 x23_2).f1)) := (blk_cell BK323.out 1).trans rfl
                have hcz35_2 : w26.cell? ⟨gb323, 2, none⟩ = some (.int .i64 ((rd_T62 y318 x23_2).f2)) := (blk_cell BK323.out 2).trans rfl
                have hcz35_3 : w26.cell? ⟨gb323, 3, none⟩ = some (.int .i64 ((rd_T62 y318 x23_2).f3)) := (blk_cell BK323.out 3).trans rfl
                have hcz35_4 : w26.cell? ⟨gb323, 4, none⟩ = some (.int .i64 ((rd_T62 y318 x23_2).f4)) := (blk_cell BK323.out 4).trans rfl
                have hfz35_0 := blk_frozen BK323.out 0
                have hfz35_1 := blk_frozen BK323.out 1
                have hfz35_2 := blk_frozen BK323.out 2
                have hfz35_3 := blk_frozen BK323.out 3
                have hfz35_4 := blk_frozen BK323.out 4
                go_wp2
                go_meet
                case rel => exact ⟨_, ((((rd_T62 l0 x14_1).f4) == ((rd_T62 y318 x23_2).f4))), (by first | rfl | (simp; done) | (simp [*]; done)), H', ⟨by have := HK1.out; have := HK2.out; first | omega | exact Nat.le_refl _⟩, ⟨by (with_reducible repeat (first | refine blk_drewN ?_ _ | refine blk_drew ?_ | refine blk_alloc ?_ _)); exact BK317.out⟩, ⟨by (with_reducible repeat (first | refine blk_drewN ?_ _ | refine blk_drew ?_ | refine blk_alloc ?_ _)); exact BK323.out⟩, ⟨by repeat (first | (with_reducible first | exact HB.out | apply below_alloc | apply pw_below_drewN | apply below_drew1 | refine below_set ?_ GE317.out | refine below_set ?_ GE323.out) | exact HB.out)⟩⟩
               ·replace c32 := Bool.eq_false_iff.mpr c32
                subst c32
                have H1 : (impl_IsFair.j2 k2 l0 l0 (l0.length : Int) x14_1 y318 (y318.length : Int) x23_2 false ((rd_T62 l0 x14_1).f0) ((rd_T62 l0 x14_1).f1) ((rd_T62 l0 x14_1).f2) ((rd_T62 l0 x14_1).f3) ((rd_T62 l0 x14_1).f4)) = some r := by rw [if_neg (show ¬ (false = true) by decide)] at H; exact H
                clear H
                have H := H1
                clear H1
                have H' := Aside0.mk H
                clear H
                go_wp2
                go_meet
                case rel => exact ⟨_, (false), (by first | rfl | (simp; done) | (simp [*]; done)), H', ⟨by have := HK1.out; have := HK2.out; first | omega | exact Nat.le_refl _⟩, ⟨by (with_reducible repeat (first | refine blk_drewN ?_ _ | refine blk_drew ?_ | refine blk_alloc ?_ _)); exact BK317.out⟩, ⟨by (with_reducible repeat (first | refine blk_drewN ?_ _ | refine blk_drew ?_ | refine blk_alloc ?_ _)); exact BK323.out⟩, ⟨by repeat (first | (with_reducible first | exact HB.out | apply below_alloc | apply pw_below_drewN | apply below_drew1 | refine below_set ?_ GE317.out | refine below_set ?_ GE323.out) | exact HB.out)⟩⟩
             case rest =>
              clear HC19
              try clear c1
              try clear q1
              try clear c2
              try clear p2
              try clear c3
              try clear p3
              try clear q3
              try clear hx3
              try clear c5
              try clear c5b0
              try clear c6
              try clear c6b0
              try clear c7
              try clear c7b0
              try clear c8
              try clear c8b0
              try clear c9
              try clear c9b0
              try clear c9b1
              try clear q13
              try clear c14
              try clear c14b0
              try clear c15
              try clear c15b0
              try clear c16
              try clear c16b0
              try clear c21
              try clear c27
              try clear c28
              try clear c29
              try clear p31
              try clear q31
              try clear hx31
              try clear c32
              try clear p32
              try clear q32
              try clear hx32
              try clear c33
              try clear hcz11_0
              try clear hcz11_1
              try clear hcz11_2
              try clear hcz11_3
              try clear hcz11_4
              try clear hcz22_0
              try clear hcz22_1
              try clear hcz22_2
              try clear hcz22_3
              try clear hcz22_4
              try clear hcz30_0
              try clear hcz30_1
              try clear hcz30_2
              try clear hcz30_3
              try clear hcz30_4
              try clear hcz31_0
              try clear hcz31_1
              try clear hcz31_2
              try clear hcz31_3
              try clear hcz31_4
              try clear hcz34_0
              try clear hcz34_1
              try clear hcz34_2
              try clear hcz34_3
              try clear hcz34_4
              try clear hcz35_0
              try clear hcz35_1
              try clear hcz35_2
              try clear hcz35_3
              try clear hcz35_4
              try clear hfz11_0
              try clear hfz11_1
              try clear hfz11_2
              try clear hfz11_3
              try clear hfz11_4
              try clear hfz22_0
              try clear hfz22_1
              try clear hfz22_2
              try clear hfz22_3
              try clear hfz22_4
              try clear hfz30_0
              try clear hfz30_1
              try clear hfz30_2
              try clear hfz30_3
              try clear hfz30_4
              try clear hfz31_0
              try clear hfz31_1
              try clear hfz31_2
              try clear hfz31_3
              try clear hfz31_4
              try clear hfz34_0
              try clear hfz34_1
              try clear hfz34_2
              try clear hfz34_3
              try clear hfz34_4
              try clear hfz35_0
              try clear hfz35_1
              try clear hfz35_2
              try clear hfz35_3
              try clear hfz35_4
              try clear hx316_0
              try clear hx316_1
              try clear hx316_2
              try clear hx316_3
              try clear hx316_4
              try clear hx322_0
              try clear hx322_1
              try clear hx322_2
              try clear hx322_3
              try clear hx322_4
              try clear p2
              try clear p3
              try clear p316
              try clear p322
              try clear q1
              try clear q13
              try clear q3
              try clear q316
              try clear q322
              obtain ⟨kq, x51_18, rfl, HA, HJ18, BK317, BK323, HB⟩ := hcut
              cases kq with
              | zero => exact absurd HA.out (by simp [impl_IsFair.j2])
              | succ kj18 =>
               have H := HA.out
               clear HA
               simp only [impl_IsFair.j2] at H
               by_cases c36 : x51_18 = true
               ·subst c36
                have H1 : (some false) = some r := by rw [if_pos rfl] at H; exact H
                clear H
                have H := H1
                clear H1
                obtain rfl := Option.some.inj H
                go_wp2
                go_ret
                exact ⟨by first | rfl | (simp [errW_none, errW_some] <;> rfl) | (simp [*, errW_none, errW_some] <;> rfl), by repeat (first | (with_reducible first | exact HB.out | apply below_alloc | apply pw_below_drewN | apply below_drew1 | refine below_set ?_ GE317.out | refine below_set ?_ GE323.out) | exact HB.out)⟩
               ·replace c36 := Bool.eq_false_iff.mpr c36
                subst c36
                have H1 : (impl_IsFair.l1 kj18 l0 l0 (l0.length : Int) x14_1 y318 (y318.length : Int) (wrap64 (x23_2 + 1)) ((rd_T62 l0 x14_1).f0) ((rd_T62 l0 x14_1).f1) ((rd_T62 l0 x14_1).f2) ((rd_T62 l0 x14_1).f3) ((rd_T62 l0 x14_1).f4)) = some r := by rw [if_neg (show ¬ (false = true) by decide)] at H; exact H
                clear H
                have H := H1
                clear H1
                have H' := Aside0.mk H
                clear H
                go_wp2
                go_roundg kj18
                case measure => have := HK1.out; have := HK2.out; have := HJ18.out; omega
                case rel => exact ⟨(wrap64 (x23_2 + 1)), (by first | rfl | (simp; done) | (simp [*]; done)), H', ⟨by have := HK1.out; have := HK2.out; have := HJ18.out; omega⟩, ⟨by (with_reducible repeat (first | refine blk_drewN ?_ _ | refine blk_drew ?_ | refine blk_alloc ?_ _)); exact BK317.out⟩, ⟨by repeat (first | (with_reducible first | exact HB.out | apply below_alloc | apply pw_below_drewN | apply below_drew1 | refine below_set ?_ GE317.out | refine below_set ?_ GE323.out) | exact HB.out)⟩⟩
            ·rw [if_neg c16] at H
             exact absurd H (by simp)
           ·rw [if_neg c15] at H
            exact absurd H (by simp)
          ·rw [if_neg c14] at H
           have c14b0 : decide (x23_2 < (y318.length : Int)) = false := decide_eq_false c14
           clear c14
           have H' := Aside0.mk H
           clear H
           go_wp2
           go_roundg k2
           case measure => have := HK1.out; have := HK2.out; omega
           case rel => exact ⟨(wrap64 (x14_1 + 1)), (by first | rfl | (simp; done) | (simp [*]; done)), H', ⟨by have := HK1.out; have := HK2.out; omega⟩, ⟨by repeat (first | (with_reducible first | exact HB.out | apply below_alloc | apply pw_below_drewN | apply below_drew1 | refine below_set ?_ GE317.out) | exact HB.out)⟩⟩
       ·rw [if_neg c9] at H
        exact absurd H (by simp)
      ·rw [if_neg c7] at H
       exact absurd H (by simp)
     ·rw [if_neg c6] at H
      exact absurd H (by simp)
    ·rw [if_neg c5] at H
     have c5b0 : decide (x14_1 < (l0.length : Int)) = false := decide_eq_false c5
     clear c5
     obtain rfl := Option.some.inj H
     go_wp2
     go_ret
     exact ⟨by first | rfl | (simp [errW_none, errW_some] <;> rfl) | (simp [*, errW_none, errW_some] <;> rfl), by repeat (first | (with_reducible first | exact HB.out | apply below_alloc | apply pw_below_drewN | apply below_drew1) | exact HB.out)⟩
 ·replace c3 := Bool.eq_false_iff.mpr c3
  subst c3
  have H1 : (some false) = some r := by rw [if_neg (show ¬ (false = true) by decide)] at H; exact H
  clear H
  have H := H1
  clear H1
  obtain rfl := Option.some.inj H
  go_enter Try.func37, Try.ntmps37
  go_wp2_with (first | ((with_reducible refine gate_callee (f := 28) rfl ?_); refine goesL_ (some 10) rfl rfl Try.func28 (by kernel_rfl) rfl #[.slice A0 l0.length c0] rfl (by (try simp only [List.map_toArray, List.map_cons, List.map_nil]); first | done | rfl | (simp only [List.length_drop, List.length_take]; rfl)) ?_; (with_reducible refine (impl_IsMovement.calls k _ _ l0 false _ ?side1 ?side2 A2.out).mono ?_); (case side1 => repeat (first | exact HR0.out | (with_reducible refine Kd.C_alloc ?_ _) | (with_reducible refine Kd.C_drewN ?_ _) | (with_reducible refine Kd.C_drew ?_))); (case side2 => exact HC0.out); rintro e w37 ⟨rfl, hb⟩; refine ⟨_, rfl, ?_⟩; have n0_ := Aside0.mk (below_step (by repeat (first | (with_reducible first | exact HB.out | apply below_alloc | apply pw_below_drewN | apply below_drew1) | exact HB.out)) hb); clear HB; have HB := n0_; clear n0_; (try clear hb); (try clear hb2); (try clear hk); (try clear hi)))
  go_ret
  exact ⟨by first | rfl | (simp [errW_none, errW_some] <;> rfl) | (simp [*, errW_none, errW_some] <;> rfl), by repeat (first | (with_reducible first | exact HB.out | apply below_alloc | apply pw_below_drewN | apply below_drew1) | exact HB.out)⟩

end Go.Proofs.Ytiaahlbaeeiipaa.PA
