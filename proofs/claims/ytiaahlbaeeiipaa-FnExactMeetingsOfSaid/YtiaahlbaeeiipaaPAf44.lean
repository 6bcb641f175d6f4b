-- printed by wip/myprint.py out of the translation (the kit's print.py, jointly for several laws); Lean checks it.
import Derived.Test.YtiaahlbaeeiipaaPAf0
import Derived.Test.YtiaahlbaeeiipaaPAf72
import Derived.Test.YtiaahlbaeeiipaaPAf67
import Derived.Test.YtiaahlbaeeiipaaPAf68
import Derived.Test.YtiaahlbaeeiipaaPAf28
namespace Go.Proofs.Ytiaahlbaeeiipaa.PA
open Go.RowKit Go.Proofs.YtiaahlbaeeiipaaW.PrintWords Go.Proofs.YtiaahlbaeeiipaaW.PrintLast Go.Proofs.YtiaahlbaeeiipaaW.PrintMore
attribute [local go_sem] max2_int min2_int max_two min_two max_three min_three max_four min_four   -- for this text's walks alone
set_option linter.unusedVariables false
set_option linter.unusedSimpArgs false

/-! ### impl_MeetingsOf: function 44 -/
/-- Is it a pair's number? -/
def impl_MeetingsOf.pr (a : Int) : Bool := decide (0 ≤ a) && decide (a ≤ 29)
theorem impl_MeetingsOf.isPair (a : Int) : impl_isPair.f a = some (impl_MeetingsOf.pr a) := by
 unfold impl_isPair.f impl_within.f impl_MeetingsOf.pr
 by_cases h : 0 ≤ a
 ·rw [if_pos h]; simp [h]
 ·rw [if_neg h]; simp [h]
def impl_MeetingsOf.pl (x : S62) (a : Int) : Bool := x.f2 == a || x.f3 == a
theorem impl_MeetingsOf.plays (x : S62) (a : Int) : impl_plays.f x.f0 x.f1 x.f2 x.f3 x.f4 a = some (impl_MeetingsOf.pl x a) := by
 unfold impl_plays.f impl_MeetingsOf.pl
 by_cases h : x.f2 = a
 ·rw [if_pos h]; simp [h]
 ·rw [if_neg h]; simp [h]
/-- What is told of a sitting. -/
def impl_MeetingsOf.of (a : Int) (x : S62) : Int := wrap64 (wrap64 (x.f2 + x.f3) - a)
def impl_MeetingsOf.L (a : Int) (l : List S62) : List Int := (l.filter fun x => impl_MeetingsOf.pl x a).map (impl_MeetingsOf.of a)
theorem impl_MeetingsOf.L_snoc (a : Int) (l : List S62) (k : Nat) (h : k < l.length) : impl_MeetingsOf.L a (l.take (k + 1)) = if impl_MeetingsOf.pl (rd_T62 l (k : Int)) a = true then impl_MeetingsOf.L a (l.take k) ++ [impl_MeetingsOf.of a (rd_T62 l (k : Int))] else impl_MeetingsOf.L a (l.take k) := by
 have hr : rd_T62 l (k : Int) = l[k] := by unfold rd_T62; rw [Int.toNat_natCast, List.getD_eq_getElem?_getD, List.getElem?_eq_getElem h]; rfl
 rw [hr, List.take_succ_eq_append_getElem h]
 unfold impl_MeetingsOf.L
 rw [List.filter_append, List.map_append]
 by_cases hp : impl_MeetingsOf.pl l[k] a = true
 ·rw [if_pos hp]; simp [List.filter_cons, hp]
 ·rw [if_neg hp]; simp [List.filter_cons, hp]
theorem impl_MeetingsOf.L_len (a : Int) (l : List S62) (k : Nat) : (impl_MeetingsOf.L a (l.take k)).length ≤ k := by
 unfold impl_MeetingsOf.L
 rw [List.length_map]
 exact Nat.le_trans (List.length_filter_le _ _) (by rw [List.length_take]; omega)
set_option maxHeartbeats 8000000 in
set_option maxRecDepth 100000 in
theorem impl_MeetingsOf.lit (B : Nat) (a : Int) (x : S62) (w : World) (hB : w.cell? ⟨B, 0, none⟩ = some (.int .i64 a)) :
  Calls Try.prog 79 #[.agg #[.int .i64 x.f0, .int .i64 x.f1, .int .i64 x.f2, .int .i64 x.f3, .int .i64 x.f4], .pointer (some ⟨B, 0, none⟩)] w fun e w' => e = .returned (.int .i64 (impl_MeetingsOf.of a x)) ∧ Below w.heap.size w w' := by
 have hu62 := Try.underlying62
 have gB : ∀ o, (w.alloc o).cell? ⟨B, 0, none⟩ = some (.int .i64 a) := fun o => pw_cell_below (below_alloc (Below.refl _ _) o) hB
 go_enter Try.func79, Try.ntmps79
 go_wp2
 go_ret
 exact ⟨rfl, below_alloc (Below.refl _ _) _⟩
set_option maxHeartbeats 8000000 in
set_option maxRecDepth 100000 in
theorem impl_MeetingsOf.ofPair (k : Nat) (A0 : Option Addr) (c0 : Nat) (l0 : List S62) (B : Nat) (a : Int) (b : Bool) (w : World) (hr0 : Kd.C k62 w A0 l0.length l0) (hc0 : l0.length ≤ c0) (hB : w.cell? ⟨B, 0, none⟩ = some (.int .i64 a)) (h : impl_IsMovement.f k l0 = some b) (hlen : l0.length < 17592186044416) :
  Calls Try.prog 78 #[.slice A0 l0.length c0, .int .i64 a, .func (.func 79) #[] #[.pointer (some ⟨B, 0, none⟩)]] w fun e w' => ∃ v : Value, e = .returned (.tuple #[v, .int .i64 (if b = true then if impl_MeetingsOf.pr a = true then 0 else 2 else 1)]) ∧ Kd.R (Kd.int .i64) 2 w' w.heap.size (fun _ => True) v (if b = true then if impl_MeetingsOf.pr a = true then impl_MeetingsOf.L a l0 else [] else []) ∧ Below w.heap.size w w' := by
 have hu62 := Try.underlying62
 have HR := Aside0.mk hr0
 have hm : l0.length ≤ 9223372036854775807 := hr0.2.1
 have HBc := Aside0.mk hB
 have HM := Aside0.mk (impl_IsMovement.calls k A0 c0 l0 b w hr0 hc0 h)
 have HP := fun W => Aside0.mk (impl_isPair.calls a (impl_MeetingsOf.pr a) W (impl_MeetingsOf.isPair a))
 clear hr0 h hB
 cases b
 ·go_enter Try.func78, Try.ntmps78
  go_wp2_with (go_at_call 28; refine HM.out.mono ?_; rintro e w' ⟨rfl, hb⟩; have HB := Aside0.mk hb; clear hb)
  go_ret2
  exact ⟨_, rfl, Kd.R_nil _ _ _ _ _, HB.out⟩
 ·generalize impl_MeetingsOf.pr a = q at HP ⊢
  cases q
  ·go_enter Try.func78, Try.ntmps78
   go_wp2_with (first | (go_at_call 28; refine HM.out.mono ?_; rintro e w' ⟨rfl, hb⟩; have HB := Aside0.mk hb; clear hb) | (go_at_call 67; refine (HP _).out.mono ?_; rintro e w' ⟨rfl, ⟨nd, rfl⟩⟩))
   go_ret2
   exact ⟨_, rfl, Kd.R_nil _ _ _ _ _, by repeat (first | exact HB.out | apply pw_below_drewN | apply below_drew1)⟩
  ·go_enter Try.func78, Try.ntmps78
   go_wp2_with (first | (go_at_call 28; refine HM.out.mono ?_; rintro e w' ⟨rfl, hb⟩; have HB := Aside0.mk hb; clear hb) | (go_at_call 67; refine (HP _).out.mono ?_; rintro e w' ⟨rfl, ⟨nd, rfl⟩⟩) | ((with_reducible refine gate_dst (N := 19) rfl ?_); refine Kd.R_lit (Kd.int .i64) _ 2 ?hg (N := 19) ?hd (xs := ([] : List Int)) (inner := []) (ok := fun _ => True) (okp := fun _ => True) ?hr ?hp (fun _ hk => hk) trivial (Below.refl _ _) (Nat.le_refl _) (by simp) ?_; (case hd => rfl); (case hg => rfl); (case hr => first | (go_simp; done) | (go_simp; rfl)); (case hp => exact (Reps.none _ _)); intro v1 w1 ho hb hg_ hnew_; clear hg_ hnew_; have n0_ := Aside0.mk (Kd.R_lower ho (below_size (by repeat (first | exact HB.out | apply pw_below_drewN | apply below_drew1)))); have n1_ := Aside0.mk (below_step (by repeat (first | exact HB.out | apply pw_below_drewN | apply below_drew1)) hb); clear HB; have HO1 := n0_; have HB := n1_; clear n0_ n1_; clear hb ho))
   clear HM HP
   go_loopw [8, 22] (fun v i wr => ∃ j : Nat, j ≤ l0.length ∧ i = .int .i64 j ∧ Aside0 (Kd.R (Kd.int .i64) 2 wr w.heap.size (fun _ => True) v (impl_MeetingsOf.L a (l0.take j))) ∧ Aside0 (Below w.heap.size w wr)) (fun _ i _ => l0.length - (intOf i).toNat)
   case atStart => exact ⟨0, Nat.zero_le _, rfl, HO1, HB⟩
   case round =>
    clear HO1 HB
    obtain ⟨j, hj, rfl, HO, HB⟩ := hrel
    by_cases hlt : j < l0.length
    ·obtain ⟨ad, e, hx0, hx1, hx2, hx3, hx4⟩ := at_T62 HR.out (j : Int) (by omega) (by omega)
     cases e
     simp only [Int.toNat_natCast] at hx0 hx1 hx2 hx3 hx4
     replace hx0 := pw_cell_below HB.out hx0
     replace hx1 := pw_cell_below HB.out hx1
     replace hx2 := pw_cell_below HB.out hx2
     replace hx3 := pw_cell_below HB.out hx3
     replace hx4 := pw_cell_below HB.out hx4
     have HS := Aside0.mk (impl_MeetingsOf.L_snoc a l0 j hlt)
     have HN := Aside0.mk (impl_MeetingsOf.L_len a l0 j)
     have HPL := fun W => Aside0.mk (impl_plays.calls (rd_T62 l0 (j : Int)).f0 (rd_T62 l0 (j : Int)).f1 (rd_T62 l0 (j : Int)).f2 (rd_T62 l0 (j : Int)).f3 (rd_T62 l0 (j : Int)).f4 a _ W (impl_MeetingsOf.plays (rd_T62 l0 (j : Int)) a))
     obtain ⟨q, hq⟩ : ∃ q, impl_MeetingsOf.pl (rd_T62 l0 (j : Int)) a = q := ⟨_, rfl⟩
     rw [hq] at HS HPL
     clear hq
     cases q
     ·go_wp2_with (go_at_call 68; refine (HPL _).out.mono ?_; rintro e w' ⟨rfl, hb⟩; have HO2 := Aside0.mk (Kd.R_below (Kd.R_alloc HO.out _) hb); have HB2 := Aside0.mk (below_step (below_alloc HB.out _) hb); clear hb)
      go_roundw
      case rel => exact ⟨j + 1, by omega, by go_num, ⟨by rw [HS.out]; simpa using HO2.out⟩, HB2⟩
      case measure => simp [intOf]; omega
     ·go_wp2_with (first | (go_at_call 68; refine (HPL _).out.mono ?_; rintro e w' ⟨rfl, hb⟩; have HO2 := Aside0.mk (Kd.R_below (Kd.R_alloc HO.out _) hb); have HB2 := Aside0.mk (below_step (below_alloc HB.out _) hb); have G0 := Aside0.mk (pw_cell_below hb (show World.cell? _ ⟨wr.heap.size, 0, none⟩ = some (.int .i64 (rd_T62 l0 (j : Int)).f0) by simp)); have G1 := Aside0.mk (pw_cell_below hb (show World.cell? _ ⟨wr.heap.size, 1, none⟩ = some (.int .i64 (rd_T62 l0 (j : Int)).f1) by simp)); have G2 := Aside0.mk (pw_cell_below hb (show World.cell? _ ⟨wr.heap.size, 2, none⟩ = some (.int .i64 (rd_T62 l0 (j : Int)).f2) by simp)); have G3 := Aside0.mk (pw_cell_below hb (show World.cell? _ ⟨wr.heap.size, 3, none⟩ = some (.int .i64 (rd_T62 l0 (j : Int)).f3) by simp)); have G4 := Aside0.mk (pw_cell_below hb (show World.cell? _ ⟨wr.heap.size, 4, none⟩ = some (.int .i64 (rd_T62 l0 (j : Int)).f4) by simp)); clear hb; have g0 := G0.out; have g1 := G1.out; have g2 := G2.out; have g3 := G3.out; have g4 := G4.out) | (go_at_call 79; refine (impl_MeetingsOf.lit B a _ _ (pw_cell_below HB2.out HBc.out)).mono ?_; rintro e w3 ⟨rfl, hb⟩; have HO3 := Aside0.mk (Kd.R_below HO2.out hb); have HB3 := Aside0.mk (below_step HB2.out hb); clear hb) | ((with_reducible refine gate_builtin (b := .append) (xs := #[.tmp 29, .tmp 33]) rfl ?_); at_builtin; refine Kd.R_append (Kd.int .i64) (w0 := w) w.heap.size rfl (.tmp 29) (.tmp 33) 22 2 (.int .i64 0) 8 rfl Try.underlying22 info2 rfl (by decide) (by omega) _ (impl_MeetingsOf.L a (l0.take j)) (impl_MeetingsOf.of a (rd_T62 l0 (j : Int))) [.int .i64 (impl_MeetingsOf.of a (rd_T62 l0 (j : Int)))] (fun _ => True) (fun _ => False) rfl rfl ?aP (fun _ hk => hk.elim) ?aF ?aO ?aB ?aS ?aL ?_; (case aP => exact rfl); (case aB => exact HB3.out); (case aF => exact (fun _ _ => trivial)); (case aO => exact HO3.out); (case aS => exact (below_size HB3.out)); (case aL => have := HN.out; omega); intro v476 w9 ho hb hg hat; have HB4 := Aside0.mk hb; have HO4 := Aside0.mk ho; clear ho hb hg hat))
      go_roundw
      case rel => exact ⟨j + 1, by omega, by go_num, ⟨by rw [HS.out]; simpa using HO4.out⟩, HB4⟩
      case measure => simp [intOf]; omega
    ·go_wp2
     go_ret2
     refine ⟨_, rfl, ?_, HB.out⟩
     have h := HO.out
     rw [List.take_of_length_le (by omega)] at h
     simpa using h
def impl_MeetingsOf.f (k : Nat) (l0 : List S62) (a : Int) : Option (List Int × Int) := (impl_IsMovement.f k l0).bind fun b => if l0.length < 17592186044416 then some (if b = true then if impl_MeetingsOf.pr a = true then impl_MeetingsOf.L a l0 else [] else [], if b = true then if impl_MeetingsOf.pr a = true then 0 else 2 else 1) else none
theorem impl_MeetingsOf.mono : ∀ a0 a1 k, LeO (impl_MeetingsOf.f k a0 a1) (impl_MeetingsOf.f (k + 1) a0 a1) := fun a0 a1 k => LeO.bind (impl_IsMovement.mono a0 k) (fun _ => LeO.refl _)
set_option maxHeartbeats 8000000 in
set_option maxRecDepth 100000 in
theorem impl_MeetingsOf.calls (k : Nat) (A0 : Option Addr) (c0 : Nat) (l0 : List S62) (a1 : Int) (r1 : List Int) (r2 : Int) (w : World) (hr0 : Kd.C k62 w A0 l0.length l0) (hc0 : l0.length ≤ c0) (h : impl_MeetingsOf.f k l0 a1 = some (r1, r2)) :
  Calls Try.prog 44 #[.slice A0 l0.length c0, .int .i64 a1] w fun e w' => ∃ v0_ : Value, e = .returned (.tuple #[v0_, .int .i64 r2]) ∧ Kd.R (Kd.int .i64) 2 w' w.heap.size (fun _ => True) v0_ r1 ∧ Below w.heap.size w w' := by
 obtain ⟨b, hb, h2⟩ := Option.bind_eq_some_iff.1 h
 clear h
 split at h2
 ·rename_i hlen
  obtain ⟨rfl, rfl⟩ := Prod.mk.inj (Option.some.inj h2)
  clear h2
  have HO := Aside0.mk (impl_MeetingsOf.ofPair k A0 c0 l0 w.heap.size a1 b (w.alloc (.cells #[.int .i64 a1] 2)) (Kd.C_below hr0 (below_alloc (Below.refl _ _) _)) hc0 (by simp) hb hlen)
  clear hr0 hb
  generalize (if b = true then if impl_MeetingsOf.pr a1 = true then impl_MeetingsOf.L a1 l0 else [] else []) = R at HO ⊢
  generalize (if b = true then if impl_MeetingsOf.pr a1 = true then (0 : Int) else 2 else 1) = E at HO ⊢
  go_enter Try.func44, Try.ntmps44
  go_wp2_with (go_at_call 78; refine HO.out.mono ?_; rintro e w' ⟨v, rfl, hr, hb⟩; have HR := Aside0.mk (Kd.R_lower hr (below_size (below_alloc (Below.refl _ _) _))); have HB := Aside0.mk (below_step (below_alloc (Below.refl _ _) _) hb); clear hr hb)
  go_ret2
  exact ⟨_, rfl, HR.out, HB.out⟩
 ·exact absurd h2 (by simp)


end Go.Proofs.Ytiaahlbaeeiipaa.PA
