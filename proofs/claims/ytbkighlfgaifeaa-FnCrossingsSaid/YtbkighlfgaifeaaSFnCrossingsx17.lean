/- Functions of FnCrossings, each as a Lean function, with the proof that the Go code comes to its answers. -/
import Derived.Test.YtbkighlfgaifeaaSFnCrossingsx0
import Derived.Test.YtbkighlfgaifeaaSFnCrossingsx1
namespace Go.Proofs.Ytbkighlfgaifeaa.QFnCrossings
open Go.RowKit Go.Proofs.YtbkighlfgaifeaaW.PrintWords Go.Proofs.YtbkighlfgaifeaaW.PrintLast Go.Proofs.YtbkighlfgaifeaaW.PrintMore
open Go.Proofs.YtbkighlfgaifeaaW.PrintWords renaming pw_below_drewN → pN, below_drew1 → p1, below_alloc → pA
open Go.Proofs.YtbkighlfgaifeaaW.PrintWords.Kd renaming R_alloc → kA, R_drewN → kN, R_drew → kD, Q_alloc → qA, Q_drewN → qN, Q_drew → qD, C_alloc → cA, C_drewN → cN, C_drew → cD
open Go.Proofs.YtbkighlfgaifeaaW.PrintWords.Aside0 renaming mk → aM
open List renaming setIfInBounds_toArray → sI, set_cons_zero → s0, set_cons_succ → sS, map_toArray → mT, length_take → lT, length_drop → lD, map_cons → mC, map_nil → mN
open Option renaming bind_eq_some_iff → oB, bind_some → oS
attribute [local go_sem] max2_int min2_int max_two min_two max_three min_three max_four min_four
set_option maxHeartbeats 8000000
set_option maxRecDepth 100000
set_option linter.unusedVariables false
set_option linter.unusedSimpArgs false
def spec_ciDepths.l0 : Nat → List Int → List (S57) → Int → Int → Int → List (S57) → List Int → Option (List Int)
 | 0, _, _, _, _, _, _, _ => none
 | k + 1, x3, x10, x11, x12, x364000, x364001, x364002 => if x12 < x11 then (if 0 ≤ x12 then (if x12 < (x10.length : Int) then (if 0 ≤ ((rd_T57 x10 x12).f1) then (if ((rd_T57 x10 x12).f1) < (x3.length : Int) then (if 0 ≤ ((rd_T57 x10 x12).f2) then (if ((rd_T57 x10 x12).f2) < (x3.length : Int) then ((spec_l1Most.f (rd x3 ((rd_T57 x10 x12).f1)) (rd x3 ((rd_T57 x10 x12).f2))).bind fun t371 => (if x3.length < 17592186044416 then (spec_ciDepths.l0 k (x3 ++ [wrap64 (1 + t371)]) x10 x11 (wrap64 (x12 + 1)) x364000 x364001 x364002) else (none))) else (none)) else (none)) else (none)) else (none)) else (none)) else (none)) else (if 0 ≤ x364000 then (if x364000 ≤ (x3.length : Int) then (some (x3.drop (x364000 : Int).toNat)) else (none)) else (none))
def spec_ciDepths.f (k : Nat) (a0_0 : Int) (l0_1 : List (S57)) (l0_2 : List Int) : Option (List Int) := if 0 ≤ a0_0 then (if (a0_0 : Int).toNat ≤ 35184372088832 then (spec_ciDepths.l0 k (List.replicate (a0_0 : Int).toNat 0) l0_1 (l0_1.length : Int) 0 a0_0 l0_1 l0_2) else (none)) else (none)
def spec_ciDepths.T5 : Bool × List (List Nat × List Nat) := (true, [([], []), ([], []), ([], []), ([2], [2]), ([1, 3], [1, 3]), ([4], [4]), ([], []), ([], []), ([7], [7]), ([6, 8], [6, 8]), ([9], [9]), ([5, 10], [5, 10]), ([11], [11]), ([12], [12]), ([0, 13, 11], [0, 13]), ([14, 14, 0, 1, 2, 3, 4, 5, 6, 7, 8, 9, 10, 11, 12, 13, 14], [0, 1, 6, 14])])
def spec_ciDepths.B5 : List Nat := [0, 0, 0, 4, 14, 30, 0, 0, 128, 448, 960, 2046, 4094, 8190, 16383, 32767]
theorem spec_ciDepths.tab5 : rtab .any (opsOf Try.f120 5) = spec_ciDepths.T5 := by kernel_rfl
theorem spec_ciDepths.bits5 : waitsOk spec_ciDepths.T5.2 spec_ciDepths.B5 = true := by kernel_rfl
theorem spec_ciDepths.calls (k : Nat) (a0_0 : Int) (A0_1 : Option Addr) (c0_1 : Nat) (l0_1 : List (S57)) (A0_2 : Option Addr) (c0_2 : Nat) (l0_2 : List Int) (r : List Int) (w : World) (hr0_1 : Kd.C k57 w A0_1 l0_1.length l0_1) (hc0_1 : l0_1.length ≤ c0_1) (hr0_2 : Kd.C (Kd.int .i64) w A0_2 l0_2.length l0_2) (hc0_2 : l0_2.length ≤ c0_2) (h : spec_ciDepths.f k a0_0 l0_1 l0_2 = some r) :
  Calls Try.prog 120 #[.agg #[.int .i64 a0_0, .slice A0_1 l0_1.length c0_1, .slice A0_2 l0_2.length c0_2]] w fun e w' => ∃ v0_ : Value, e = .returned (v0_) ∧ Kd.Q (Kd.int .i64) 3 w' w.heap.size (fun _ => True) v0_ r ∧ Below w.heap.size w w' := by
 have hu49 := Try.underlying49
 have hu57 := Try.underlying57
 have HR0_1 := aM hr0_1
 have HC0_1 := aM hc0_1
 clear hr0_1 hc0_1
 have HR0_2 := aM hr0_2
 have HC0_2 := aM hc0_2
 clear hr0_2 hc0_2
 have HB := aM (Below.refl w.heap.size w)
 have H : (if 0 ≤ a0_0 then (if (a0_0 : Int).toNat ≤ 35184372088832 then (spec_ciDepths.l0 k (List.replicate (a0_0 : Int).toNat 0) l0_1 (l0_1.length : Int) 0 a0_0 l0_1 l0_2) else (none)) else (none)) = some r := h
 clear h
 by_cases c2 : 0 ≤ a0_0
 ·rw [if_pos c2] at H
  have c2b0 := eq_true c2; have c2b1 := decide_eq_true c2; clear c2
  by_cases c3 : (a0_0 : Int).toNat ≤ 35184372088832
  ·rw [if_pos c3] at H
   have c3b0 := eq_true c3; have c3b1 := decide_eq_true c3; clear c3; obtain ⟨y364, hy364⟩ : ∃ y_ : List Int, y_ = (List.replicate (a0_0 : Int).toNat 0) := ⟨_, rfl⟩; replace H : (spec_ciDepths.l0 k y364 l0_1 (l0_1.length : Int) 0 a0_0 l0_1 l0_2) = some r := by first | (rw [hy364]; with_reducible exact H) | (have H2_ := (oS _ _).symm.trans H; rw [hy364]; with_reducible exact H2_) | (have H2_ := (oS _ _).symm.trans H; with_reducible exact H2_) | with_reducible exact H | (rw [hy364]; exact H) | exact H
   have Ny364 := aM hy364; clear hy364; have H' := aM H; clear H
   go_enter Try.func120, Try.ntmps120
   go_wp2_with (first | ((with_reducible refine gate_dst (N := 1) rfl ?_); refine box_event ?hg (N := 1) ?hd (cs := #[.int .i64 a0_0, .slice A0_1 l0_1.length c0_1, .slice A0_2 l0_2.length c0_2]) (t := 49) ?hr ?_; (case hd => rfl); (case hg => rfl); (case hr => exact ze_); intro gb363 hg w4 hbox hb; have n_ := z (below_step zc_ hb) <| z (hbox) <| z ((by rw [hg]; exact (below_size zc_) : w.heap.size ≤ gb363)) <| z1 ((by rw [hg]; exact (below_size zc_) : w.heap.size ≤ gb363)); clear HB; obtain ⟨HB, BK363, GW363, GE363⟩ := n_; clear hb hbox hg; have hcz5_0 : w4.cell? ⟨gb363, 0, none⟩ = some (.int .i64 a0_0) := (blk_cell BK363.out 0).trans rfl; have hcz5_1 : w4.cell? ⟨gb363, 1, none⟩ = some (.slice A0_1 l0_1.length c0_1) := (blk_cell BK363.out 1).trans rfl; have hcz5_2 : w4.cell? ⟨gb363, 2, none⟩ = some (.slice A0_2 l0_2.length c0_2) := (blk_cell BK363.out 2).trans rfl; have hfz5_0 := blk_frozen BK363.out 0; have hfz5_1 := blk_frozen BK363.out 1; have hfz5_2 := blk_frozen BK363.out 2) | ((with_reducible refine gate_dst (N := 8) rfl ?_); refine Kd.R_make (Kd.int .i64) _ 3 rfl (N := 8) rfl 24 _ _ rfl a0_0 rfl rfl Try.underlying24 (.int .i64 0) 8 info3 rfl (by decide) (by omega) 0 (ok := fun _ => True) (okp := fun _ => True) rfl (fun _ hk => hk) trivial (of_decide_eq_true za_) (Nat.le_trans (Nat.mul_le_mul_right _ (of_decide_eq_true za_ : a0_0.toNat ≤ 35184372088832)) (by omega)) (Below.refl _ _) (Nat.le_refl _) ?_; intro v365 w6 ho7 hb hg_ hnew_; clear hg_ hnew_; (first | rw [← Ny364.out] at ho7 | (simp only [Int.reduceToNat] at ho7; rw [← Ny364.out] at ho7)); have n_ := z (Kd.R_lower ho7 (below_size zde_)) <| z (blk_below (zb BK363.out) hb) <| z1 (below_step zde_ hb); clear BK363 HB; obtain ⟨HO366, BK363, HB⟩ := n_; clear hb ho7; have hcz8_0 : w6.cell? ⟨gb363, 0, none⟩ = some (.int .i64 a0_0) := (blk_cell BK363.out 0).trans rfl; have hcz8_1 : w6.cell? ⟨gb363, 1, none⟩ = some (.slice A0_1 l0_1.length c0_1) := (blk_cell BK363.out 1).trans rfl; have hcz8_2 : w6.cell? ⟨gb363, 2, none⟩ = some (.slice A0_2 l0_2.length c0_2) := (blk_cell BK363.out 2).trans rfl; have hfz8_0 := blk_frozen BK363.out 0; have hfz8_1 := blk_frozen BK363.out 1; have hfz8_2 := blk_frozen BK363.out 2))
   go_loopg [3, 12] k (fun kq v3 v12 w' => ∃ (x3_1 : List Int) (x12_1 : Int), v12 = .int .i64 x12_1 ∧ Aside0 (spec_ciDepths.l0 kq x3_1 l0_1 (l0_1.length : Int) x12_1 a0_0 l0_1 l0_2 = some r) ∧ Aside0 (kq ≤ k) ∧ Aside0 (Kd.R (Kd.int .i64) 3 w' w.heap.size (fun _ => True) v3 x3_1) ∧ Aside0 (w'.heap[gb363]? = some (.cells #[.int .i64 a0_0, (.slice A0_1 l0_1.length c0_1), (.slice A0_2 l0_2.length c0_2)] 49 (0, 0))) ∧ Aside0 (Below w.heap.size w w'))
   case atStart => exact ⟨(y364), (0), zb_, H', ⟨Nat.le_refl _⟩, ⟨zr HO366.out⟩, ⟨zb BK363.out⟩, ⟨zde_⟩⟩
   case round =>
    clear H'; (try clear c2b0); (try clear c2b1); (try clear c3b0); (try clear c3b1); (try clear hcz5_0); (try clear hcz5_1); (try clear hcz5_2); (try clear hcz8_0); (try clear hcz8_1); (try clear hcz8_2); (try clear hfz5_0); (try clear hfz5_1); (try clear hfz5_2); (try clear hfz8_0); (try clear hfz8_1); (try clear hfz8_2); obtain ⟨x3_1, x12_1, rfl, HA, HK1, HO_3, BK363, HB⟩ := hrel
    cases gk with
    | zero => exact absurd HA.out (by simp [spec_ciDepths.l0])
    | succ k1 =>
     have H := HA.out; clear HA
     simp only [spec_ciDepths.l0] at H
     by_cases c9 : x12_1 < (l0_1.length : Int)
     ·rw [if_pos c9] at H
      have c9b0 := decide_eq_true c9; clear c9
      by_cases c10 : 0 ≤ x12_1
      ·rw [if_pos c10] at H
       have c10b0 := decide_eq_true c10; clear c10
       by_cases c11 : x12_1 < (l0_1.length : Int)
       ·rw [if_pos c11] at H
        have c11b0 := decide_eq_true c11; clear c11
        by_cases c12 : 0 ≤ ((rd_T57 l0_1 x12_1).f1)
        ·rw [if_pos c12] at H
         have c12b0 := decide_eq_true c12; clear c12
         by_cases c13 : ((rd_T57 l0_1 x12_1).f1) < (x3_1.length : Int)
         ·rw [if_pos c13] at H
          have c13b0 := decide_eq_true c13; clear c13
          by_cases c14 : 0 ≤ ((rd_T57 l0_1 x12_1).f2)
          ·rw [if_pos c14] at H
           have c14b0 := decide_eq_true c14; clear c14
           by_cases c15 : ((rd_T57 l0_1 x12_1).f2) < (x3_1.length : Int)
           ·rw [if_pos c15] at H
            have c15b0 := decide_eq_true c15; clear c15; replace H := oB.mp H; obtain ⟨t371, A160, H⟩ := H; replace H : (if x3_1.length < 17592186044416 then (spec_ciDepths.l0 k1 (x3_1 ++ [wrap64 (1 + t371)]) l0_1 (l0_1.length : Int) (wrap64 (x12_1 + 1)) a0_0 l0_1 l0_2) else (none)) = some r := H; have A16 := aM A160; clear A160
            by_cases c17 : x3_1.length < 17592186044416
            ·rw [if_pos c17] at H
             have LMc17 := aM c17; clear c17; obtain ⟨y372, hy372⟩ : ∃ y_ : List Int, y_ = (x3_1 ++ [wrap64 (1 + t371)]) := ⟨_, rfl⟩; replace H : (spec_ciDepths.l0 k1 y372 l0_1 (l0_1.length : Int) (wrap64 (x12_1 + 1)) a0_0 l0_1 l0_2) = some r := by first | (rw [hy372]; with_reducible exact H) | (have H2_ := (oS _ _).symm.trans H; rw [hy372]; with_reducible exact H2_) | (have H2_ := (oS _ _).symm.trans H; with_reducible exact H2_) | with_reducible exact H | (rw [hy372]; exact H) | exact H
             have Ny372 := aM hy372; clear hy372; have H' := aM H; clear H; have p367 : 0 ≤ (x12_1 : Int) := of_decide_eq_true za_; have q367 : x12_1 < (l0_1.length : Int) := of_decide_eq_true za_; obtain ⟨ad367, e367, hx367_0, hx367_1, hx367_2⟩ := at_T57 HR0_1.out x12_1 p367 q367
             cases e367
             (try (replace hx367_0 := (HB.out.cell (World.block_lt_of_cell? w _ hx367_0)).trans hx367_0)); (try (replace hx367_1 := (HB.out.cell (World.block_lt_of_cell? w _ hx367_1)).trans hx367_1)); (try (replace hx367_2 := (HB.out.cell (World.block_lt_of_cell? w _ hx367_2)).trans hx367_2)); replace p367 := eq_true p367; replace q367 := eq_true q367; (try go_wp2_with (first | ((with_reducible refine gate_dst (N := 5) rfl ?_); refine box_event ?hg (N := 5) ?hd (cs := #[.int .i64 0, .int .i64 0, .int .i64 0]) (t := 57) ?hr ?_; (case hd => rfl); (case hg => rfl); (case hr => exact ze_); intro gb368 hg w18 hbox hb; have n_ := z (Kd.R_below (zr HO_3.out) hb) <| z (blk_below (zb BK363.out) hb) <| z (below_step zde_ hb) <| z (hbox) <| z ((by rw [hg]; exact (below_size zde_) : w.heap.size ≤ gb368)) <| z ((by rw [hg]; exact (below_size zde_) : w.heap.size ≤ gb368)) <| z ((by rw [hg]; exact Nat.ne_of_lt (blk_lt (zb BK363.out)) : gb363 ≠ gb368)) <| z1 ((by rw [hg]; exact Nat.ne_of_gt (blk_lt (zb BK363.out)) : gb368 ≠ gb363)); clear HO_3 BK363 HB; obtain ⟨HO_3, BK363, HB, BK368, GW368, GE368, NB363_368, NB368_363⟩ := n_; clear hb hbox hg; have hnb19 := NB368_363.out; have hnc19 := NB363_368.out; have hcz20_0 : w18.cell? ⟨gb368, 0, none⟩ = some (.int .i64 0) := (blk_cell BK368.out 0).trans rfl; have hcz20_1 : w18.cell? ⟨gb368, 1, none⟩ = some (.int .i64 0) := (blk_cell BK368.out 1).trans rfl; have hcz20_2 : w18.cell? ⟨gb368, 2, none⟩ = some (.int .i64 0) := (blk_cell BK368.out 2).trans rfl; have hfz20_0 := blk_frozen BK368.out 0; have hfz20_1 := blk_frozen BK368.out 1; have hfz20_2 := blk_frozen BK368.out 2))); have n0_ : Aside0 (Kd.R (Kd.int .i64) 3 (((w18.setCell ⟨gb368, 0, none⟩ (.int .i64 ((rd_T57 l0_1 x12_1).f0))).setCell ⟨gb368, 1, none⟩ (.int .i64 ((rd_T57 l0_1 x12_1).f1))).setCell ⟨gb368, 2, none⟩ (.int .i64 ((rd_T57 l0_1 x12_1).f2))) w.heap.size (fun _ => True) u3 x3_1) := ⟨by refine zr ?_; exact Kd.R_mono (Kd.R_far (p := ⟨gb368, 2, none⟩) (Kd.R_far (p := ⟨gb368, 1, none⟩) (Kd.R_far (p := ⟨gb368, 0, none⟩) (Kd.R_types HO_3.out BK368.out (by decide)) (fun _ hk => hk.2) (.int .i64 ((rd_T57 l0_1 x12_1).f0))) (fun _ hk => hk.2) (.int .i64 ((rd_T57 l0_1 x12_1).f1))) (fun _ hk => hk.2) (.int .i64 ((rd_T57 l0_1 x12_1).f2))) (fun _ hk => trivial)⟩; have n1_ : Aside0 ((((w18.setCell ⟨gb368, 0, none⟩ (.int .i64 ((rd_T57 l0_1 x12_1).f0))).setCell ⟨gb368, 1, none⟩ (.int .i64 ((rd_T57 l0_1 x12_1).f1))).setCell ⟨gb368, 2, none⟩ (.int .i64 ((rd_T57 l0_1 x12_1).f2))).heap[gb363]? = some (.cells #[.int .i64 a0_0, .slice (some ad367) l0_1.length c0_1, .slice A0_2 l0_2.length c0_2] 49 (0, 0))) := ⟨by refine zb ?_; refine blk_far ?_ NB363_368.out _; refine zb ?_; refine blk_far ?_ NB363_368.out _; refine zb ?_; refine blk_far ?_ NB363_368.out _; refine zb ?_; exact BK363.out⟩; have n2_ : Aside0 ((((w18.setCell ⟨gb368, 0, none⟩ (.int .i64 ((rd_T57 l0_1 x12_1).f0))).setCell ⟨gb368, 1, none⟩ (.int .i64 ((rd_T57 l0_1 x12_1).f1))).setCell ⟨gb368, 2, none⟩ (.int .i64 ((rd_T57 l0_1 x12_1).f2))).heap[gb368]? = some (.cells #[.int .i64 ((rd_T57 l0_1 x12_1).f0), .int .i64 ((rd_T57 l0_1 x12_1).f1), .int .i64 ((rd_T57 l0_1 x12_1).f2)] 57 (0, 0))) := ⟨by refine zb ?_; refine blk_put (cs := #[.int .i64 ((rd_T57 l0_1 x12_1).f0), .int .i64 ((rd_T57 l0_1 x12_1).f1), .int .i64 0]) ?_ 2 _ rfl; refine zb ?_; refine blk_put (cs := #[.int .i64 ((rd_T57 l0_1 x12_1).f0), .int .i64 0, .int .i64 0]) ?_ 1 _ rfl; refine zb ?_; refine blk_put (cs := #[.int .i64 0, .int .i64 0, .int .i64 0]) ?_ 0 _ rfl; refine zb ?_; exact BK368.out⟩; have n3_ : Aside0 (Below w.heap.size w (((w18.setCell ⟨gb368, 0, none⟩ (.int .i64 ((rd_T57 l0_1 x12_1).f0))).setCell ⟨gb368, 1, none⟩ (.int .i64 ((rd_T57 l0_1 x12_1).f1))).setCell ⟨gb368, 2, none⟩ (.int .i64 ((rd_T57 l0_1 x12_1).f2)))) := ⟨zfg_⟩; (try clear HO_3); (try clear BK363); (try clear BK368); (try clear HB); generalize (((w18.setCell ⟨gb368, 0, none⟩ (.int .i64 ((rd_T57 l0_1 x12_1).f0))).setCell ⟨gb368, 1, none⟩ (.int .i64 ((rd_T57 l0_1 x12_1).f1))).setCell ⟨gb368, 2, none⟩ (.int .i64 ((rd_T57 l0_1 x12_1).f2))) = w21 at n0_ n1_ n2_ n3_ ⊢; have HO_3 := n0_; have BK363 := n1_; have BK368 := n2_; have HB := n3_; clear n0_ n1_ n2_ n3_; have n_ := z (kD HO_3.out) <| z (blk_drew BK363.out) <| z (blk_drew BK368.out) <| z1 (p1 HB.out)
             clear HO_3 BK363 BK368 HB; obtain ⟨HO_3, BK363, BK368, HB⟩ := n_; obtain ⟨Ao23, co23, eo23⟩ := Kd.R_slice HO_3.out; (first | subst eo23 | (injection eo23 with f1_ f2_ f3_; have f4_ := f1_.symm; have f5_ := f3_.symm; clear f1_ f2_ f3_; subst f4_; subst f5_)); have p369 : 0 ≤ (((rd_T57 l0_1 x12_1).f1) : Int) := of_decide_eq_true za_; have q369 : ((rd_T57 l0_1 x12_1).f1) < (x3_1.length : Int) := of_decide_eq_true za_; obtain ⟨ad369, e369, hx369_0⟩ := Kd.at_int (Kd.R_reads' HO_3.out).2.2 ((rd_T57 l0_1 x12_1).f1) p369 q369
             cases e369
             replace p369 := eq_true p369; replace q369 := eq_true q369; have p370 : 0 ≤ (((rd_T57 l0_1 x12_1).f2) : Int) := of_decide_eq_true za_; have q370 : ((rd_T57 l0_1 x12_1).f2) < (x3_1.length : Int) := of_decide_eq_true za_; obtain ⟨ad370, e370, hx370_0⟩ := Kd.at_int (Kd.R_reads' HO_3.out).2.2 ((rd_T57 l0_1 x12_1).f2) p370 q370; obtain rfl : ad369 = ad370 := (by injection e370); replace p370 := eq_true p370; replace q370 := eq_true q370
             refine start_ (n := 16) (S := fun w' => w'.cell? ⟨gb368, 0, none⟩ = some (.int .i64 ((rd_T57 l0_1 x12_1).f0)) ∧ w'.cell? ⟨gb368, 1, none⟩ = some (.int .i64 ((rd_T57 l0_1 x12_1).f1)) ∧ w'.cell? ⟨gb368, 2, none⟩ = some (.int .i64 ((rd_T57 l0_1 x12_1).f2)) ∧ w'.cell? (ad369.add (((rd_T57 l0_1 x12_1).f1)).toNat) = some (.int .i64 (rd x3_1 ((rd_T57 l0_1 x12_1).f1))) ∧ w'.cell? (ad369.add (((rd_T57 l0_1 x12_1).f2)).toNat) = some (.int .i64 (rd x3_1 ((rd_T57 l0_1 x12_1).f2)))) (ds := [13, 14]) #[fi,fi,fi,fi,fi,fi,fi,fi,fi,fi,fi,fi,fi,fi,fi,fi] (by kernel_rfl) rfl rfl ⟨(blk_cell BK368.out 0).trans rfl, (blk_cell BK368.out 1).trans rfl, (blk_cell BK368.out 2).trans rfl, hx369_0, hx370_0⟩ (fun hHeld => ?_); refine with_tabW spec_ciDepths.tab5 spec_ciDepths.bits5 (fun HT_ HW_ => ?_)
             generalize w21.drew = w22 at HO_3 BK363 BK368 HB hx369_0 hx370_0 hHeld ⊢; refine py_ 0 16 HT_.out ?_; refine py_ 1 17 HT_.out ?_; refine py_ 2 18 HT_.out ?_; refine py_ 6 22 HT_.out ?_; refine py_ 7 23 HT_.out ?_
             refine take_ (i := 3) (N := some 19) (v := ?_) (a' := ?_) #[ti,ti,ti,ti,fi,fi,ti,ti,fi,fi,fi,fi,fi,fi,fi,fi] rfl rfl (take_ofW HT_.out HW_.out (by kernel_rfl)) (fun _ _ _ h => h) (Or.inl ⟨by rfl, ?_⟩) hHeld ?_ ?_
             rotate_left
             ·rintro w' ⟨s0, s1, s2, s3, s4⟩
              go_simp
              with_reducible rfl
             rotate_left
             ·simp only [Act.put, sI, s0, sS, i64_w, i32_w]
              rfl
             refine py_ 4 20 HT_.out ?_
             refine take_ (i := 5) (N := some 21) (v := ?_) (a' := ?_) #[ti,ti,ti,ti,ti,ti,ti,ti,fi,fi,fi,fi,fi,fi,fi,fi] rfl rfl (take_ofW HT_.out HW_.out (by kernel_rfl)) (fun _ _ _ h => h) (Or.inl ⟨by rfl, ?_⟩) hHeld ?_ ?_
             rotate_left
             ·rintro w' ⟨s0, s1, s2, s3, s4⟩
              go_simp
              with_reducible rfl
             rotate_left
             ·simp only [Act.put, sI, s0, sS, i64_w, i32_w]
              rfl
             refine take_ (i := 8) (N := some 24) (v := ?_) (a' := ?_) #[ti,ti,ti,ti,ti,ti,ti,ti,ti,fi,fi,fi,fi,fi,fi,fi] rfl rfl (take_ofW HT_.out HW_.out (by kernel_rfl)) (fun _ _ _ h => h) (Or.inl ⟨by rfl, ?_⟩) hHeld ?_ ?_
             rotate_left
             ·rintro w' ⟨s0, s1, s2, s3, s4⟩
              go_simp
              with_reducible rfl
             rotate_left
             ·simp only [Act.put, sI, s0, sS, i64_w, i32_w]
              rfl
             refine py_ 9 25 HT_.out ?_
             refine take_ (i := 10) (N := some 26) (v := ?_) (a' := ?_) #[ti,ti,ti,ti,ti,ti,ti,ti,ti,ti,ti,fi,fi,fi,fi,fi] rfl rfl (take_ofW HT_.out HW_.out (by kernel_rfl)) (fun _ _ _ h => h) (Or.inl ⟨by rfl, ?_⟩) hHeld ?_ ?_
             rotate_left
             ·rintro w' ⟨s0, s1, s2, s3, s4⟩
              go_simp
              with_reducible rfl
             rotate_left
             ·simp only [Act.put, sI, s0, sS, i64_w, i32_w]
              rfl
             refine one_ (i := 11) (N := some 27) #[ti,ti,ti,ti,ti,ti,ti,ti,ti,ti,ti,ti,fi,fi,fi,fi] rfl rfl (one_of HT_.out (by kernel_rfl)) (by decide) (fun K hK => ?_)
             refine goes_ Try.func106 (by kernel_rfl) rfl #[.int .i64 (rd x3_1 ((rd_T57 l0_1 x12_1).f1)), .int .i64 (rd x3_1 ((rd_T57 l0_1 x12_1).f2))] (by rfl) rfl rfl zd_ ?_
             with_reducible refine (spec_l1Most.calls (rd x3_1 ((rd_T57 l0_1 x12_1).f1)) (rd x3_1 ((rd_T57 l0_1 x12_1).f2)) t371 _ A16.out).mono ?_
             rintro e w' ⟨rfl, ⟨nd, rfl⟩⟩
             refine ⟨_, rfl, ?_⟩
             refine hK.out _ _ ⟨(blk_cell BK368.out 0).trans rfl, (blk_cell BK368.out 1).trans rfl, (blk_cell BK368.out 2).trans rfl, hHeld.2.2.2.1, hHeld.2.2.2.2⟩ (fun hHeld => ?_)
             clear hK K
             refine norm_ (a' := ?_) ?_ ?_
             rotate_left
             ·show Act.put _ (some 27) _ = _
              simp only [Act.put, sI, s0, sS, i64_w, i32_w]
              rfl
             refine py_ 12 28 HT_.out ?_
             refine last_ (i := 13) (N := some 29) #[ti,ti,ti,ti,ti,ti,ti,ti,ti,ti,ti,ti,ti,ti,fi,fi] rfl rfl (one_of HT_.out (by kernel_rfl)) (by decide) (fun K hK => ?_)
             refine value_ (w1 := ?_) (v := ?_) (by rfl) rfl ?_ ?_
             rotate_left 2
             ·go_simp
              constructor
              ·rfl
              ·rfl
             refine hK.out _ _ ?_
             clear hK K
             refine norm_ (a' := ?_) ?_ ?_
             rotate_left
             ·show Act.put _ (some 29) _ = _
              simp only [Act.put, sI, s0, sS, i64_w, i32_w]
              rfl
             refine last_ (i := 14) (N := some 30) #[ti,ti,ti,ti,ti,ti,ti,ti,ti,ti,ti,ti,ti,ti,ti,fi] rfl rfl (one_of HT_.out (by kernel_rfl)) (by decide) (fun K hK => ?_)
             refine Kd.R_append_step (Kd.int .i64) (w0 := w) w.heap.size (by rfl) (.tmp 16) (.tmp 29) 24 3 (.int .i64 0) 8 rfl Try.underlying24 info3 rfl (by decide) (by omega) (.slice (some ad369) x3_1.length co23) x3_1 (wrap64 (1 + t371)) [.int .i64 (wrap64 (1 + t371))] (fun _ => True) (fun _ => False) rfl rfl ?aP (fun _ hk => hk.elim) ?aF ?aO ?aB ?aS ?aL ?_
             (case aP => exact rfl)
             (case aB => exact zfg_)
             (case aF => exact zda_)
             (case aO => exact (zr HO_3.out))
             (case aS => exact (below_size zfg_))
             (case aL => have := LMc17.out; omega)
             intro v373 w24 ho hb hg hat
             rw [← Ny372.out] at ho; have n_ := z (blk_grown (g := gb363) (o := .cells #[.int .i64 a0_0, .slice (some ad367) l0_1.length c0_1, .slice A0_2 l0_2.length c0_2] 49 (0, 0)) (zb BK363.out) hg (Kd.R_ne HO_3.out BK363.out (by decide))) <| z (blk_grown (g := gb368) (o := .cells #[.int .i64 ((rd_T57 l0_1 x12_1).f0), .int .i64 ((rd_T57 l0_1 x12_1).f1), .int .i64 ((rd_T57 l0_1 x12_1).f2)] 57 (0, 0)) (zb BK368.out) hg (Kd.R_ne HO_3.out BK368.out (by decide))) <| z (hb) <| z1 (ho)
             clear BK363 BK368 HB HO_3; obtain ⟨BK363, BK368, HB, HO374⟩ := n_; clear ho hb hg hat
             refine hK.out _ _ ?_
             clear hK K
             refine norm_ (a' := ?_) ?_ ?_
             rotate_left
             ·show Act.put _ (some 30) _ = _
              simp only [Act.put, sI, s0, sS, i64_w, i32_w]
              rfl
             refine py_ 15 3 HT_.out ?_
             refine done_ (done_of HT_.out (by kernel_rfl)) ?_
             (try go_wp2)
             go_roundg k1
             case measure => have := HK1.out; omega
             case rel => exact ⟨(y372), (wrap64 (x12_1 + 1)), zb_, H', ⟨zbd_⟩, ⟨zr HO374.out⟩, ⟨zb BK363.out⟩, ⟨zfg_⟩⟩
            ·rw [if_neg c17] at H
             exact absurd H (by simp)
           ·rw [if_neg c15] at H
            exact absurd H (by simp)
          ·rw [if_neg c14] at H
           exact absurd H (by simp)
         ·rw [if_neg c13] at H
          exact absurd H (by simp)
        ·rw [if_neg c12] at H
         exact absurd H (by simp)
       ·rw [if_neg c11] at H
        exact absurd H (by simp)
      ·rw [if_neg c10] at H
       exact absurd H (by simp)
     ·rw [if_neg c9] at H
      have c9b0 := decide_eq_false c9; clear c9
      by_cases c25 : 0 ≤ a0_0
      ·rw [if_pos c25] at H
       have c25b0 := eq_true c25; have c25b1 := decide_eq_true c25; clear c25
       by_cases c26 : a0_0 ≤ (x3_1.length : Int)
       ·rw [if_pos c26] at H
        have c26b0 := eq_true c26; have c26b1 := decide_eq_true c26; clear c26; obtain ⟨y375, hy375⟩ : ∃ y_ : List Int, y_ = (x3_1.drop (a0_0 : Int).toNat) := ⟨_, rfl⟩; replace H : (some y375) = some r := by first | (rw [hy375]; with_reducible exact H) | (have H2_ := (oS _ _).symm.trans H; rw [hy375]; with_reducible exact H2_) | (have H2_ := (oS _ _).symm.trans H; with_reducible exact H2_) | with_reducible exact H | (rw [hy375]; exact H) | exact H
        have Ny375 := aM hy375; clear hy375; obtain rfl := Option.some.inj H; have hcz27_0 : wr.cell? ⟨gb363, 0, none⟩ = some (.int .i64 a0_0) := (blk_cell BK363.out 0).trans rfl; have hcz27_1 : wr.cell? ⟨gb363, 1, none⟩ = some (.slice A0_1 l0_1.length c0_1) := (blk_cell BK363.out 1).trans rfl; have hcz27_2 : wr.cell? ⟨gb363, 2, none⟩ = some (.slice A0_2 l0_2.length c0_2) := (blk_cell BK363.out 2).trans rfl; have hfz27_0 := blk_frozen BK363.out 0; have hfz27_1 := blk_frozen BK363.out 1; have hfz27_2 := blk_frozen BK363.out 2; obtain ⟨Ao28, co28, eo28⟩ := Kd.R_slice HO_3.out; subst eo28; have q29 : (a0_0 : Int) ≤ ((x3_1.length : Int) : Int) := of_decide_eq_true za_; obtain ⟨i029, hi029, _, hsz29, _⟩ := info_parts info3; have hcut29 := cut_from (P := Try.prog) 24 3 .i64 Try.underlying24 hi029 1 hsz29 Ao28 x3_1.length co28 a0_0 (of_decide_eq_true za_) q29; have hr29 := Kd.Q_drop (k := (a0_0 : Int).toNat) (Kd.Q_of_R HO_3.out) (by omega); obtain ⟨A29, hA29⟩ : ∃ A1, A1 = (if co28 = (a0_0 : Int).toNat then Ao28 else (Ao28 : Option Addr).map (·.add ((a0_0 : Int).toNat * 1))) := ⟨_, rfl⟩; obtain ⟨c29, hc29⟩ : ∃ c1, c1 = co28 - (a0_0 : Int).toNat := ⟨_, rfl⟩; have hy29 : y375.length = x3_1.length - (a0_0 : Int).toNat := (by rw [Ny375.out, lD]); rw [← Ny375.out] at hr29; rw [← hy29, ← hA29, ← hc29] at hcut29; replace hr29 : Kd.Q (Kd.int .i64) 3 wr w.heap.size (fun _ => True) (.slice A29 y375.length c29) y375 := (by rw [hA29, hc29, hy29]; exact hr29); have HE29 : Aside0 ((Value.slice A29 y375.length c29).ownBlock = (.slice Ao28 x3_1.length co28 : Value).ownBlock) := ⟨by rw [hA29]; split <;> (cases (Ao28 : Option Addr) <;> first | rfl | (simp only [Value.ownBlock, Option.map, Go.Addr.add]; split <;> rfl))⟩; clear hy29 hi029 hsz29 HO_3 hA29 hc29; have HO377 := aM hr29; clear hr29; replace q29 := eq_true q29
        go_wp2
        go_ret
        exact ⟨_, zg_, by refine zq ?_; exact HO377.out, zde_⟩
       ·rw [if_neg c26] at H
        exact absurd H (by simp)
      ·rw [if_neg c25] at H
       exact absurd H (by simp)
  ·rw [if_neg c3] at H
   exact absurd H (by simp)
 ·rw [if_neg c2] at H
  exact absurd H (by simp)
end Go.Proofs.Ytbkighlfgaifeaa.QFnCrossings
