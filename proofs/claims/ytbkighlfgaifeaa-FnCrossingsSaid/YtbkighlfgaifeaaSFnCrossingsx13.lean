/- Functions of FnCrossings, each as a Lean function, with the proof that the Go code comes to its answers. -/
import Derived.Test.YtbkighlfgaifeaaSFnCrossingsx0
import Derived.Test.YtbkighlfgaifeaaSFnCrossingsx12
namespace Go.Proofs.Ytbkighlfgaifeaa.QFnCrossings
open Go.RowKit Go.Proofs.YtbkighlfgaifeaaW.PrintWords Go.Proofs.YtbkighlfgaifeaaW.PrintLast Go.Proofs.YtbkighlfgaifeaaW.PrintMore
open Go.Proofs.YtbkighlfgaifeaaW.PrintWords renaming pw_below_drewN → pN, below_drew1 → p1, below_alloc → pA
open Go.Proofs.YtbkighlfgaifeaaW.PrintWords.Kd renaming R_alloc → kA, R_drewN → kN, R_drew → kD, Q_alloc → qA, Q_drewN → qN, Q_drew → qD, C_alloc → cA, C_drewN → cN, C_drew → cD
open Go.Proofs.YtbkighlfgaifeaaW.PrintWords.Aside0 renaming mk → aM
open List renaming setIfInBounds_toArray → sI, set_cons_zero → s0, set_cons_succ → sS, map_toArray → mT, length_take → lT, length_drop → lD, map_cons → mC, map_nil → mN
open Option renaming bind_eq_some_iff → oB, bind_some → oS
attribute [local go_sem] max2_int min2_int max_two min_two max_three min_three max_four min_four
set_option maxHeartbeats 8000000
set_option maxRecDepth 100000
set_option linter.unusedVariables false
set_option linter.unusedSimpArgs false
def impl_GateDepths.l0 : Nat → List Int → List (S57) → Int → Int → Int → List (S57) → List Int → Option (List Int × Bool)
 | 0, _, _, _, _, _, _, _ => none
 | k + 1, x4, x14, x15, x16, x277000, x277001, x277002 => if x16 < x15 then (if 0 ≤ x16 then (if x16 < (x14.length : Int) then (if 0 ≤ ((rd_T57 x14 x16).f1) then (if ((rd_T57 x14 x16).f1) < (x4.length : Int) then (if 0 ≤ ((rd_T57 x14 x16).f2) then (if ((rd_T57 x14 x16).f2) < (x4.length : Int) then (if x4.length < 17592186044416 then (impl_GateDepths.l0 k (x4 ++ [wrap64 (1 + (mx (rd x4 ((rd_T57 x14 x16).f1)) (rd x4 ((rd_T57 x14 x16).f2))))]) x14 x15 (wrap64 (x16 + 1)) x277000 x277001 x277002) else (none)) else (none)) else (none)) else (none)) else (none)) else (none)) else (none)) else ((some (([] : List Int) : List Int)).bind fun y288 => (if 0 ≤ x277000 then (if x277000 ≤ (x4.length : Int) then ((some (x4.drop (x277000 : Int).toNat : List Int)).bind fun y291 => (if y288.length + y291.length < 17592186044416 then (some ((y288 ++ y291), true)) else (none))) else (none)) else (none)))
def impl_GateDepths.f (k : Nat) (a0_0 : Int) (l0_1 : List (S57)) (l0_2 : List Int) : Option (List Int × Bool) := (impl_IsCircuit.f k a0_0 l0_1 l0_2).bind fun t277 => (if t277 = true then (if 0 ≤ a0_0 then (if (a0_0 : Int).toNat ≤ 35184372088832 then (impl_GateDepths.l0 k (List.replicate (a0_0 : Int).toNat 0) l0_1 (l0_1.length : Int) 0 a0_0 l0_1 l0_2) else (none)) else (none)) else (some (([] : List Int), false)))
def impl_GateDepths.T7 : Bool × List (List Nat × List Nat) := (true, [([], []), ([], []), ([], []), ([2], [2]), ([1, 3], [1, 3]), ([4], [4]), ([], []), ([], []), ([7], [7]), ([6, 8], [6, 8]), ([9], [9]), ([5, 10], [5, 10]), ([11], [11]), ([12], [12]), ([0, 13], [0, 13]), ([14, 14, 0, 1, 2, 3, 4, 5, 6, 7, 8, 9, 10, 11, 12, 13, 14], [0, 1, 6, 14])])
def impl_GateDepths.B7 : List Nat := [0, 0, 0, 4, 14, 30, 0, 0, 128, 448, 960, 2046, 4094, 8190, 16383, 32767]
theorem impl_GateDepths.tab7 : rtab .any (opsOf Try.f27 7) = impl_GateDepths.T7 := by kernel_rfl
theorem impl_GateDepths.bits7 : waitsOk impl_GateDepths.T7.2 impl_GateDepths.B7 = true := by kernel_rfl
theorem impl_GateDepths.calls (k : Nat) (a0_0 : Int) (A0_1 : Option Addr) (c0_1 : Nat) (l0_1 : List (S57)) (A0_2 : Option Addr) (c0_2 : Nat) (l0_2 : List Int) (r1 : List Int) (r2 : Bool) (w : World) (hr0_1 : Kd.C k57 w A0_1 l0_1.length l0_1) (hc0_1 : l0_1.length ≤ c0_1) (hr0_2 : Kd.C (Kd.int .i64) w A0_2 l0_2.length l0_2) (hc0_2 : l0_2.length ≤ c0_2) (h : impl_GateDepths.f k a0_0 l0_1 l0_2 = some (r1, r2)) :
  Calls Try.prog 27 #[.agg #[.int .i64 a0_0, .slice A0_1 l0_1.length c0_1, .slice A0_2 l0_2.length c0_2]] w fun e w' => ∃ v0_ : Value, e = .returned (.tuple #[v0_, .bool r2]) ∧ Kd.R (Kd.int .i64) 3 w' w.heap.size (fun _ => True) v0_ r1 ∧ Below w.heap.size w w' := by
 have hu49 := Try.underlying49
 have hu57 := Try.underlying57
 have HR0_1 := aM hr0_1
 have HC0_1 := aM hc0_1
 clear hr0_1 hc0_1
 have HR0_2 := aM hr0_2
 have HC0_2 := aM hc0_2
 clear hr0_2 hc0_2
 have HB := aM (Below.refl w.heap.size w)
 have H : ((impl_IsCircuit.f k a0_0 l0_1 l0_2).bind fun t277 => (if t277 = true then (if 0 ≤ a0_0 then (if (a0_0 : Int).toNat ≤ 35184372088832 then (impl_GateDepths.l0 k (List.replicate (a0_0 : Int).toNat 0) l0_1 (l0_1.length : Int) 0 a0_0 l0_1 l0_2) else (none)) else (none)) else (some (([] : List Int), false)))) = some (r1, r2) := h
 clear h
 replace H := oB.mp H
 obtain ⟨t277, A20, H⟩ := H
 replace H : (if t277 = true then (if 0 ≤ a0_0 then (if (a0_0 : Int).toNat ≤ 35184372088832 then (impl_GateDepths.l0 k (List.replicate (a0_0 : Int).toNat 0) l0_1 (l0_1.length : Int) 0 a0_0 l0_1 l0_2) else (none)) else (none)) else (some (([] : List Int), false))) = some (r1, r2) := H
 have A2 := aM A20
 clear A20
 by_cases c3 : t277 = true
 ·subst c3
  have H1 : (if 0 ≤ a0_0 then (if (a0_0 : Int).toNat ≤ 35184372088832 then (impl_GateDepths.l0 k (List.replicate (a0_0 : Int).toNat 0) l0_1 (l0_1.length : Int) 0 a0_0 l0_1 l0_2) else (none)) else (none)) = some (r1, r2) := by rw [if_pos rfl] at H; exact H
  clear H; have H := H1; clear H1
  by_cases c4 : 0 ≤ a0_0
  ·rw [if_pos c4] at H
   have c4b0 := eq_true c4; have c4b1 := decide_eq_true c4; clear c4
   by_cases c5 : (a0_0 : Int).toNat ≤ 35184372088832
   ·rw [if_pos c5] at H
    have c5b0 := eq_true c5; have c5b1 := decide_eq_true c5; clear c5; obtain ⟨y278, hy278⟩ : ∃ y_ : List Int, y_ = (List.replicate (a0_0 : Int).toNat 0) := ⟨_, rfl⟩; replace H : (impl_GateDepths.l0 k y278 l0_1 (l0_1.length : Int) 0 a0_0 l0_1 l0_2) = some (r1, r2) := by first | (rw [hy278]; with_reducible exact H) | (have H2_ := (oS _ _).symm.trans H; rw [hy278]; with_reducible exact H2_) | (have H2_ := (oS _ _).symm.trans H; with_reducible exact H2_) | with_reducible exact H | (rw [hy278]; exact H) | exact H
    have Ny278 := aM hy278; clear hy278; have H' := aM H; clear H
    go_enter Try.func27, Try.ntmps27
    go_wp2_with (first | ((with_reducible refine gate_dst (N := 1) rfl ?_); refine box_event ?hg (N := 1) ?hd (cs := #[.int .i64 a0_0, .slice A0_1 l0_1.length c0_1, .slice A0_2 l0_2.length c0_2]) (t := 49) ?hr ?_; (case hd => rfl); (case hg => rfl); (case hr => exact ze_); intro gb276 hg w6 hbox hb; have n_ := z (below_step zc_ hb) <| z (hbox) <| z ((by rw [hg]; exact (below_size zc_) : w.heap.size ≤ gb276)) <| z1 ((by rw [hg]; exact (below_size zc_) : w.heap.size ≤ gb276)); clear HB; obtain ⟨HB, BK276, GW276, GE276⟩ := n_; clear hb hbox hg; have hcz7_0 : w6.cell? ⟨gb276, 0, none⟩ = some (.int .i64 a0_0) := (blk_cell BK276.out 0).trans rfl; have hcz7_1 : w6.cell? ⟨gb276, 1, none⟩ = some (.slice A0_1 l0_1.length c0_1) := (blk_cell BK276.out 1).trans rfl; have hcz7_2 : w6.cell? ⟨gb276, 2, none⟩ = some (.slice A0_2 l0_2.length c0_2) := (blk_cell BK276.out 2).trans rfl; have hfz7_0 := blk_frozen BK276.out 0; have hfz7_1 := blk_frozen BK276.out 1; have hfz7_2 := blk_frozen BK276.out 2) | ((with_reducible refine gate_callee (f := 118) rfl ?_); refine goesL_ (some 8) rfl rfl Try.func118 (by kernel_rfl) rfl #[.agg #[.int .i64 a0_0, .slice A0_1 l0_1.length c0_1, .slice A0_2 l0_2.length c0_2]] rfl zd_ ?_; (with_reducible refine (impl_IsCircuit.calls k a0_0 _ _ l0_1 _ _ l0_2 true _ ?side1 ?side2 ?side3 ?side4 A2.out).mono ?_); (case side1 => exact zbg_); (case side2 => exact HC0_1.out); (case side3 => exact zbh_); (case side4 => exact HC0_2.out); rintro e w8 ⟨rfl, hb⟩; refine ⟨_, rfl, ?_⟩; have n_ := z (blk_below (zb BK276.out) hb) <| z1 (below_step zcb_ hb); clear BK276 HB; obtain ⟨BK276, HB⟩ := n_; clear hb; have hcz9_0 : w8.cell? ⟨gb276, 0, none⟩ = some (.int .i64 a0_0) := (blk_cell BK276.out 0).trans rfl; have hcz9_1 : w8.cell? ⟨gb276, 1, none⟩ = some (.slice A0_1 l0_1.length c0_1) := (blk_cell BK276.out 1).trans rfl; have hcz9_2 : w8.cell? ⟨gb276, 2, none⟩ = some (.slice A0_2 l0_2.length c0_2) := (blk_cell BK276.out 2).trans rfl; have hfz9_0 := blk_frozen BK276.out 0; have hfz9_1 := blk_frozen BK276.out 1; have hfz9_2 := blk_frozen BK276.out 2) | ((with_reducible refine gate_dst (N := 12) rfl ?_); refine Kd.R_make (Kd.int .i64) _ 3 rfl (N := 12) rfl 24 _ _ rfl a0_0 rfl rfl Try.underlying24 (.int .i64 0) 8 info3 rfl (by decide) (by omega) 0 (ok := fun _ => True) (okp := fun _ => True) rfl (fun _ hk => hk) trivial (of_decide_eq_true za_) (Nat.le_trans (Nat.mul_le_mul_right _ (of_decide_eq_true za_ : a0_0.toNat ≤ 35184372088832)) (by omega)) (Below.refl _ _) (Nat.le_refl _) ?_; intro v279 w10 ho11 hb hg_ hnew_; clear hg_ hnew_; (first | rw [← Ny278.out] at ho11 | (simp only [Int.reduceToNat] at ho11; rw [← Ny278.out] at ho11)); have n_ := z (Kd.R_lower ho11 (below_size zcb_)) <| z (blk_below (zb BK276.out) hb) <| z1 (below_step zcb_ hb); clear BK276 HB; obtain ⟨HO280, BK276, HB⟩ := n_; clear hb ho11; have hcz12_0 : w10.cell? ⟨gb276, 0, none⟩ = some (.int .i64 a0_0) := (blk_cell BK276.out 0).trans rfl; have hcz12_1 : w10.cell? ⟨gb276, 1, none⟩ = some (.slice A0_1 l0_1.length c0_1) := (blk_cell BK276.out 1).trans rfl; have hcz12_2 : w10.cell? ⟨gb276, 2, none⟩ = some (.slice A0_2 l0_2.length c0_2) := (blk_cell BK276.out 2).trans rfl; have hfz12_0 := blk_frozen BK276.out 0; have hfz12_1 := blk_frozen BK276.out 1; have hfz12_2 := blk_frozen BK276.out 2))
    go_loopg [4, 16] k (fun kq v4 v16 w' => ∃ (x4_1 : List Int) (x16_1 : Int), v16 = .int .i64 x16_1 ∧ Aside0 (impl_GateDepths.l0 kq x4_1 l0_1 (l0_1.length : Int) x16_1 a0_0 l0_1 l0_2 = some (r1, r2)) ∧ Aside0 (kq ≤ k) ∧ Aside0 (Kd.R (Kd.int .i64) 3 w' w.heap.size (fun _ => True) v4 x4_1) ∧ Aside0 (w'.heap[gb276]? = some (.cells #[.int .i64 a0_0, (.slice A0_1 l0_1.length c0_1), (.slice A0_2 l0_2.length c0_2)] 49 (0, 0))) ∧ Aside0 (Below w.heap.size w w'))
    case atStart => exact ⟨(y278), (0), zb_, H', ⟨Nat.le_refl _⟩, ⟨zr HO280.out⟩, ⟨zb BK276.out⟩, ⟨zcb_⟩⟩
    case round =>
     clear H'; (try clear c4b0); (try clear c4b1); (try clear c5b0); (try clear c5b1); (try clear hcz12_0); (try clear hcz12_1); (try clear hcz12_2); (try clear hcz7_0); (try clear hcz7_1); (try clear hcz7_2); (try clear hcz9_0); (try clear hcz9_1); (try clear hcz9_2); (try clear hfz12_0); (try clear hfz12_1); (try clear hfz12_2); (try clear hfz7_0); (try clear hfz7_1); (try clear hfz7_2); (try clear hfz9_0); (try clear hfz9_1); (try clear hfz9_2); obtain ⟨x4_1, x16_1, rfl, HA, HK1, HO_4, BK276, HB⟩ := hrel
     cases gk with
     | zero => exact absurd HA.out (by simp [impl_GateDepths.l0])
     | succ k1 =>
      have H := HA.out; clear HA
      simp only [impl_GateDepths.l0] at H
      by_cases c13 : x16_1 < (l0_1.length : Int)
      ·rw [if_pos c13] at H
       have c13b0 := decide_eq_true c13; clear c13
       by_cases c14 : 0 ≤ x16_1
       ·rw [if_pos c14] at H
        have c14b0 := decide_eq_true c14; clear c14
        by_cases c15 : x16_1 < (l0_1.length : Int)
        ·rw [if_pos c15] at H
         have c15b0 := decide_eq_true c15; clear c15
         by_cases c16 : 0 ≤ ((rd_T57 l0_1 x16_1).f1)
         ·rw [if_pos c16] at H
          have c16b0 := decide_eq_true c16; clear c16
          by_cases c17 : ((rd_T57 l0_1 x16_1).f1) < (x4_1.length : Int)
          ·rw [if_pos c17] at H
           have c17b0 := decide_eq_true c17; clear c17
           by_cases c18 : 0 ≤ ((rd_T57 l0_1 x16_1).f2)
           ·rw [if_pos c18] at H
            have c18b0 := decide_eq_true c18; clear c18
            by_cases c19 : ((rd_T57 l0_1 x16_1).f2) < (x4_1.length : Int)
            ·rw [if_pos c19] at H
             have c19b0 := decide_eq_true c19; clear c19; obtain ⟨ji20, hji20⟩ : ∃ j_ : Int, (mx (rd x4_1 ((rd_T57 l0_1 x16_1).f1)) (rd x4_1 ((rd_T57 l0_1 x16_1).f2))) = j_ := ⟨_, rfl⟩; replace H : (if x4_1.length < 17592186044416 then (impl_GateDepths.l0 k1 (x4_1 ++ [wrap64 (1 + (ji20))]) l0_1 (l0_1.length : Int) (wrap64 (x16_1 + 1)) a0_0 l0_1 l0_2) else (none)) = some (r1, r2) := by first | (rw [hji20] at H; exact H) | (simp only [hji20] at H ⊢; exact H)
             have hji20_ : (if (rd x4_1 ((rd_T57 l0_1 x16_1).f1)) < (rd x4_1 ((rd_T57 l0_1 x16_1).f2)) then (rd x4_1 ((rd_T57 l0_1 x16_1).f2)) else (rd x4_1 ((rd_T57 l0_1 x16_1).f1))) = ji20 := hji20
             by_cases c21 : x4_1.length < 17592186044416
             ·rw [if_pos c21] at H
              have LMc21 := aM c21; clear c21; obtain ⟨y285, hy285⟩ : ∃ y_ : List Int, y_ = (x4_1 ++ [wrap64 (1 + (ji20))]) := ⟨_, rfl⟩; replace H : (impl_GateDepths.l0 k1 y285 l0_1 (l0_1.length : Int) (wrap64 (x16_1 + 1)) a0_0 l0_1 l0_2) = some (r1, r2) := by first | (rw [hy285]; with_reducible exact H) | (have H2_ := (oS _ _).symm.trans H; rw [hy285]; with_reducible exact H2_) | (have H2_ := (oS _ _).symm.trans H; with_reducible exact H2_) | with_reducible exact H | (rw [hy285]; exact H) | exact H
              have Ny285 := aM hy285; clear hy285; have H' := aM H; clear H; have p281 : 0 ≤ (x16_1 : Int) := of_decide_eq_true za_; have q281 : x16_1 < (l0_1.length : Int) := of_decide_eq_true za_; obtain ⟨ad281, e281, hx281_0, hx281_1, hx281_2⟩ := at_T57 HR0_1.out x16_1 p281 q281
              cases e281
              (try (replace hx281_0 := (HB.out.cell (World.block_lt_of_cell? w _ hx281_0)).trans hx281_0)); (try (replace hx281_1 := (HB.out.cell (World.block_lt_of_cell? w _ hx281_1)).trans hx281_1)); (try (replace hx281_2 := (HB.out.cell (World.block_lt_of_cell? w _ hx281_2)).trans hx281_2)); replace p281 := eq_true p281; replace q281 := eq_true q281; (try go_wp2_with (first | ((with_reducible refine gate_dst (N := 6) rfl ?_); refine box_event ?hg (N := 6) ?hd (cs := #[.int .i64 0, .int .i64 0, .int .i64 0]) (t := 57) ?hr ?_; (case hd => rfl); (case hg => rfl); (case hr => exact ze_); intro gb282 hg w22 hbox hb; have n_ := z (Kd.R_below (zr HO_4.out) hb) <| z (blk_below (zb BK276.out) hb) <| z (below_step zcb_ hb) <| z (hbox) <| z ((by rw [hg]; exact (below_size zcb_) : w.heap.size ≤ gb282)) <| z ((by rw [hg]; exact (below_size zcb_) : w.heap.size ≤ gb282)) <| z ((by rw [hg]; exact Nat.ne_of_lt (blk_lt (zb BK276.out)) : gb276 ≠ gb282)) <| z1 ((by rw [hg]; exact Nat.ne_of_gt (blk_lt (zb BK276.out)) : gb282 ≠ gb276)); clear HO_4 BK276 HB; obtain ⟨HO_4, BK276, HB, BK282, GW282, GE282, NB276_282, NB282_276⟩ := n_; clear hb hbox hg; have hnb23 := NB282_276.out; have hnc23 := NB276_282.out; have hcz24_0 : w22.cell? ⟨gb282, 0, none⟩ = some (.int .i64 0) := (blk_cell BK282.out 0).trans rfl; have hcz24_1 : w22.cell? ⟨gb282, 1, none⟩ = some (.int .i64 0) := (blk_cell BK282.out 1).trans rfl; have hcz24_2 : w22.cell? ⟨gb282, 2, none⟩ = some (.int .i64 0) := (blk_cell BK282.out 2).trans rfl; have hfz24_0 := blk_frozen BK282.out 0; have hfz24_1 := blk_frozen BK282.out 1; have hfz24_2 := blk_frozen BK282.out 2))); have n0_ : Aside0 (Kd.R (Kd.int .i64) 3 (((w22.setCell ⟨gb282, 0, none⟩ (.int .i64 ((rd_T57 l0_1 x16_1).f0))).setCell ⟨gb282, 1, none⟩ (.int .i64 ((rd_T57 l0_1 x16_1).f1))).setCell ⟨gb282, 2, none⟩ (.int .i64 ((rd_T57 l0_1 x16_1).f2))) w.heap.size (fun _ => True) u4 x4_1) := ⟨by refine zr ?_; exact Kd.R_mono (Kd.R_far (p := ⟨gb282, 2, none⟩) (Kd.R_far (p := ⟨gb282, 1, none⟩) (Kd.R_far (p := ⟨gb282, 0, none⟩) (Kd.R_types HO_4.out BK282.out (by decide)) (fun _ hk => hk.2) (.int .i64 ((rd_T57 l0_1 x16_1).f0))) (fun _ hk => hk.2) (.int .i64 ((rd_T57 l0_1 x16_1).f1))) (fun _ hk => hk.2) (.int .i64 ((rd_T57 l0_1 x16_1).f2))) (fun _ hk => trivial)⟩; have n1_ : Aside0 ((((w22.setCell ⟨gb282, 0, none⟩ (.int .i64 ((rd_T57 l0_1 x16_1).f0))).setCell ⟨gb282, 1, none⟩ (.int .i64 ((rd_T57 l0_1 x16_1).f1))).setCell ⟨gb282, 2, none⟩ (.int .i64 ((rd_T57 l0_1 x16_1).f2))).heap[gb276]? = some (.cells #[.int .i64 a0_0, .slice (some ad281) l0_1.length c0_1, .slice A0_2 l0_2.length c0_2] 49 (0, 0))) := ⟨by refine zb ?_; refine blk_far ?_ NB276_282.out _; refine zb ?_; refine blk_far ?_ NB276_282.out _; refine zb ?_; refine blk_far ?_ NB276_282.out _; refine zb ?_; exact BK276.out⟩; have n2_ : Aside0 ((((w22.setCell ⟨gb282, 0, none⟩ (.int .i64 ((rd_T57 l0_1 x16_1).f0))).setCell ⟨gb282, 1, none⟩ (.int .i64 ((rd_T57 l0_1 x16_1).f1))).setCell ⟨gb282, 2, none⟩ (.int .i64 ((rd_T57 l0_1 x16_1).f2))).heap[gb282]? = some (.cells #[.int .i64 ((rd_T57 l0_1 x16_1).f0), .int .i64 ((rd_T57 l0_1 x16_1).f1), .int .i64 ((rd_T57 l0_1 x16_1).f2)] 57 (0, 0))) := ⟨by refine zb ?_; refine blk_put (cs := #[.int .i64 ((rd_T57 l0_1 x16_1).f0), .int .i64 ((rd_T57 l0_1 x16_1).f1), .int .i64 0]) ?_ 2 _ rfl; refine zb ?_; refine blk_put (cs := #[.int .i64 ((rd_T57 l0_1 x16_1).f0), .int .i64 0, .int .i64 0]) ?_ 1 _ rfl; refine zb ?_; refine blk_put (cs := #[.int .i64 0, .int .i64 0, .int .i64 0]) ?_ 0 _ rfl; refine zb ?_; exact BK282.out⟩; have n3_ : Aside0 (Below w.heap.size w (((w22.setCell ⟨gb282, 0, none⟩ (.int .i64 ((rd_T57 l0_1 x16_1).f0))).setCell ⟨gb282, 1, none⟩ (.int .i64 ((rd_T57 l0_1 x16_1).f1))).setCell ⟨gb282, 2, none⟩ (.int .i64 ((rd_T57 l0_1 x16_1).f2)))) := ⟨zfe_⟩; (try clear HO_4); (try clear BK276); (try clear BK282); (try clear HB); generalize (((w22.setCell ⟨gb282, 0, none⟩ (.int .i64 ((rd_T57 l0_1 x16_1).f0))).setCell ⟨gb282, 1, none⟩ (.int .i64 ((rd_T57 l0_1 x16_1).f1))).setCell ⟨gb282, 2, none⟩ (.int .i64 ((rd_T57 l0_1 x16_1).f2))) = w25 at n0_ n1_ n2_ n3_ ⊢; have HO_4 := n0_; have BK276 := n1_; have BK282 := n2_; have HB := n3_; clear n0_ n1_ n2_ n3_; have n_ := z (kD HO_4.out) <| z (blk_drew BK276.out) <| z (blk_drew BK282.out) <| z1 (p1 HB.out)
              clear HO_4 BK276 BK282 HB; obtain ⟨HO_4, BK276, BK282, HB⟩ := n_; obtain ⟨Ao27, co27, eo27⟩ := Kd.R_slice HO_4.out; (first | subst eo27 | (injection eo27 with f1_ f2_ f3_; have f4_ := f1_.symm; have f5_ := f3_.symm; clear f1_ f2_ f3_; subst f4_; subst f5_)); have p283 : 0 ≤ (((rd_T57 l0_1 x16_1).f1) : Int) := of_decide_eq_true za_; have q283 : ((rd_T57 l0_1 x16_1).f1) < (x4_1.length : Int) := of_decide_eq_true za_; obtain ⟨ad283, e283, hx283_0⟩ := Kd.at_int (Kd.R_reads' HO_4.out).2.2 ((rd_T57 l0_1 x16_1).f1) p283 q283
              cases e283
              replace p283 := eq_true p283; replace q283 := eq_true q283; have p284 : 0 ≤ (((rd_T57 l0_1 x16_1).f2) : Int) := of_decide_eq_true za_; have q284 : ((rd_T57 l0_1 x16_1).f2) < (x4_1.length : Int) := of_decide_eq_true za_; obtain ⟨ad284, e284, hx284_0⟩ := Kd.at_int (Kd.R_reads' HO_4.out).2.2 ((rd_T57 l0_1 x16_1).f2) p284 q284; obtain rfl : ad283 = ad284 := (by injection e284); replace p284 := eq_true p284; replace q284 := eq_true q284
              refine start_ (n := 16) (S := fun w' => w'.cell? ⟨gb282, 0, none⟩ = some (.int .i64 ((rd_T57 l0_1 x16_1).f0)) ∧ w'.cell? ⟨gb282, 1, none⟩ = some (.int .i64 ((rd_T57 l0_1 x16_1).f1)) ∧ w'.cell? ⟨gb282, 2, none⟩ = some (.int .i64 ((rd_T57 l0_1 x16_1).f2)) ∧ w'.cell? (ad283.add (((rd_T57 l0_1 x16_1).f1)).toNat) = some (.int .i64 (rd x4_1 ((rd_T57 l0_1 x16_1).f1))) ∧ w'.cell? (ad283.add (((rd_T57 l0_1 x16_1).f2)).toNat) = some (.int .i64 (rd x4_1 ((rd_T57 l0_1 x16_1).f2)))) (ds := [13, 14]) #[fi,fi,fi,fi,fi,fi,fi,fi,fi,fi,fi,fi,fi,fi,fi,fi] (by kernel_rfl) rfl rfl ⟨(blk_cell BK282.out 0).trans rfl, (blk_cell BK282.out 1).trans rfl, (blk_cell BK282.out 2).trans rfl, hx283_0, hx284_0⟩ (fun hHeld => ?_); refine with_tabW impl_GateDepths.tab7 impl_GateDepths.bits7 (fun HT_ HW_ => ?_)
              generalize w25.drew = w26 at HO_4 BK276 BK282 HB hx283_0 hx284_0 hHeld ⊢; refine py_ 0 20 HT_.out ?_; refine py_ 1 21 HT_.out ?_; refine py_ 2 22 HT_.out ?_; refine py_ 6 26 HT_.out ?_; refine py_ 7 27 HT_.out ?_
              refine take_ (i := 3) (N := some 23) (v := ?_) (a' := ?_) #[ti,ti,ti,ti,fi,fi,ti,ti,fi,fi,fi,fi,fi,fi,fi,fi] rfl rfl (take_ofW HT_.out HW_.out (by kernel_rfl)) (fun _ _ _ h => h) (Or.inl ⟨by rfl, ?_⟩) hHeld ?_ ?_
              rotate_left
              ·rintro w' ⟨s0, s1, s2, s3, s4⟩
               go_simp
               with_reducible rfl
              rotate_left
              ·simp only [Act.put, sI, s0, sS, i64_w, i32_w]
               rfl
              refine py_ 4 24 HT_.out ?_
              refine take_ (i := 5) (N := some 25) (v := ?_) (a' := ?_) #[ti,ti,ti,ti,ti,ti,ti,ti,fi,fi,fi,fi,fi,fi,fi,fi] rfl rfl (take_ofW HT_.out HW_.out (by kernel_rfl)) (fun _ _ _ h => h) (Or.inl ⟨by rfl, ?_⟩) hHeld ?_ ?_
              rotate_left
              ·rintro w' ⟨s0, s1, s2, s3, s4⟩
               go_simp
               with_reducible rfl
              rotate_left
              ·simp only [Act.put, sI, s0, sS, i64_w, i32_w]
               rfl
              refine take_ (i := 8) (N := some 28) (v := ?_) (a' := ?_) #[ti,ti,ti,ti,ti,ti,ti,ti,ti,fi,fi,fi,fi,fi,fi,fi] rfl rfl (take_ofW HT_.out HW_.out (by kernel_rfl)) (fun _ _ _ h => h) (Or.inl ⟨by rfl, ?_⟩) hHeld ?_ ?_
              rotate_left
              ·rintro w' ⟨s0, s1, s2, s3, s4⟩
               go_simp
               with_reducible rfl
              rotate_left
              ·simp only [Act.put, sI, s0, sS, i64_w, i32_w]
               rfl
              refine py_ 9 29 HT_.out ?_
              refine take_ (i := 10) (N := some 30) (v := ?_) (a' := ?_) #[ti,ti,ti,ti,ti,ti,ti,ti,ti,ti,ti,fi,fi,fi,fi,fi] rfl rfl (take_ofW HT_.out HW_.out (by kernel_rfl)) (fun _ _ _ h => h) (Or.inl ⟨by rfl, ?_⟩) hHeld ?_ ?_
              rotate_left
              ·rintro w' ⟨s0, s1, s2, s3, s4⟩
               go_simp
               with_reducible rfl
              rotate_left
              ·simp only [Act.put, sI, s0, sS, i64_w, i32_w]
               rfl
              refine py_ 11 31 HT_.out ?_; refine py_ 12 32 HT_.out ?_
              refine last_ (i := 13) (N := some 33) #[ti,ti,ti,ti,ti,ti,ti,ti,ti,ti,ti,ti,ti,ti,fi,fi] rfl rfl (one_of HT_.out (by kernel_rfl)) (by decide) (fun K hK => ?_)
              refine value_ (w1 := ?_) (v := ?_) (by rfl) rfl ?_ ?_
              rotate_left 2
              ·go_simp
               constructor
               ·rfl
               ·rfl
              refine hK.out _ _ ?_
              clear hK K
              refine norm_ (a' := ?_) ?_ ?_
              rotate_left
              ·show Act.put _ (some 33) _ = _
               simp only [Act.put, sI, s0, sS, i64_w, i32_w]
               rfl
              refine last_ (i := 14) (N := some 34) #[ti,ti,ti,ti,ti,ti,ti,ti,ti,ti,ti,ti,ti,ti,ti,fi] rfl rfl (one_of HT_.out (by kernel_rfl)) (by decide) (fun K hK => ?_)
              refine Kd.R_append_step (Kd.int .i64) (w0 := w) w.heap.size (by rfl) (.tmp 20) (.tmp 33) 24 3 (.int .i64 0) 8 rfl Try.underlying24 info3 rfl (by decide) (by omega) (.slice (some ad283) x4_1.length co27) x4_1 (wrap64 (1 + (ji20))) [.int .i64 (wrap64 (1 + (ji20)))] (fun _ => True) (fun _ => False) rfl rfl ?aP (fun _ hk => hk.elim) ?aF ?aO ?aB ?aS ?aL ?_
              (case aP => exact rfl)
              (case aB => exact zfe_)
              (case aF => exact zda_)
              (case aO => exact (zr HO_4.out))
              (case aS => exact (below_size zfe_))
              (case aL => have := LMc21.out; omega)
              intro v286 w28 ho hb hg hat
              rw [← Ny285.out] at ho; have n_ := z (blk_grown (g := gb276) (o := .cells #[.int .i64 a0_0, .slice (some ad281) l0_1.length c0_1, .slice A0_2 l0_2.length c0_2] 49 (0, 0)) (zb BK276.out) hg (Kd.R_ne HO_4.out BK276.out (by decide))) <| z (blk_grown (g := gb282) (o := .cells #[.int .i64 ((rd_T57 l0_1 x16_1).f0), .int .i64 ((rd_T57 l0_1 x16_1).f1), .int .i64 ((rd_T57 l0_1 x16_1).f2)] 57 (0, 0)) (zb BK282.out) hg (Kd.R_ne HO_4.out BK282.out (by decide))) <| z (hb) <| z1 (ho)
              clear BK276 BK282 HB HO_4; obtain ⟨BK276, BK282, HB, HO287⟩ := n_; clear ho hb hg hat
              refine hK.out _ _ ?_
              clear hK K
              refine norm_ (a' := ?_) ?_ ?_
              rotate_left
              ·show Act.put _ (some 34) _ = _
               simp only [Act.put, sI, s0, sS, i64_w, i32_w]
               rfl
              refine py_ 15 4 HT_.out ?_
              refine done_ (done_of HT_.out (by kernel_rfl)) ?_
              (try go_wp2)
              go_roundg k1
              case measure => have := HK1.out; omega
              case rel => exact ⟨(y285), (wrap64 (x16_1 + 1)), zb_, H', ⟨zbd_⟩, ⟨zr HO287.out⟩, ⟨zb BK276.out⟩, ⟨zfe_⟩⟩
             ·rw [if_neg c21] at H
              exact absurd H (by simp)
            ·rw [if_neg c19] at H
             exact absurd H (by simp)
           ·rw [if_neg c18] at H
            exact absurd H (by simp)
          ·rw [if_neg c17] at H
           exact absurd H (by simp)
         ·rw [if_neg c16] at H
          exact absurd H (by simp)
        ·rw [if_neg c15] at H
         exact absurd H (by simp)
       ·rw [if_neg c14] at H
        exact absurd H (by simp)
      ·rw [if_neg c13] at H
       have c13b0 := decide_eq_false c13; clear c13; obtain ⟨y288, hy288⟩ : ∃ y_ : List Int, y_ = (([] : List Int)) := ⟨_, rfl⟩; replace H : (if 0 ≤ a0_0 then (if a0_0 ≤ (x4_1.length : Int) then ((some (x4_1.drop (a0_0 : Int).toNat : List Int)).bind fun y291 => (if y288.length + y291.length < 17592186044416 then (some ((y288 ++ y291), true)) else (none))) else (none)) else (none)) = some (r1, r2) := by first | (rw [hy288]; with_reducible exact H) | (have H2_ := (oS _ _).symm.trans H; rw [hy288]; with_reducible exact H2_) | (have H2_ := (oS _ _).symm.trans H; with_reducible exact H2_) | with_reducible exact H | (rw [hy288]; exact H) | exact H
       have Ny288 := aM hy288; clear hy288
       by_cases c29 : 0 ≤ a0_0
       ·rw [if_pos c29] at H
        have c29b0 := eq_true c29; have c29b1 := decide_eq_true c29; clear c29
        by_cases c30 : a0_0 ≤ (x4_1.length : Int)
        ·rw [if_pos c30] at H
         have c30b0 := eq_true c30; have c30b1 := decide_eq_true c30; clear c30; obtain ⟨y291, hy291⟩ : ∃ y_ : List Int, y_ = (x4_1.drop (a0_0 : Int).toNat) := ⟨_, rfl⟩; replace H : (if y288.length + y291.length < 17592186044416 then (some ((y288 ++ y291), true)) else (none)) = some (r1, r2) := by first | (rw [hy291]; with_reducible exact H) | (have H2_ := (oS _ _).symm.trans H; rw [hy291]; with_reducible exact H2_) | (have H2_ := (oS _ _).symm.trans H; with_reducible exact H2_) | with_reducible exact H | (rw [hy291]; exact H) | exact H
         have Ny291 := aM hy291; clear hy291
         by_cases c31 : y288.length + y291.length < 17592186044416
         ·rw [if_pos c31] at H
          have LMc31 := aM c31; clear c31; obtain ⟨y295, hy295⟩ : ∃ y_ : List Int, y_ = (y288 ++ y291) := ⟨_, rfl⟩; replace H : (some (y295, true)) = some (r1, r2) := by first | (rw [hy295]; with_reducible exact H) | (have H2_ := (oS _ _).symm.trans H; rw [hy295]; with_reducible exact H2_) | (have H2_ := (oS _ _).symm.trans H; with_reducible exact H2_) | with_reducible exact H | (rw [hy295]; exact H) | exact H
          have Ny295 := aM hy295; clear hy295
          simp only [Option.some.injEq, Prod.mk.injEq] at H
          obtain ⟨rfl, rfl⟩ := H
          go_wp2_with (first | ((with_reducible refine gate_dst (N := 36) rfl ?_); refine Kd.R_lit (Kd.int .i64) _ 3 ?hg (N := 36) ?hd (xs := ([] : List Int)) (inner := []) (ok := fun _ => True) (okp := fun _ => True) ?hr ?hp (fun _ hk => hk) trivial (Below.refl _ _) (Nat.le_refl _) (by simp) ?_; (case hd => rfl); (case hg => rfl); (case hr => exact ze_); (case hp => exact (Reps.none _ _)); intro v289 w32 ho33 hb hg_ hnew_; clear hg_ hnew_; (first | rw [← Ny288.out] at ho33 | (simp only [Int.reduceToNat] at ho33; rw [← Ny288.out] at ho33)); have n_ := z (Kd.R_elder' (zr HO_4.out) (Kd.R_base ho33) hb) <| z (Kd.R_lower (Kd.R_new' ho33 (Kd.R_lt (zr HO_4.out))) (below_size zcb_)) <| z (blk_below (zb BK276.out) hb) <| z1 (below_step zcb_ hb); clear HO_4 BK276 HB; obtain ⟨HO_4, HO290, BK276, HB⟩ := n_; clear hb ho33; have hcz34_0 : w32.cell? ⟨gb276, 0, none⟩ = some (.int .i64 a0_0) := (blk_cell BK276.out 0).trans rfl; have hcz34_1 : w32.cell? ⟨gb276, 1, none⟩ = some (.slice A0_1 l0_1.length c0_1) := (blk_cell BK276.out 1).trans rfl; have hcz34_2 : w32.cell? ⟨gb276, 2, none⟩ = some (.slice A0_2 l0_2.length c0_2) := (blk_cell BK276.out 2).trans rfl; have hfz34_0 := blk_frozen BK276.out 0; have hfz34_1 := blk_frozen BK276.out 1; have hfz34_2 := blk_frozen BK276.out 2; obtain ⟨Ao36, co36, eo36⟩ := Kd.R_slice HO_4.out; subst eo36; have q35 : (a0_0 : Int) ≤ ((x4_1.length : Int) : Int) := of_decide_eq_true za_; obtain ⟨i035, hi035, _, hsz35, _⟩ := info_parts info3; have hroom35 : x4_1.length ≤ co36 := (Kd.R_reads' HO_4.out).2.1; have hC35 : Kd.C (Kd.int .i64) _ Ao36 x4_1.length x4_1 := (Kd.R_reads' HO_4.out).2.2; have q035 : (0 : Int) ≤ (a0_0 : Int) := of_decide_eq_true za_; have hcut35 := cut_from (P := Try.prog) 24 3 .i64 Try.underlying24 hi035 1 hsz35 Ao36 x4_1.length co36 a0_0 q035 q35; have hr35 := Kd.C_drop (m := (a0_0 : Int).toNat) (c := co36) hC35 (by omega) hroom35; obtain ⟨A35, hA35⟩ : ∃ A1, A1 = (if co36 = (a0_0 : Int).toNat then Ao36 else (Ao36 : Option Addr).map (·.add ((a0_0 : Int).toNat * 1))) := ⟨_, rfl⟩; obtain ⟨c35, hc35⟩ : ∃ c1, c1 = co36 - (a0_0 : Int).toNat := ⟨_, rfl⟩; have hy35 : y291.length = x4_1.length - (a0_0 : Int).toNat := (by rw [Ny291.out, lD] <;> omega); rw [show (x4_1).drop (a0_0 : Int).toNat = y291 from Ny291.out.symm] at hr35; replace hr35 : Kd.C (Kd.int .i64) _ A35 y291.length y291 := (by rw [hA35]; exact hr35); rw [← hy35, ← hA35, ← hc35] at hcut35; have HR294 := aM hr35; have HC294 := aM (show y291.length ≤ c35 from by rw [hy35, hc35]; exact Nat.sub_le_sub_right hroom35 _); clear hr35 hC35 hroom35 hi035 hsz35 hc35; have KY35 := aM hy35; have KA35 := aM hA35; clear hy35 hA35; have KL35 := aM (show (a0_0 : Int).toNat ≤ x4_1.length from by omega); replace q35 := eq_true q35) | ((with_reducible refine gate_builtin (b := .append) (xs := #[.tmp 36, .tmp 40]) rfl ?_); at_builtin; refine Kd.R_append_rows (Kd.int .i64) (w0 := w) w.heap.size rfl (.tmp 36) (.tmp 40) 24 3 (.int .i64 0) 8 rfl Try.underlying24 info3 rfl (by decide) (by omega) v289 y288 y291 _ _ _ (fun k_ => some k_ ≠ (.slice Ao36 x4_1.length co36 : Value).ownBlock) (fun _ => False) rfl rfl ?aO ?aR (fun _ _ h => h) (fun _ h => h.elim) ?aF ?aB ?aS ?aL ?_; (case aR => repeat (first | exact (by repeat (first | (with_reducible exact HR294.out) | (with_reducible refine cA ?_ _) | (with_reducible refine cN ?_ _) | (with_reducible refine cD ?_) | exact HR294.out)) | (with_reducible refine cA ?_ _) | (with_reducible refine cN ?_ _) | (with_reducible refine cD ?_))); (case aB => exact zcb_); (case aF => exact (fun k_ hk => Kd.fresh' (Kd.R_lt (zr HO_4.out)) k_ hk)); (case aO => exact (by refine zr ?_; exact Kd.R_mono HO290.out (fun _ hk => hk.2))); (case aS => exact (below_size zcb_)); (case aL => have := LMc31.out; omega); intro v296 w37 ho hb hg hat; rw [← Ny295.out] at ho; have n_ := z (Kd.R_after (ok := (fun _ => True)) (zr HO_4.out) hg hat) <| z (blk_grown (g := gb276) (o := .cells #[.int .i64 a0_0, .slice A0_1 l0_1.length c0_1, .slice A0_2 l0_2.length c0_2] 49 (0, 0)) (zb BK276.out) hg (Kd.R_ne HO290.out BK276.out (by decide))) <| z (hb) <| z ((show Kd.C (Kd.int .i64) w37 A35 y291.length y291 from by rw [Ny291.out, KA35.out]; exact Kd.C_drop (m := (a0_0 : Int).toNat) (c := co36) ((Kd.R_reads' (Kd.R_after (ok := (fun _ => True)) (zr HO_4.out) hg hat)).2.2) KL35.out ((Kd.R_reads' (Kd.R_after (ok := (fun _ => True)) (zr HO_4.out) hg hat)).2.1))) <| z1 (ho); clear HO_4 BK276 HB HR294 HO290; obtain ⟨HO_4, BK276, HB, HR294, HO297⟩ := n_; clear ho hb hg hat))
          go_ret2
          exact ⟨_, zg_, by refine zr ?_; exact Kd.R_mono HO297.out (fun _ hk => trivial), zcb_⟩
         ·rw [if_neg c31] at H
          exact absurd H (by simp)
        ·rw [if_neg c30] at H
         exact absurd H (by simp)
       ·rw [if_neg c29] at H
        exact absurd H (by simp)
   ·rw [if_neg c5] at H
    exact absurd H (by simp)
  ·rw [if_neg c4] at H
   exact absurd H (by simp)
 ·replace c3 := Bool.eq_false_iff.mpr c3
  subst c3; have H1 : (some (([] : List Int), false)) = some (r1, r2) := by rw [if_neg (show ¬ (false = true) by decide)] at H; exact H
  clear H; have H := H1; clear H1
  simp only [Option.some.injEq, Prod.mk.injEq] at H
  obtain ⟨rfl, rfl⟩ := H
  go_enter Try.func27, Try.ntmps27
  go_wp2_with (first | ((with_reducible refine gate_dst (N := 1) rfl ?_); refine box_event ?hg (N := 1) ?hd (cs := #[.int .i64 a0_0, .slice A0_1 l0_1.length c0_1, .slice A0_2 l0_2.length c0_2]) (t := 49) ?hr ?_; (case hd => rfl); (case hg => rfl); (case hr => exact ze_); intro gb276 hg w38 hbox hb; have n_ := z (below_step zc_ hb) <| z (hbox) <| z ((by rw [hg]; exact (below_size zc_) : w.heap.size ≤ gb276)) <| z1 ((by rw [hg]; exact (below_size zc_) : w.heap.size ≤ gb276)); clear HB; obtain ⟨HB, BK276, GW276, GE276⟩ := n_; clear hb hbox hg; have hcz39_0 : w38.cell? ⟨gb276, 0, none⟩ = some (.int .i64 a0_0) := (blk_cell BK276.out 0).trans rfl; have hcz39_1 : w38.cell? ⟨gb276, 1, none⟩ = some (.slice A0_1 l0_1.length c0_1) := (blk_cell BK276.out 1).trans rfl; have hcz39_2 : w38.cell? ⟨gb276, 2, none⟩ = some (.slice A0_2 l0_2.length c0_2) := (blk_cell BK276.out 2).trans rfl; have hfz39_0 := blk_frozen BK276.out 0; have hfz39_1 := blk_frozen BK276.out 1; have hfz39_2 := blk_frozen BK276.out 2) | ((with_reducible refine gate_callee (f := 118) rfl ?_); refine goesL_ (some 8) rfl rfl Try.func118 (by kernel_rfl) rfl #[.agg #[.int .i64 a0_0, .slice A0_1 l0_1.length c0_1, .slice A0_2 l0_2.length c0_2]] rfl zd_ ?_; (with_reducible refine (impl_IsCircuit.calls k a0_0 _ _ l0_1 _ _ l0_2 false _ ?side1 ?side2 ?side3 ?side4 A2.out).mono ?_); (case side1 => exact zbg_); (case side2 => exact HC0_1.out); (case side3 => exact zbh_); (case side4 => exact HC0_2.out); rintro e w40 ⟨rfl, hb⟩; refine ⟨_, rfl, ?_⟩; have n_ := z (blk_below (zb BK276.out) hb) <| z1 (below_step zcb_ hb); clear BK276 HB; obtain ⟨BK276, HB⟩ := n_; clear hb))
  go_ret2
  exact ⟨_, zg_, by first | exact Kd.R_nil _ _ _ _ _ | exact Kd.N_nil _ _ _ _ _ | exact Kd.V_nil _ _ _ _ _ | exact Kd.Q_nil _ _ _ _ _ | exact Kd.S_nil _ _ _ _ _, zcb_⟩
end Go.Proofs.Ytbkighlfgaifeaa.QFnCrossings
