/- Functions of FnGates, each as a Lean function, with the proof that the Go code comes to its answers. -/
import Derived.Test.YtbkighlfgaifeaaSFnGatesx0
import Derived.Test.YtbkighlfgaifeaaSFnGatesx3
namespace Go.Proofs.Ytbkighlfgaifeaa.QFnGates
open Go.RowKit Go.Proofs.YtbkighlfgaifeaaW.PrintWords Go.Proofs.YtbkighlfgaifeaaW.PrintLast Go.Proofs.YtbkighlfgaifeaaW.PrintMore
open Go.Proofs.YtbkighlfgaifeaaW.PrintWords renaming pw_below_drewN → pN, below_drew1 → p1, below_alloc → pA
open Go.Proofs.YtbkighlfgaifeaaW.PrintWords.Kd renaming R_alloc → kA, R_drewN → kN, R_drew → kD, Q_alloc → qA, Q_drewN → qN, Q_drew → qD, C_alloc → cA, C_drewN → cN, C_drew → cD
open Go.Proofs.YtbkighlfgaifeaaW.PrintWords.Aside0 renaming mk → aM
open List renaming setIfInBounds_toArray → sI, set_cons_zero → s0, set_cons_succ → sS, map_toArray → mT, length_take → lT, length_drop → lD, map_cons → mC, map_nil → mN
open Option renaming bind_eq_some_iff → oB, bind_some → oS
attribute [local go_sem] max2_int min2_int max_two min_two max_three min_three max_four min_four
set_option maxHeartbeats 8000000
set_option maxRecDepth 100000
set_option linter.unusedVariables false
set_option linter.unusedSimpArgs false
def impl_GateDepths.l0 : Nat → List Int → List (S57) → Int → Int → Int → List (S57) → List Int → Option (List Int × Bool)
 | 0, _, _, _, _, _, _, _ => none
 | k + 1, x4, x14, x15, x16, x139000, x139001, x139002 => if x16 < x15 then (if 0 ≤ x16 then (if x16 < (x14.length : Int) then (if 0 ≤ ((rd_T57 x14 x16).f1) then (if ((rd_T57 x14 x16).f1) < (x4.length : Int) then (if 0 ≤ ((rd_T57 x14 x16).f2) then (if ((rd_T57 x14 x16).f2) < (x4.length : Int) then (if x4.length < 17592186044416 then (impl_GateDepths.l0 k (x4 ++ [wrap64 (1 + (mx (rd x4 ((rd_T57 x14 x16).f1)) (rd x4 ((rd_T57 x14 x16).f2))))]) x14 x15 (wrap64 (x16 + 1)) x139000 x139001 x139002) else (none)) else (none)) else (none)) else (none)) else (none)) else (none)) else (none)) else ((some (([] : List Int) : List Int)).bind fun y150 => (if 0 ≤ x139000 then (if x139000 ≤ (x4.length : Int) then ((some (x4.drop (x139000 : Int).toNat : List Int)).bind fun y153 => (if y150.length + y153.length < 17592186044416 then (some ((y150 ++ y153), true)) else (none))) else (none)) else (none)))
def impl_GateDepths.f (k : Nat) (a0_0 : Int) (l0_1 : List (S57)) (l0_2 : List Int) : Option (List Int × Bool) := (impl_IsCircuit.f k a0_0 l0_1 l0_2).bind fun t139 => (if t139 = true then (if 0 ≤ a0_0 then (if (a0_0 : Int).toNat ≤ 35184372088832 then (impl_GateDepths.l0 k (List.replicate (a0_0 : Int).toNat 0) l0_1 (l0_1.length : Int) 0 a0_0 l0_1 l0_2) else (none)) else (none)) else (some (([] : List Int), false)))
def impl_GateDepths.T7 : Bool × List (List Nat × List Nat) := (true, [([], []), ([], []), ([], []), ([2], [2]), ([1, 3], [1, 3]), ([4], [4]), ([], []), ([], []), ([7], [7]), ([6, 8], [6, 8]), ([9], [9]), ([5, 10], [5, 10]), ([11], [11]), ([12], [12]), ([0, 13], [0, 13]), ([14, 14, 0, 1, 2, 3, 4, 5, 6, 7, 8, 9, 10, 11, 12, 13, 14], [0, 1, 6, 14])])
def impl_GateDepths.B7 : List Nat := [0, 0, 0, 4, 14, 30, 0, 0, 128, 448, 960, 2046, 4094, 8190, 16383, 32767]
theorem impl_GateDepths.tab7 : rtab .any (opsOf Try.f27 7) = impl_GateDepths.T7 := by kernel_rfl
theorem impl_GateDepths.bits7 : waitsOk impl_GateDepths.T7.2 impl_GateDepths.B7 = true := by kernel_rfl
theorem impl_GateDepths.calls (k : Nat) (a0_0 : Int) (A0_1 : Option Addr) (c0_1 : Nat) (l0_1 : List (S57)) (A0_2 : Option Addr) (c0_2 : Nat) (l0_2 : List Int) (r1 : List Int) (r2 : Bool) (w : World) (hr0_1 : Kd.C k57 w A0_1 l0_1.length l0_1) (hc0_1 : l0_1.length ≤ c0_1) (hr0_2 : Kd.C (Kd.int .i64) w A0_2 l0_2.length l0_2) (hc0_2 : l0_2.length ≤ c0_2) (h : impl_GateDepths.f k a0_0 l0_1 l0_2 = some (r1, r2)) :
  Calls Try.prog 27 #[.agg #[.int .i64 a0_0, .slice A0_1 l0_1.length c0_1, .slice A0_2 l0_2.length c0_2]] w fun e w' => ∃ v0_ : Value, e = .returned (.tuple #[v0_, .bool r2]) ∧ Kd.R (Kd.int .i64) 3 w' w.heap.size (fun _ => True) v0_ r1 ∧ Below w.heap.size w w' := by
 have hu49 := Try.underlying49
 have hu57 := Try.underlying57
 have HR0_1 := aM hr0_1
 have HC0_1 := aM hc0_1
 clear hr0_1 hc0_1
 have HR0_2 := aM hr0_2
 have HC0_2 := aM hc0_2
 clear hr0_2 hc0_2
 have HB := aM (Below.refl w.heap.size w)
 have H : ((impl_IsCircuit.f k a0_0 l0_1 l0_2).bind fun t139 => (if t139 = true then (if 0 ≤ a0_0 then (if (a0_0 : Int).toNat ≤ 35184372088832 then (impl_GateDepths.l0 k (List.replicate (a0_0 : Int).toNat 0) l0_1 (l0_1.length : Int) 0 a0_0 l0_1 l0_2) else (none)) else (none)) else (some (([] : List Int), false)))) = some (r1, r2) := h
 clear h
 replace H := oB.mp H
 obtain ⟨t139, A20, H⟩ := H
 replace H : (if t139 = true then (if 0 ≤ a0_0 then (if (a0_0 : Int).toNat ≤ 35184372088832 then (impl_GateDepths.l0 k (List.replicate (a0_0 : Int).toNat 0) l0_1 (l0_1.length : Int) 0 a0_0 l0_1 l0_2) else (none)) else (none)) else (some (([] : List Int), false))) = some (r1, r2) := H
 have A2 := aM A20
 clear A20
 by_cases c3 : t139 = true
 ·subst c3
  have H1 : (if 0 ≤ a0_0 then (if (a0_0 : Int).toNat ≤ 35184372088832 then (impl_GateDepths.l0 k (List.replicate (a0_0 : Int).toNat 0) l0_1 (l0_1.length : Int) 0 a0_0 l0_1 l0_2) else (none)) else (none)) = some (r1, r2) := by rw [if_pos rfl] at H; exact H
  clear H; have H := H1; clear H1
  by_cases c4 : 0 ≤ a0_0
  ·rw [if_pos c4] at H
   have c4b0 := eq_true c4; have c4b1 := decide_eq_true c4; clear c4
   by_cases c5 : (a0_0 : Int).toNat ≤ 35184372088832
   ·rw [if_pos c5] at H
    have c5b0 := eq_true c5; have c5b1 := decide_eq_true c5; clear c5; obtain ⟨y140, hy140⟩ : ∃ y_ : List Int, y_ = (List.replicate (a0_0 : Int).toNat 0) := ⟨_, rfl⟩; replace H : (impl_GateDepths.l0 k y140 l0_1 (l0_1.length : Int) 0 a0_0 l0_1 l0_2) = some (r1, r2) := by first | (rw [hy140]; with_reducible exact H) | (have H2_ := (oS _ _).symm.trans H; rw [hy140]; with_reducible exact H2_) | (have H2_ := (oS _ _).symm.trans H; with_reducible exact H2_) | with_reducible exact H | (rw [hy140]; exact H) | exact H
    have Ny140 := aM hy140; clear hy140; have H' := aM H; clear H
    go_enter Try.func27, Try.ntmps27
    go_wp2_with (first | ((with_reducible refine gate_dst (N := 1) rfl ?_); refine box_event ?hg (N := 1) ?hd (cs := #[.int .i64 a0_0, .slice A0_1 l0_1.length c0_1, .slice A0_2 l0_2.length c0_2]) (t := 49) ?hr ?_; (case hd => rfl); (case hg => rfl); (case hr => exact zc_); intro gb138 hg w6 hbox hb; have n_ := z (below_step zb_ hb) <| z (hbox) <| z ((by rw [hg]; exact (below_size zb_) : w.heap.size ≤ gb138)) <| z1 ((by rw [hg]; exact (below_size zb_) : w.heap.size ≤ gb138)); clear HB; obtain ⟨HB, BK138, GW138, GE138⟩ := n_; clear hb hbox hg; have hcz7_0 : w6.cell? ⟨gb138, 0, none⟩ = some (.int .i64 a0_0) := (blk_cell BK138.out 0).trans rfl; have hcz7_1 : w6.cell? ⟨gb138, 1, none⟩ = some (.slice A0_1 l0_1.length c0_1) := (blk_cell BK138.out 1).trans rfl; have hcz7_2 : w6.cell? ⟨gb138, 2, none⟩ = some (.slice A0_2 l0_2.length c0_2) := (blk_cell BK138.out 2).trans rfl; have hfz7_0 := blk_frozen BK138.out 0; have hfz7_1 := blk_frozen BK138.out 1; have hfz7_2 := blk_frozen BK138.out 2) | ((with_reducible refine gate_callee (f := 118) rfl ?_); refine goesL_ (some 8) rfl rfl Try.func118 (by kernel_rfl) rfl #[.agg #[.int .i64 a0_0, .slice A0_1 l0_1.length c0_1, .slice A0_2 l0_2.length c0_2]] rfl ze_ ?_; (with_reducible refine (impl_IsCircuit.calls k a0_0 _ _ l0_1 _ _ l0_2 true _ ?side1 ?side2 ?side3 ?side4 A2.out).mono ?_); (case side1 => exact zg_); (case side2 => exact HC0_1.out); (case side3 => exact zj_); (case side4 => exact HC0_2.out); rintro e w8 ⟨rfl, hb⟩; refine ⟨_, rfl, ?_⟩; have n_ := z (blk_below (zb BK138.out) hb) <| z1 (below_step zcj_ hb); clear BK138 HB; obtain ⟨BK138, HB⟩ := n_; clear hb; have hcz9_0 : w8.cell? ⟨gb138, 0, none⟩ = some (.int .i64 a0_0) := (blk_cell BK138.out 0).trans rfl; have hcz9_1 : w8.cell? ⟨gb138, 1, none⟩ = some (.slice A0_1 l0_1.length c0_1) := (blk_cell BK138.out 1).trans rfl; have hcz9_2 : w8.cell? ⟨gb138, 2, none⟩ = some (.slice A0_2 l0_2.length c0_2) := (blk_cell BK138.out 2).trans rfl; have hfz9_0 := blk_frozen BK138.out 0; have hfz9_1 := blk_frozen BK138.out 1; have hfz9_2 := blk_frozen BK138.out 2) | ((with_reducible refine gate_dst (N := 12) rfl ?_); refine Kd.R_make (Kd.int .i64) _ 3 rfl (N := 12) rfl 24 _ _ rfl a0_0 rfl rfl Try.underlying24 (.int .i64 0) 8 info3 rfl (by decide) (by omega) 0 (ok := fun _ => True) (okp := fun _ => True) rfl (fun _ hk => hk) trivial (of_decide_eq_true za_) (Nat.le_trans (Nat.mul_le_mul_right _ (of_decide_eq_true za_ : a0_0.toNat ≤ 35184372088832)) (by omega)) (Below.refl _ _) (Nat.le_refl _) ?_; intro v141 w10 ho11 hb hg_ hnew_; clear hg_ hnew_; (first | rw [← Ny140.out] at ho11 | (simp only [Int.reduceToNat] at ho11; rw [← Ny140.out] at ho11)); have n_ := z (Kd.R_lower ho11 (below_size zcj_)) <| z (blk_below (zb BK138.out) hb) <| z1 (below_step zcj_ hb); clear BK138 HB; obtain ⟨HO142, BK138, HB⟩ := n_; clear hb ho11; have hcz12_0 : w10.cell? ⟨gb138, 0, none⟩ = some (.int .i64 a0_0) := (blk_cell BK138.out 0).trans rfl; have hcz12_1 : w10.cell? ⟨gb138, 1, none⟩ = some (.slice A0_1 l0_1.length c0_1) := (blk_cell BK138.out 1).trans rfl; have hcz12_2 : w10.cell? ⟨gb138, 2, none⟩ = some (.slice A0_2 l0_2.length c0_2) := (blk_cell BK138.out 2).trans rfl; have hfz12_0 := blk_frozen BK138.out 0; have hfz12_1 := blk_frozen BK138.out 1; have hfz12_2 := blk_frozen BK138.out 2))
    go_loopg [4, 16] k (fun kq v4 v16 w' => ∃ (x4_1 : List Int) (x16_1 : Int), v16 = .int .i64 x16_1 ∧ Aside0 (impl_GateDepths.l0 kq x4_1 l0_1 (l0_1.length : Int) x16_1 a0_0 l0_1 l0_2 = some (r1, r2)) ∧ Aside0 (kq ≤ k) ∧ Aside0 (Kd.R (Kd.int .i64) 3 w' w.heap.size (fun _ => True) v4 x4_1) ∧ Aside0 (w'.heap[gb138]? = some (.cells #[.int .i64 a0_0, (.slice A0_1 l0_1.length c0_1), (.slice A0_2 l0_2.length c0_2)] 49 (0, 0))) ∧ Aside0 (Below w.heap.size w w'))
    case atStart => exact ⟨(y140), (0), zd_, H', ⟨Nat.le_refl _⟩, ⟨zr HO142.out⟩, ⟨zb BK138.out⟩, ⟨zcj_⟩⟩
    case round =>
     clear H'; (try clear c4b0); (try clear c4b1); (try clear c5b0); (try clear c5b1); (try clear hcz12_0); (try clear hcz12_1); (try clear hcz12_2); (try clear hcz7_0); (try clear hcz7_1); (try clear hcz7_2); (try clear hcz9_0); (try clear hcz9_1); (try clear hcz9_2); (try clear hfz12_0); (try clear hfz12_1); (try clear hfz12_2); (try clear hfz7_0); (try clear hfz7_1); (try clear hfz7_2); (try clear hfz9_0); (try clear hfz9_1); (try clear hfz9_2); obtain ⟨x4_1, x16_1, rfl, HA, HK1, HO_4, BK138, HB⟩ := hrel
     cases gk with
     | zero => exact absurd HA.out (by simp [impl_GateDepths.l0])
     | succ k1 =>
      have H := HA.out; clear HA
      simp only [impl_GateDepths.l0] at H
      by_cases c13 : x16_1 < (l0_1.length : Int)
      ·rw [if_pos c13] at H
       have c13b0 := decide_eq_true c13; clear c13
       by_cases c14 : 0 ≤ x16_1
       ·rw [if_pos c14] at H
        have c14b0 := decide_eq_true c14; clear c14
        by_cases c15 : x16_1 < (l0_1.length : Int)
        ·rw [if_pos c15] at H
         have c15b0 := decide_eq_true c15; clear c15
         by_cases c16 : 0 ≤ ((rd_T57 l0_1 x16_1).f1)
         ·rw [if_pos c16] at H
          have c16b0 := decide_eq_true c16; clear c16
          by_cases c17 : ((rd_T57 l0_1 x16_1).f1) < (x4_1.length : Int)
          ·rw [if_pos c17] at H
           have c17b0 := decide_eq_true c17; clear c17
           by_cases c18 : 0 ≤ ((rd_T57 l0_1 x16_1).f2)
           ·rw [if_pos c18] at H
            have c18b0 := decide_eq_true c18; clear c18
            by_cases c19 : ((rd_T57 l0_1 x16_1).f2) < (x4_1.length : Int)
            ·rw [if_pos c19] at H
             have c19b0 := decide_eq_true c19; clear c19; obtain ⟨ji20, hji20⟩ : ∃ j_ : Int, (mx (rd x4_1 ((rd_T57 l0_1 x16_1).f1)) (rd x4_1 ((rd_T57 l0_1 x16_1).f2))) = j_ := ⟨_, rfl⟩; replace H : (if x4_1.length < 17592186044416 then (impl_GateDepths.l0 k1 (x4_1 ++ [wrap64 (1 + (ji20))]) l0_1 (l0_1.length : Int) (wrap64 (x16_1 + 1)) a0_0 l0_1 l0_2) else (none)) = some (r1, r2) := by first | (rw [hji20] at H; exact H) | (simp only [hji20] at H ⊢; exact H)
             have hji20_ : (if (rd x4_1 ((rd_T57 l0_1 x16_1).f1)) < (rd x4_1 ((rd_T57 l0_1 x16_1).f2)) then (rd x4_1 ((rd_T57 l0_1 x16_1).f2)) else (rd x4_1 ((rd_T57 l0_1 x16_1).f1))) = ji20 := hji20
             by_cases c21 : x4_1.length < 17592186044416
             ·rw [if_pos c21] at H
              have LMc21 := aM c21; clear c21; obtain ⟨y147, hy147⟩ : ∃ y_ : List Int, y_ = (x4_1 ++ [wrap64 (1 + (ji20))]) := ⟨_, rfl⟩; replace H : (impl_GateDepths.l0 k1 y147 l0_1 (l0_1.length : Int) (wrap64 (x16_1 + 1)) a0_0 l0_1 l0_2) = some (r1, r2) := by first | (rw [hy147]; with_reducible exact H) | (have H2_ := (oS _ _).symm.trans H; rw [hy147]; with_reducible exact H2_) | (have H2_ := (oS _ _).symm.trans H; with_reducible exact H2_) | with_reducible exact H | (rw [hy147]; exact H) | exact H
              have Ny147 := aM hy147; clear hy147; have H' := aM H; clear H; have p143 : 0 ≤ (x16_1 : Int) := of_decide_eq_true za_; have q143 : x16_1 < (l0_1.length : Int) := of_decide_eq_true za_; obtain ⟨ad143, e143, hx143_0, hx143_1, hx143_2⟩ := at_T57 HR0_1.out x16_1 p143 q143
              cases e143
              (try (replace hx143_0 := (HB.out.cell (World.block_lt_of_cell? w _ hx143_0)).trans hx143_0)); (try (replace hx143_1 := (HB.out.cell (World.block_lt_of_cell? w _ hx143_1)).trans hx143_1)); (try (replace hx143_2 := (HB.out.cell (World.block_lt_of_cell? w _ hx143_2)).trans hx143_2)); replace p143 := eq_true p143; replace q143 := eq_true q143; (try go_wp2_with (first | ((with_reducible refine gate_dst (N := 6) rfl ?_); refine box_event ?hg (N := 6) ?hd (cs := #[.int .i64 0, .int .i64 0, .int .i64 0]) (t := 57) ?hr ?_; (case hd => rfl); (case hg => rfl); (case hr => exact zc_); intro gb144 hg w22 hbox hb; have n_ := z (Kd.R_below (zr HO_4.out) hb) <| z (blk_below (zb BK138.out) hb) <| z (below_step zcj_ hb) <| z (hbox) <| z ((by rw [hg]; exact (below_size zcj_) : w.heap.size ≤ gb144)) <| z ((by rw [hg]; exact (below_size zcj_) : w.heap.size ≤ gb144)) <| z ((by rw [hg]; exact Nat.ne_of_lt (blk_lt (zb BK138.out)) : gb138 ≠ gb144)) <| z1 ((by rw [hg]; exact Nat.ne_of_gt (blk_lt (zb BK138.out)) : gb144 ≠ gb138)); clear HO_4 BK138 HB; obtain ⟨HO_4, BK138, HB, BK144, GW144, GE144, NB138_144, NB144_138⟩ := n_; clear hb hbox hg; have hnb23 := NB144_138.out; have hnc23 := NB138_144.out; have hcz24_0 : w22.cell? ⟨gb144, 0, none⟩ = some (.int .i64 0) := (blk_cell BK144.out 0).trans rfl; have hcz24_1 : w22.cell? ⟨gb144, 1, none⟩ = some (.int .i64 0) := (blk_cell BK144.out 1).trans rfl; have hcz24_2 : w22.cell? ⟨gb144, 2, none⟩ = some (.int .i64 0) := (blk_cell BK144.out 2).trans rfl; have hfz24_0 := blk_frozen BK144.out 0; have hfz24_1 := blk_frozen BK144.out 1; have hfz24_2 := blk_frozen BK144.out 2))); have n0_ : Aside0 (Kd.R (Kd.int .i64) 3 (((w22.setCell ⟨gb144, 0, none⟩ (.int .i64 ((rd_T57 l0_1 x16_1).f0))).setCell ⟨gb144, 1, none⟩ (.int .i64 ((rd_T57 l0_1 x16_1).f1))).setCell ⟨gb144, 2, none⟩ (.int .i64 ((rd_T57 l0_1 x16_1).f2))) w.heap.size (fun _ => True) u4 x4_1) := ⟨by refine zr ?_; exact Kd.R_mono (Kd.R_far (p := ⟨gb144, 2, none⟩) (Kd.R_far (p := ⟨gb144, 1, none⟩) (Kd.R_far (p := ⟨gb144, 0, none⟩) (Kd.R_types HO_4.out BK144.out (by decide)) (fun _ hk => hk.2) (.int .i64 ((rd_T57 l0_1 x16_1).f0))) (fun _ hk => hk.2) (.int .i64 ((rd_T57 l0_1 x16_1).f1))) (fun _ hk => hk.2) (.int .i64 ((rd_T57 l0_1 x16_1).f2))) (fun _ hk => trivial)⟩; have n1_ : Aside0 ((((w22.setCell ⟨gb144, 0, none⟩ (.int .i64 ((rd_T57 l0_1 x16_1).f0))).setCell ⟨gb144, 1, none⟩ (.int .i64 ((rd_T57 l0_1 x16_1).f1))).setCell ⟨gb144, 2, none⟩ (.int .i64 ((rd_T57 l0_1 x16_1).f2))).heap[gb138]? = some (.cells #[.int .i64 a0_0, .slice (some ad143) l0_1.length c0_1, .slice A0_2 l0_2.length c0_2] 49 (0, 0))) := ⟨by refine zb ?_; refine blk_far ?_ NB138_144.out _; refine zb ?_; refine blk_far ?_ NB138_144.out _; refine zb ?_; refine blk_far ?_ NB138_144.out _; refine zb ?_; exact BK138.out⟩; have n2_ : Aside0 ((((w22.setCell ⟨gb144, 0, none⟩ (.int .i64 ((rd_T57 l0_1 x16_1).f0))).setCell ⟨gb144, 1, none⟩ (.int .i64 ((rd_T57 l0_1 x16_1).f1))).setCell ⟨gb144, 2, none⟩ (.int .i64 ((rd_T57 l0_1 x16_1).f2))).heap[gb144]? = some (.cells #[.int .i64 ((rd_T57 l0_1 x16_1).f0), .int .i64 ((rd_T57 l0_1 x16_1).f1), .int .i64 ((rd_T57 l0_1 x16_1).f2)] 57 (0, 0))) := ⟨by refine zb ?_; refine blk_put (cs := #[.int .i64 ((rd_T57 l0_1 x16_1).f0), .int .i64 ((rd_T57 l0_1 x16_1).f1), .int .i64 0]) ?_ 2 _ rfl; refine zb ?_; refine blk_put (cs := #[.int .i64 ((rd_T57 l0_1 x16_1).f0), .int .i64 0, .int .i64 0]) ?_ 1 _ rfl; refine zb ?_; refine blk_put (cs := #[.int .i64 0, .int .i64 0, .int .i64 0]) ?_ 0 _ rfl; refine zb ?_; exact BK144.out⟩; have n3_ : Aside0 (Below w.heap.size w (((w22.setCell ⟨gb144, 0, none⟩ (.int .i64 ((rd_T57 l0_1 x16_1).f0))).setCell ⟨gb144, 1, none⟩ (.int .i64 ((rd_T57 l0_1 x16_1).f1))).setCell ⟨gb144, 2, none⟩ (.int .i64 ((rd_T57 l0_1 x16_1).f2)))) := ⟨zhj_⟩; (try clear HO_4); (try clear BK138); (try clear BK144); (try clear HB); generalize (((w22.setCell ⟨gb144, 0, none⟩ (.int .i64 ((rd_T57 l0_1 x16_1).f0))).setCell ⟨gb144, 1, none⟩ (.int .i64 ((rd_T57 l0_1 x16_1).f1))).setCell ⟨gb144, 2, none⟩ (.int .i64 ((rd_T57 l0_1 x16_1).f2))) = w25 at n0_ n1_ n2_ n3_ ⊢; have HO_4 := n0_; have BK138 := n1_; have BK144 := n2_; have HB := n3_; clear n0_ n1_ n2_ n3_; have n_ := z (kD HO_4.out) <| z (blk_drew BK138.out) <| z (blk_drew BK144.out) <| z1 (p1 HB.out)
              clear HO_4 BK138 BK144 HB; obtain ⟨HO_4, BK138, BK144, HB⟩ := n_; obtain ⟨Ao27, co27, eo27⟩ := Kd.R_slice HO_4.out; (first | subst eo27 | (injection eo27 with f1_ f2_ f3_; have f4_ := f1_.symm; have f5_ := f3_.symm; clear f1_ f2_ f3_; subst f4_; subst f5_)); have p145 : 0 ≤ (((rd_T57 l0_1 x16_1).f1) : Int) := of_decide_eq_true za_; have q145 : ((rd_T57 l0_1 x16_1).f1) < (x4_1.length : Int) := of_decide_eq_true za_; obtain ⟨ad145, e145, hx145_0⟩ := Kd.at_int (Kd.R_reads' HO_4.out).2.2 ((rd_T57 l0_1 x16_1).f1) p145 q145
              cases e145
              replace p145 := eq_true p145; replace q145 := eq_true q145; have p146 : 0 ≤ (((rd_T57 l0_1 x16_1).f2) : Int) := of_decide_eq_true za_; have q146 : ((rd_T57 l0_1 x16_1).f2) < (x4_1.length : Int) := of_decide_eq_true za_; obtain ⟨ad146, e146, hx146_0⟩ := Kd.at_int (Kd.R_reads' HO_4.out).2.2 ((rd_T57 l0_1 x16_1).f2) p146 q146; obtain rfl : ad145 = ad146 := (by injection e146); replace p146 := eq_true p146; replace q146 := eq_true q146
              refine start_ (n := 16) (S := fun w' => w'.cell? ⟨gb144, 0, none⟩ = some (.int .i64 ((rd_T57 l0_1 x16_1).f0)) ∧ w'.cell? ⟨gb144, 1, none⟩ = some (.int .i64 ((rd_T57 l0_1 x16_1).f1)) ∧ w'.cell? ⟨gb144, 2, none⟩ = some (.int .i64 ((rd_T57 l0_1 x16_1).f2)) ∧ w'.cell? (ad145.add (((rd_T57 l0_1 x16_1).f1)).toNat) = some (.int .i64 (rd x4_1 ((rd_T57 l0_1 x16_1).f1))) ∧ w'.cell? (ad145.add (((rd_T57 l0_1 x16_1).f2)).toNat) = some (.int .i64 (rd x4_1 ((rd_T57 l0_1 x16_1).f2)))) (ds := [13, 14]) #[fi,fi,fi,fi,fi,fi,fi,fi,fi,fi,fi,fi,fi,fi,fi,fi] (by kernel_rfl) rfl rfl ⟨(blk_cell BK144.out 0).trans rfl, (blk_cell BK144.out 1).trans rfl, (blk_cell BK144.out 2).trans rfl, hx145_0, hx146_0⟩ (fun hHeld => ?_); refine with_tabW impl_GateDepths.tab7 impl_GateDepths.bits7 (fun HT_ HW_ => ?_)
              generalize w25.drew = w26 at HO_4 BK138 BK144 HB hx145_0 hx146_0 hHeld ⊢; refine py_ 0 20 HT_.out ?_; refine py_ 1 21 HT_.out ?_; refine py_ 2 22 HT_.out ?_; refine py_ 6 26 HT_.out ?_; refine py_ 7 27 HT_.out ?_
              refine take_ (i := 3) (N := some 23) (v := ?_) (a' := ?_) #[ti,ti,ti,ti,fi,fi,ti,ti,fi,fi,fi,fi,fi,fi,fi,fi] rfl rfl (take_ofW HT_.out HW_.out (by kernel_rfl)) (fun _ _ _ h => h) (Or.inl ⟨by rfl, ?_⟩) hHeld ?_ ?_
              rotate_left
              ·rintro w' ⟨s0, s1, s2, s3, s4⟩
               go_simp
               with_reducible rfl
              rotate_left
              ·simp only [Act.put, sI, s0, sS, i64_w, i32_w]
               rfl
              refine py_ 4 24 HT_.out ?_
              refine take_ (i := 5) (N := some 25) (v := ?_) (a' := ?_) #[ti,ti,ti,ti,ti,ti,ti,ti,fi,fi,fi,fi,fi,fi,fi,fi] rfl rfl (take_ofW HT_.out HW_.out (by kernel_rfl)) (fun _ _ _ h => h) (Or.inl ⟨by rfl, ?_⟩) hHeld ?_ ?_
              rotate_left
              ·rintro w' ⟨s0, s1, s2, s3, s4⟩
               go_simp
               with_reducible rfl
              rotate_left
              ·simp only [Act.put, sI, s0, sS, i64_w, i32_w]
               rfl
              refine take_ (i := 8) (N := some 28) (v := ?_) (a' := ?_) #[ti,ti,ti,ti,ti,ti,ti,ti,ti,fi,fi,fi,fi,fi,fi,fi] rfl rfl (take_ofW HT_.out HW_.out (by kernel_rfl)) (fun _ _ _ h => h) (Or.inl ⟨by rfl, ?_⟩) hHeld ?_ ?_
              rotate_left
              ·rintro w' ⟨s0, s1, s2, s3, s4⟩
               go_simp
               with_reducible rfl
              rotate_left
              ·simp only [Act.put, sI, s0, sS, i64_w, i32_w]
               rfl
              refine py_ 9 29 HT_.out ?_
              refine take_ (i := 10) (N := some 30) (v := ?_) (a' := ?_) #[ti,ti,ti,ti,ti,ti,ti,ti,ti,ti,ti,fi,fi,fi,fi,fi] rfl rfl (take_ofW HT_.out HW_.out (by kernel_rfl)) (fun _ _ _ h => h) (Or.inl ⟨by rfl, ?_⟩) hHeld ?_ ?_
              rotate_left
              ·rintro w' ⟨s0, s1, s2, s3, s4⟩
               go_simp
               with_reducible rfl
              rotate_left
              ·simp only [Act.put, sI, s0, sS, i64_w, i32_w]
               rfl
              refine py_ 11 31 HT_.out ?_; refine py_ 12 32 HT_.out ?_
              refine last_ (i := 13) (N := some 33) #[ti,ti,ti,ti,ti,ti,ti,ti,ti,ti,ti,ti,ti,ti,fi,fi] rfl rfl (one_of HT_.out (by kernel_rfl)) (by decide) (fun K hK => ?_)
              refine value_ (w1 := ?_) (v := ?_) (by rfl) rfl ?_ ?_
              rotate_left 2
              ·go_simp
               constructor
               ·rfl
               ·rfl
              refine hK.out _ _ ?_
              clear hK K
              refine norm_ (a' := ?_) ?_ ?_
              rotate_left
              ·show Act.put _ (some 33) _ = _
               simp only [Act.put, sI, s0, sS, i64_w, i32_w]
               rfl
              refine last_ (i := 14) (N := some 34) #[ti,ti,ti,ti,ti,ti,ti,ti,ti,ti,ti,ti,ti,ti,ti,fi] rfl rfl (one_of HT_.out (by kernel_rfl)) (by decide) (fun K hK => ?_)
              refine Kd.R_append_step (Kd.int .i64) (w0 := w) w.heap.size (by rfl) (.tmp 20) (.tmp 33) 24 3 (.int .i64 0) 8 rfl Try.underlying24 info3 rfl (by decide) (by omega) (.slice (some ad145) x4_1.length co27) x4_1 (wrap64 (1 + (ji20))) [.int .i64 (wrap64 (1 + (ji20)))] (fun _ => True) (fun _ => False) rfl rfl ?aP (fun _ hk => hk.elim) ?aF ?aO ?aB ?aS ?aL ?_
              (case aP => exact rfl)
              (case aB => exact zhj_)
              (case aF => exact zbe_)
              (case aO => exact (zr HO_4.out))
              (case aS => exact (below_size zhj_))
              (case aL => have := LMc21.out; omega)
              intro v148 w28 ho hb hg hat
              rw [← Ny147.out] at ho; have n_ := z (blk_grown (g := gb138) (o := .cells #[.int .i64 a0_0, .slice (some ad143) l0_1.length c0_1, .slice A0_2 l0_2.length c0_2] 49 (0, 0)) (zb BK138.out) hg (Kd.R_ne HO_4.out BK138.out (by decide))) <| z (blk_grown (g := gb144) (o := .cells #[.int .i64 ((rd_T57 l0_1 x16_1).f0), .int .i64 ((rd_T57 l0_1 x16_1).f1), .int .i64 ((rd_T57 l0_1 x16_1).f2)] 57 (0, 0)) (zb BK144.out) hg (Kd.R_ne HO_4.out BK144.out (by decide))) <| z (hb) <| z1 (ho)
              clear BK138 BK144 HB HO_4; obtain ⟨BK138, BK144, HB, HO149⟩ := n_; clear ho hb hg hat
              refine hK.out _ _ ?_
              clear hK K
              refine norm_ (a' := ?_) ?_ ?_
              rotate_left
              ·show Act.put _ (some 34) _ = _
               simp only [Act.put, sI, s0, sS, i64_w, i32_w]
               rfl
              refine py_ 15 4 HT_.out ?_
              refine done_ (done_of HT_.out (by kernel_rfl)) ?_
              (try go_wp2)
              go_roundg k1
              case measure => have := HK1.out; omega
              case rel => exact ⟨(y147), (wrap64 (x16_1 + 1)), zd_, H', ⟨zbd_⟩, ⟨zr HO149.out⟩, ⟨zb BK138.out⟩, ⟨zhj_⟩⟩
             ·rw [if_neg c21] at H
              exact absurd H (by simp)
            ·rw [if_neg c19] at H
             exact absurd H (by simp)
           ·rw [if_neg c18] at H
            exact absurd H (by simp)
          ·rw [if_neg c17] at H
           exact absurd H (by simp)
         ·rw [if_neg c16] at H
          exact absurd H (by simp)
        ·rw [if_neg c15] at H
         exact absurd H (by simp)
       ·rw [if_neg c14] at H
        exact absurd H (by simp)
      ·rw [if_neg c13] at H
       have c13b0 := decide_eq_false c13; clear c13; obtain ⟨y150, hy150⟩ : ∃ y_ : List Int, y_ = (([] : List Int)) := ⟨_, rfl⟩; replace H : (if 0 ≤ a0_0 then (if a0_0 ≤ (x4_1.length : Int) then ((some (x4_1.drop (a0_0 : Int).toNat : List Int)).bind fun y153 => (if y150.length + y153.length < 17592186044416 then (some ((y150 ++ y153), true)) else (none))) else (none)) else (none)) = some (r1, r2) := by first | (rw [hy150]; with_reducible exact H) | (have H2_ := (oS _ _).symm.trans H; rw [hy150]; with_reducible exact H2_) | (have H2_ := (oS _ _).symm.trans H; with_reducible exact H2_) | with_reducible exact H | (rw [hy150]; exact H) | exact H
       have Ny150 := aM hy150; clear hy150
       by_cases c29 : 0 ≤ a0_0
       ·rw [if_pos c29] at H
        have c29b0 := eq_true c29; have c29b1 := decide_eq_true c29; clear c29
        by_cases c30 : a0_0 ≤ (x4_1.length : Int)
        ·rw [if_pos c30] at H
         have c30b0 := eq_true c30; have c30b1 := decide_eq_true c30; clear c30; obtain ⟨y153, hy153⟩ : ∃ y_ : List Int, y_ = (x4_1.drop (a0_0 : Int).toNat) := ⟨_, rfl⟩; replace H : (if y150.length + y153.length < 17592186044416 then (some ((y150 ++ y153), true)) else (none)) = some (r1, r2) := by first | (rw [hy153]; with_reducible exact H) | (have H2_ := (oS _ _).symm.trans H; rw [hy153]; with_reducible exact H2_) | (have H2_ := (oS _ _).symm.trans H; with_reducible exact H2_) | with_reducible exact H | (rw [hy153]; exact H) | exact H
         have Ny153 := aM hy153; clear hy153
         by_cases c31 : y150.length + y153.length < 17592186044416
         ·rw [if_pos c31] at H
          have LMc31 := aM c31; clear c31; obtain ⟨y157, hy157⟩ : ∃ y_ : List Int, y_ = (y150 ++ y153) := ⟨_, rfl⟩; replace H : (some (y157, true)) = some (r1, r2) := by first | (rw [hy157]; with_reducible exact H) | (have H2_ := (oS _ _).symm.trans H; rw [hy157]; with_reducible exact H2_) | (have H2_ := (oS _ _).symm.trans H; with_reducible exact H2_) | with_reducible exact H | (rw [hy157]; exact H) | exact H
          have Ny157 := aM hy157; clear hy157
          simp only [Option.some.injEq, Prod.mk.injEq] at H
          obtain ⟨rfl, rfl⟩ := H
          go_wp2_with (first | ((with_reducible refine gate_dst (N := 36) rfl ?_); refine Kd.R_lit (Kd.int .i64) _ 3 ?hg (N := 36) ?hd (xs := ([] : List Int)) (inner := []) (ok := fun _ => True) (okp := fun _ => True) ?hr ?hp (fun _ hk => hk) trivial (Below.refl _ _) (Nat.le_refl _) (by simp) ?_; (case hd => rfl); (case hg => rfl); (case hr => exact zc_); (case hp => exact (Reps.none _ _)); intro v151 w32 ho33 hb hg_ hnew_; clear hg_ hnew_; (first | rw [← Ny150.out] at ho33 | (simp only [Int.reduceToNat] at ho33; rw [← Ny150.out] at ho33)); have n_ := z (Kd.R_elder' (zr HO_4.out) (Kd.R_base ho33) hb) <| z (Kd.R_lower (Kd.R_new' ho33 (Kd.R_lt (zr HO_4.out))) (below_size zcj_)) <| z (blk_below (zb BK138.out) hb) <| z1 (below_step zcj_ hb); clear HO_4 BK138 HB; obtain ⟨HO_4, HO152, BK138, HB⟩ := n_; clear hb ho33; have hcz34_0 : w32.cell? ⟨gb138, 0, none⟩ = some (.int .i64 a0_0) := (blk_cell BK138.out 0).trans rfl; have hcz34_1 : w32.cell? ⟨gb138, 1, none⟩ = some (.slice A0_1 l0_1.length c0_1) := (blk_cell BK138.out 1).trans rfl; have hcz34_2 : w32.cell? ⟨gb138, 2, none⟩ = some (.slice A0_2 l0_2.length c0_2) := (blk_cell BK138.out 2).trans rfl; have hfz34_0 := blk_frozen BK138.out 0; have hfz34_1 := blk_frozen BK138.out 1; have hfz34_2 := blk_frozen BK138.out 2; obtain ⟨Ao36, co36, eo36⟩ := Kd.R_slice HO_4.out; subst eo36; have q35 : (a0_0 : Int) ≤ ((x4_1.length : Int) : Int) := of_decide_eq_true za_; obtain ⟨i035, hi035, _, hsz35, _⟩ := info_parts info3; have hroom35 : x4_1.length ≤ co36 := (Kd.R_reads' HO_4.out).2.1; have hC35 : Kd.C (Kd.int .i64) _ Ao36 x4_1.length x4_1 := (Kd.R_reads' HO_4.out).2.2; have q035 : (0 : Int) ≤ (a0_0 : Int) := of_decide_eq_true za_; have hcut35 := cut_from (P := Try.prog) 24 3 .i64 Try.underlying24 hi035 1 hsz35 Ao36 x4_1.length co36 a0_0 q035 q35; have hr35 := Kd.C_drop (m := (a0_0 : Int).toNat) (c := co36) hC35 (by omega) hroom35; obtain ⟨A35, hA35⟩ : ∃ A1, A1 = (if co36 = (a0_0 : Int).toNat then Ao36 else (Ao36 : Option Addr).map (·.add ((a0_0 : Int).toNat * 1))) := ⟨_, rfl⟩; obtain ⟨c35, hc35⟩ : ∃ c1, c1 = co36 - (a0_0 : Int).toNat := ⟨_, rfl⟩; have hy35 : y153.length = x4_1.length - (a0_0 : Int).toNat := (by rw [Ny153.out, lD] <;> omega); rw [show (x4_1).drop (a0_0 : Int).toNat = y153 from Ny153.out.symm] at hr35; replace hr35 : Kd.C (Kd.int .i64) _ A35 y153.length y153 := (by rw [hA35]; exact hr35); rw [← hy35, ← hA35, ← hc35] at hcut35; have HR156 := aM hr35; have HC156 := aM (show y153.length ≤ c35 from by rw [hy35, hc35]; exact Nat.sub_le_sub_right hroom35 _); clear hr35 hC35 hroom35 hi035 hsz35 hc35; have KY35 := aM hy35; have KA35 := aM hA35; clear hy35 hA35; have KL35 := aM (show (a0_0 : Int).toNat ≤ x4_1.length from by omega); replace q35 := eq_true q35) | ((with_reducible refine gate_builtin (b := .append) (xs := #[.tmp 36, .tmp 40]) rfl ?_); at_builtin; refine Kd.R_append_rows (Kd.int .i64) (w0 := w) w.heap.size rfl (.tmp 36) (.tmp 40) 24 3 (.int .i64 0) 8 rfl Try.underlying24 info3 rfl (by decide) (by omega) v151 y150 y153 _ _ _ (fun k_ => some k_ ≠ (.slice Ao36 x4_1.length co36 : Value).ownBlock) (fun _ => False) rfl rfl ?aO ?aR (fun _ _ h => h) (fun _ h => h.elim) ?aF ?aB ?aS ?aL ?_; (case aR => repeat (first | exact (by repeat (first | (with_reducible exact HR156.out) | (with_reducible refine cA ?_ _) | (with_reducible refine cN ?_ _) | (with_reducible refine cD ?_) | exact HR156.out)) | (with_reducible refine cA ?_ _) | (with_reducible refine cN ?_ _) | (with_reducible refine cD ?_))); (case aB => exact zcj_); (case aF => exact (fun k_ hk => Kd.fresh' (Kd.R_lt (zr HO_4.out)) k_ hk)); (case aO => exact (by refine zr ?_; exact Kd.R_mono HO152.out (fun _ hk => hk.2))); (case aS => exact (below_size zcj_)); (case aL => have := LMc31.out; omega); intro v158 w37 ho hb hg hat; rw [← Ny157.out] at ho; have n_ := z (Kd.R_after (ok := (fun _ => True)) (zr HO_4.out) hg hat) <| z (blk_grown (g := gb138) (o := .cells #[.int .i64 a0_0, .slice A0_1 l0_1.length c0_1, .slice A0_2 l0_2.length c0_2] 49 (0, 0)) (zb BK138.out) hg (Kd.R_ne HO152.out BK138.out (by decide))) <| z (hb) <| z ((show Kd.C (Kd.int .i64) w37 A35 y153.length y153 from by rw [Ny153.out, KA35.out]; exact Kd.C_drop (m := (a0_0 : Int).toNat) (c := co36) ((Kd.R_reads' (Kd.R_after (ok := (fun _ => True)) (zr HO_4.out) hg hat)).2.2) KL35.out ((Kd.R_reads' (Kd.R_after (ok := (fun _ => True)) (zr HO_4.out) hg hat)).2.1))) <| z1 (ho); clear HO_4 BK138 HB HR156 HO152; obtain ⟨HO_4, BK138, HB, HR156, HO159⟩ := n_; clear ho hb hg hat))
          go_ret2
          exact ⟨_, zf_, by refine zr ?_; exact Kd.R_mono HO159.out (fun _ hk => trivial), zcj_⟩
         ·rw [if_neg c31] at H
          exact absurd H (by simp)
        ·rw [if_neg c30] at H
         exact absurd H (by simp)
       ·rw [if_neg c29] at H
        exact absurd H (by simp)
   ·rw [if_neg c5] at H
    exact absurd H (by simp)
  ·rw [if_neg c4] at H
   exact absurd H (by simp)
 ·replace c3 := Bool.eq_false_iff.mpr c3
  subst c3; have H1 : (some (([] : List Int), false)) = some (r1, r2) := by rw [if_neg (show ¬ (false = true) by decide)] at H; exact H
  clear H; have H := H1; clear H1
  simp only [Option.some.injEq, Prod.mk.injEq] at H
  obtain ⟨rfl, rfl⟩ := H
  go_enter Try.func27, Try.ntmps27
  go_wp2_with (first | ((with_reducible refine gate_dst (N := 1) rfl ?_); refine box_event ?hg (N := 1) ?hd (cs := #[.int .i64 a0_0, .slice A0_1 l0_1.length c0_1, .slice A0_2 l0_2.length c0_2]) (t := 49) ?hr ?_; (case hd => rfl); (case hg => rfl); (case hr => exact zc_); intro gb138 hg w38 hbox hb; have n_ := z (below_step zb_ hb) <| z (hbox) <| z ((by rw [hg]; exact (below_size zb_) : w.heap.size ≤ gb138)) <| z1 ((by rw [hg]; exact (below_size zb_) : w.heap.size ≤ gb138)); clear HB; obtain ⟨HB, BK138, GW138, GE138⟩ := n_; clear hb hbox hg; have hcz39_0 : w38.cell? ⟨gb138, 0, none⟩ = some (.int .i64 a0_0) := (blk_cell BK138.out 0).trans rfl; have hcz39_1 : w38.cell? ⟨gb138, 1, none⟩ = some (.slice A0_1 l0_1.length c0_1) := (blk_cell BK138.out 1).trans rfl; have hcz39_2 : w38.cell? ⟨gb138, 2, none⟩ = some (.slice A0_2 l0_2.length c0_2) := (blk_cell BK138.out 2).trans rfl; have hfz39_0 := blk_frozen BK138.out 0; have hfz39_1 := blk_frozen BK138.out 1; have hfz39_2 := blk_frozen BK138.out 2) | ((with_reducible refine gate_callee (f := 118) rfl ?_); refine goesL_ (some 8) rfl rfl Try.func118 (by kernel_rfl) rfl #[.agg #[.int .i64 a0_0, .slice A0_1 l0_1.length c0_1, .slice A0_2 l0_2.length c0_2]] rfl ze_ ?_; (with_reducible refine (impl_IsCircuit.calls k a0_0 _ _ l0_1 _ _ l0_2 false _ ?side1 ?side2 ?side3 ?side4 A2.out).mono ?_); (case side1 => exact zg_); (case side2 => exact HC0_1.out); (case side3 => exact zj_); (case side4 => exact HC0_2.out); rintro e w40 ⟨rfl, hb⟩; refine ⟨_, rfl, ?_⟩; have n_ := z (blk_below (zb BK138.out) hb) <| z1 (below_step zcj_ hb); clear BK138 HB; obtain ⟨BK138, HB⟩ := n_; clear hb))
  go_ret2
  exact ⟨_, zf_, zcb_, zcj_⟩
def spec_l1In.f (a0 : Int) (a1 : Int) (a2 : Int) : Option (Bool) := if a0 ≥ a1 then (some (decide (a0 ≤ a2))) else (some false)
theorem spec_l1In.calls (a0 : Int) (a1 : Int) (a2 : Int) (r : Bool) (w : World) (h : spec_l1In.f a0 a1 a2 = some r) :
  Calls Try.prog 108 #[.int .i64 a0, .int .i64 a1, .int .i64 a2] w fun e w' => e = .returned (.bool r) ∧ Drawn0 w w' := by
 have H : (if a0 ≥ a1 then (some (decide (a0 ≤ a2))) else (some false)) = some r := h
 clear h
 by_cases c4 : a0 ≥ a1
 ·rw [if_pos c4] at H
  have c4b0 : decide (a1 ≤ a0) = true := decide_eq_true c4; clear c4; obtain rfl := Option.some.inj H
  go_enter Try.func108, Try.ntmps108
  go_wp2
  go_ret
  exact ⟨zd_, zi_⟩
 ·rw [if_neg c4] at H
  have c4b0 : decide (a1 ≤ a0) = false := decide_eq_false c4; clear c4; obtain rfl := Option.some.inj H
  go_enter Try.func108, Try.ntmps108
  go_wp2
  go_ret
  exact ⟨zd_, zi_⟩
def spec_l1All.l0 : Nat → Int → Int → List Int → Int → Int → Option (Bool)
 | 0, _, _, _, _, _ => none
 | k + 1, x1, x2, x9, x10, x11 => if x11 < x10 then (if 0 ≤ x11 then (if x11 < (x9.length : Int) then ((spec_l1In.f (rd x9 x11) x1 x2).bind fun t161 => (if t161 = true then (spec_l1All.l0 k x1 x2 x9 x10 (wrap64 (x11 + 1))) else (some false))) else (none)) else (none)) else (some true)
def spec_l1All.f (k : Nat) (l0 : List Int) (a1 : Int) (a2 : Int) : Option (Bool) := spec_l1All.l0 k a1 a2 l0 (l0.length : Int) 0
theorem spec_l1All.calls (k : Nat) (A0 : Option Addr) (c0 : Nat) (l0 : List Int) (a1 : Int) (a2 : Int) (r : Bool) (w : World) (hr0 : Kd.C (Kd.int .i64) w A0 l0.length l0) (hc0 : l0.length ≤ c0) (h : spec_l1All.f k l0 a1 a2 = some r) :
  Calls Try.prog 126 #[.slice A0 l0.length c0, .int .i64 a1, .int .i64 a2] w fun e w' => e = .returned (.bool r) ∧ Drawn0 w w' := by
 have HR0 := aM hr0
 have HC0 := aM hc0
 clear hr0 hc0
 have H : (spec_l1All.l0 k a1 a2 l0 (l0.length : Int) 0) = some r := h
 clear h
 have H' := aM H
 clear H
 go_enter Try.func126, Try.ntmps126
 go_wp2
 go_loopg [11] k (fun kq v11 w' => ∃ (x11_1 : Int), v11 = .int .i64 x11_1 ∧ Aside0 (spec_l1All.l0 kq a1 a2 l0 (l0.length : Int) x11_1 = some r) ∧ Aside0 (kq ≤ k) ∧ Drawn0 w w')
 case atStart => exact ⟨(0), zd_, H', ⟨Nat.le_refl _⟩, zi_⟩
 case round =>
  clear H'; obtain ⟨x11_1, rfl, HA, HK1, ⟨m1, rfl⟩⟩ := hrel
  cases gk with
  | zero => exact absurd HA.out (by simp [spec_l1All.l0])
  | succ k1 =>
   have H := HA.out; clear HA
   simp only [spec_l1All.l0] at H
   by_cases c4 : x11_1 < (l0.length : Int)
   ·rw [if_pos c4] at H
    have c4b0 := decide_eq_true c4; clear c4
    by_cases c5 : 0 ≤ x11_1
    ·rw [if_pos c5] at H
     have c5b0 := decide_eq_true c5; clear c5
     by_cases c6 : x11_1 < (l0.length : Int)
     ·rw [if_pos c6] at H
      have c6b0 := decide_eq_true c6; clear c6; replace H := oB.mp H; obtain ⟨t161, A70, H⟩ := H; replace H : (if t161 = true then (spec_l1All.l0 k1 a1 a2 l0 (l0.length : Int) (wrap64 (x11_1 + 1))) else (some false)) = some r := H; have A7 := aM A70; clear A70
      by_cases c8 : t161 = true
      ·subst c8
       have H1 : (spec_l1All.l0 k1 a1 a2 l0 (l0.length : Int) (wrap64 (x11_1 + 1))) = some r := by rw [if_pos rfl] at H; exact H
       clear H; have H := H1; clear H1; have H' := aM H; clear H; have p160 : 0 ≤ (x11_1 : Int) := of_decide_eq_true za_; have q160 : x11_1 < (l0.length : Int) := of_decide_eq_true za_; obtain ⟨ad160, e160, hx160_0⟩ := Kd.at_int HR0.out x11_1 p160 q160
       cases e160
       replace p160 := eq_true p160; replace q160 := eq_true q160
       go_wp2_with (first | ((with_reducible refine gate_callee (f := 108) rfl ?_); refine goesL_ (some 18) rfl rfl Try.func108 (by kernel_rfl) rfl #[.int .i64 (rd l0 x11_1), .int .i64 a1, .int .i64 a2] rfl ze_ ?_; (with_reducible refine (spec_l1In.calls (rd l0 x11_1) a1 a2 true _ A7.out).mono ?_); rintro e w' ⟨rfl, ⟨nd, rfl⟩⟩; refine ⟨_, rfl, ?_⟩))
       go_roundg k1
       case measure => have := HK1.out; omega
       case rel => exact ⟨(wrap64 (x11_1 + 1)), zd_, H', ⟨zbd_⟩, zi_⟩
      ·replace c8 := Bool.eq_false_iff.mpr c8
       subst c8; have H1 : (some false) = some r := by rw [if_neg (show ¬ (false = true) by decide)] at H; exact H
       clear H; have H := H1; clear H1; obtain rfl := Option.some.inj H; have p160 : 0 ≤ (x11_1 : Int) := of_decide_eq_true za_; have q160 : x11_1 < (l0.length : Int) := of_decide_eq_true za_; obtain ⟨ad160, e160, hx160_0⟩ := Kd.at_int HR0.out x11_1 p160 q160
       cases e160
       replace p160 := eq_true p160; replace q160 := eq_true q160
       go_wp2_with (first | ((with_reducible refine gate_callee (f := 108) rfl ?_); refine goesL_ (some 18) rfl rfl Try.func108 (by kernel_rfl) rfl #[.int .i64 (rd l0 x11_1), .int .i64 a1, .int .i64 a2] rfl ze_ ?_; (with_reducible refine (spec_l1In.calls (rd l0 x11_1) a1 a2 false _ A7.out).mono ?_); rintro e w' ⟨rfl, ⟨nd, rfl⟩⟩; refine ⟨_, rfl, ?_⟩))
       go_ret
       exact ⟨zd_, zi_⟩
     ·rw [if_neg c6] at H
      exact absurd H (by simp)
    ·rw [if_neg c5] at H
     exact absurd H (by simp)
   ·rw [if_neg c4] at H
    have c4b0 := decide_eq_false c4; clear c4; obtain rfl := Option.some.inj H
    go_wp2
    go_ret
    exact ⟨zd_, zi_⟩
def spec_ttInputs.f (a0 : Int) : Option (Bool) := (spec_l1In.f a0 0 4).bind fun t162 => (some t162)
theorem spec_ttInputs.calls (a0 : Int) (r : Bool) (w : World) (h : spec_ttInputs.f a0 = some r) :
  Calls Try.prog 144 #[.int .i64 a0] w fun e w' => e = .returned (.bool r) ∧ Drawn0 w w' := by
 have H : ((spec_l1In.f a0 0 4).bind fun t162 => (some t162)) = some r := h
 clear h
 replace H := oB.mp H
 obtain ⟨t162, A20, H⟩ := H
 replace H : (some t162) = some r := H
 have A2 := aM A20
 clear A20
 obtain rfl := Option.some.inj H
 go_enter Try.func144, Try.ntmps144
 go_wp2_with (first | ((with_reducible refine gate_callee (f := 108) rfl ?_); refine goesL_ (some 4) rfl rfl Try.func108 (by kernel_rfl) rfl #[.int .i64 a0, .int .i64 0, .int .i64 4] rfl ze_ ?_; (with_reducible refine (spec_l1In.calls a0 0 4 t162 _ A2.out).mono ?_); rintro e w' ⟨rfl, ⟨nd, rfl⟩⟩; refine ⟨_, rfl, ?_⟩))
 go_ret
 exact ⟨zd_, zi_⟩
end Go.Proofs.Ytbkighlfgaifeaa.QFnGates
