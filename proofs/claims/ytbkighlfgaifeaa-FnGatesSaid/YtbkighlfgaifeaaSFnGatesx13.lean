/- Functions of FnGates, each as a Lean function, with the proof that the Go code comes to its answers. -/
import Derived.Test.YtbkighlfgaifeaaSFnGatesx0
import Derived.Test.YtbkighlfgaifeaaSFnGatesx5
namespace Go.Proofs.Ytbkighlfgaifeaa.QFnGates
open Go.RowKit Go.Proofs.YtbkighlfgaifeaaW.PrintWords Go.Proofs.YtbkighlfgaifeaaW.PrintLast Go.Proofs.YtbkighlfgaifeaaW.PrintMore
open Go.Proofs.YtbkighlfgaifeaaW.PrintWords renaming pw_below_drewN → pN, below_drew1 → p1, below_alloc → pA
open Go.Proofs.YtbkighlfgaifeaaW.PrintWords.Kd renaming R_alloc → kA, R_drewN → kN, R_drew → kD, Q_alloc → qA, Q_drewN → qN, Q_drew → qD, C_alloc → cA, C_drewN → cN, C_drew → cD
open Go.Proofs.YtbkighlfgaifeaaW.PrintWords.Aside0 renaming mk → aM
open List renaming setIfInBounds_toArray → sI, set_cons_zero → s0, set_cons_succ → sS, map_toArray → mT, length_take → lT, length_drop → lD, map_cons → mC, map_nil → mN
open Option renaming bind_eq_some_iff → oB, bind_some → oS
attribute [local go_sem] max2_int min2_int max_two min_two max_three min_three max_four min_four
set_option maxHeartbeats 8000000
set_option maxRecDepth 100000
set_option linter.unusedVariables false
set_option linter.unusedSimpArgs false
mutual
def spec_FanOuts.l0 : Nat → List Int → List (S57) → Int → Int → Int → List (S57) → List Int → Option (List Int × Bool)
 | 0, _, _, _, _, _, _, _ => none
 | k + 1, x4, x20, x21, x22, x350000, x350001, x350002 => if x22 < x21 then (if 0 ≤ x22 then (if x22 < (x20.length : Int) then (if 0 ≤ ((rd_T57 x20 x22).f1) then (if ((rd_T57 x20 x22).f1) < (x4.length : Int) then ((some (x4.set (((rd_T57 x20 x22).f1) : Int).toNat (wrap64 ((rd x4 ((rd_T57 x20 x22).f1)) + 1)) : List Int)).bind fun y357 => (if ((rd_T57 x20 x22).f0) = 4 then (spec_FanOuts.l0 k y357 x20 x21 (wrap64 (x22 + 1)) x350000 x350001 x350002) else (if 0 ≤ ((rd_T57 x20 x22).f2) then (if ((rd_T57 x20 x22).f2) < (x4.length : Int) then (spec_FanOuts.l0 k (y357.set (((rd_T57 x20 x22).f2) : Int).toNat (wrap64 ((rd y357 ((rd_T57 x20 x22).f2)) + 1))) x20 x21 (wrap64 (x22 + 1)) x350000 x350001 x350002) else (none)) else (none)))) else (none)) else (none)) else (none)) else (none)) else (spec_FanOuts.l1 k x4 x350002 (x350002.length : Int) 0)
def spec_FanOuts.l1 : Nat → List Int → List Int → Int → Int → Option (List Int × Bool)
 | 0, _, _, _, _ => none
 | k + 1, x4, x45, x46, x47 => if x47 < x46 then (if 0 ≤ x47 then (if x47 < (x45.length : Int) then (if 0 ≤ (rd x45 x47) then (if (rd x45 x47) < (x4.length : Int) then (spec_FanOuts.l1 k (x4.set ((rd x45 x47) : Int).toNat (wrap64 ((rd x4 (rd x45 x47)) + 1))) x45 x46 (wrap64 (x47 + 1))) else (none)) else (none)) else (none)) else (none)) else (some (x4, true))
end
def spec_FanOuts.f (k : Nat) (a0_0 : Int) (l0_1 : List (S57)) (l0_2 : List Int) : Option (List Int × Bool) := (spec_ciGood.f k a0_0 l0_1 l0_2).bind fun t350 => (if t350 = true then (if 0 ≤ (wrap64 (a0_0 + (l0_1.length : Int))) then (if (wrap64 (a0_0 + (l0_1.length : Int)) : Int).toNat ≤ 35184372088832 then (spec_FanOuts.l0 k (List.replicate (wrap64 (a0_0 + (l0_1.length : Int)) : Int).toNat 0) l0_1 (l0_1.length : Int) 0 a0_0 l0_1 l0_2) else (none)) else (none)) else (some (([] : List Int), false)))
theorem spec_FanOuts.calls (k : Nat) (a0_0 : Int) (A0_1 : Option Addr) (c0_1 : Nat) (l0_1 : List (S57)) (A0_2 : Option Addr) (c0_2 : Nat) (l0_2 : List Int) (r1 : List Int) (r2 : Bool) (w : World) (hr0_1 : Kd.C k57 w A0_1 l0_1.length l0_1) (hc0_1 : l0_1.length ≤ c0_1) (hr0_2 : Kd.C (Kd.int .i64) w A0_2 l0_2.length l0_2) (hc0_2 : l0_2.length ≤ c0_2) (h : spec_FanOuts.f k a0_0 l0_1 l0_2 = some (r1, r2)) :
  Calls Try.prog 34 #[.agg #[.int .i64 a0_0, .slice A0_1 l0_1.length c0_1, .slice A0_2 l0_2.length c0_2]] w fun e w' => ∃ v0_ : Value, e = .returned (.tuple #[v0_, .bool r2]) ∧ Kd.R (Kd.int .i64) 3 w' w.heap.size (fun _ => True) v0_ r1 ∧ Below w.heap.size w w' := by
 have hu49 := Try.underlying49
 have hu57 := Try.underlying57
 have HR0_1 := aM hr0_1
 have HC0_1 := aM hc0_1
 clear hr0_1 hc0_1
 have HR0_2 := aM hr0_2
 have HC0_2 := aM hc0_2
 clear hr0_2 hc0_2
 have HB := aM (Below.refl w.heap.size w)
 have H : ((spec_ciGood.f k a0_0 l0_1 l0_2).bind fun t350 => (if t350 = true then (if 0 ≤ (wrap64 (a0_0 + (l0_1.length : Int))) then (if (wrap64 (a0_0 + (l0_1.length : Int)) : Int).toNat ≤ 35184372088832 then (spec_FanOuts.l0 k (List.replicate (wrap64 (a0_0 + (l0_1.length : Int)) : Int).toNat 0) l0_1 (l0_1.length : Int) 0 a0_0 l0_1 l0_2) else (none)) else (none)) else (some (([] : List Int), false)))) = some (r1, r2) := h
 clear h
 replace H := oB.mp H
 obtain ⟨t350, A20, H⟩ := H
 replace H : (if t350 = true then (if 0 ≤ (wrap64 (a0_0 + (l0_1.length : Int))) then (if (wrap64 (a0_0 + (l0_1.length : Int)) : Int).toNat ≤ 35184372088832 then (spec_FanOuts.l0 k (List.replicate (wrap64 (a0_0 + (l0_1.length : Int)) : Int).toNat 0) l0_1 (l0_1.length : Int) 0 a0_0 l0_1 l0_2) else (none)) else (none)) else (some (([] : List Int), false))) = some (r1, r2) := H
 have A2 := aM A20
 clear A20
 by_cases c3 : t350 = true
 ·subst c3
  have H1 : (if 0 ≤ (wrap64 (a0_0 + (l0_1.length : Int))) then (if (wrap64 (a0_0 + (l0_1.length : Int)) : Int).toNat ≤ 35184372088832 then (spec_FanOuts.l0 k (List.replicate (wrap64 (a0_0 + (l0_1.length : Int)) : Int).toNat 0) l0_1 (l0_1.length : Int) 0 a0_0 l0_1 l0_2) else (none)) else (none)) = some (r1, r2) := by rw [if_pos rfl] at H; exact H
  clear H; have H := H1; clear H1; obtain ⟨ji4, hji4⟩ : ∃ j_ : Int, (wrap64 (a0_0 + (l0_1.length : Int))) = j_ := ⟨_, rfl⟩; replace H : (if 0 ≤ (ji4) then (if (ji4 : Int).toNat ≤ 35184372088832 then (spec_FanOuts.l0 k (List.replicate (ji4 : Int).toNat 0) l0_1 (l0_1.length : Int) 0 a0_0 l0_1 l0_2) else (none)) else (none)) = some (r1, r2) := by first | (rw [hji4] at H; exact H) | (simp only [hji4] at H ⊢; exact H)
  (try rw [hji4] at A2); have hji4w : (IntKind.i64.wrap (a0_0 + (l0_1.length : Int))) = ji4 := (i64_w _).trans hji4
  by_cases c5 : 0 ≤ (ji4)
  ·rw [if_pos c5] at H
   have c5b0 := eq_true c5; have c5b1 := decide_eq_true c5; clear c5
   by_cases c6 : (ji4 : Int).toNat ≤ 35184372088832
   ·rw [if_pos c6] at H
    have c6b0 := eq_true c6; have c6b1 := decide_eq_true c6; clear c6; obtain ⟨y351, hy351⟩ : ∃ y_ : List Int, y_ = (List.replicate (ji4 : Int).toNat 0) := ⟨_, rfl⟩; replace H : (spec_FanOuts.l0 k y351 l0_1 (l0_1.length : Int) 0 a0_0 l0_1 l0_2) = some (r1, r2) := by first | (rw [hy351]; with_reducible exact H) | (have H2_ := (oS _ _).symm.trans H; rw [hy351]; with_reducible exact H2_) | (have H2_ := (oS _ _).symm.trans H; with_reducible exact H2_) | with_reducible exact H | (rw [hy351]; exact H) | exact H
    have Ny351 := aM hy351; clear hy351; have H' := aM H; clear H
    go_enter Try.func34, Try.ntmps34
    go_wp2_with (first | ((with_reducible refine gate_dst (N := 1) rfl ?_); refine box_event ?hg (N := 1) ?hd (cs := #[.int .i64 a0_0, .slice A0_1 l0_1.length c0_1, .slice A0_2 l0_2.length c0_2]) (t := 49) ?hr ?_; (case hd => rfl); (case hg => rfl); (case hr => exact zc_); intro gb349 hg w7 hbox hb; have n_ := z (below_step zb_ hb) <| z (hbox) <| z ((by rw [hg]; exact (below_size zb_) : w.heap.size ≤ gb349)) <| z1 ((by rw [hg]; exact (below_size zb_) : w.heap.size ≤ gb349)); clear HB; obtain ⟨HB, BK349, GW349, GE349⟩ := n_; clear hb hbox hg; have hcz8_0 : w7.cell? ⟨gb349, 0, none⟩ = some (.int .i64 a0_0) := (blk_cell BK349.out 0).trans rfl; have hcz8_1 : w7.cell? ⟨gb349, 1, none⟩ = some (.slice A0_1 l0_1.length c0_1) := (blk_cell BK349.out 1).trans rfl; have hcz8_2 : w7.cell? ⟨gb349, 2, none⟩ = some (.slice A0_2 l0_2.length c0_2) := (blk_cell BK349.out 2).trans rfl; have hfz8_0 := blk_frozen BK349.out 0; have hfz8_1 := blk_frozen BK349.out 1; have hfz8_2 := blk_frozen BK349.out 2) | ((with_reducible refine gate_callee (f := 119) rfl ?_); refine goesL_ (some 10) rfl rfl Try.func119 (by kernel_rfl) rfl #[.agg #[.int .i64 a0_0, .slice A0_1 l0_1.length c0_1, .slice A0_2 l0_2.length c0_2]] rfl ze_ ?_; (with_reducible refine (spec_ciGood.calls k a0_0 _ _ l0_1 _ _ l0_2 true _ ?side1 ?side2 ?side3 ?side4 A2.out).mono ?_); (case side1 => exact zg_); (case side2 => exact HC0_1.out); (case side3 => exact zj_); (case side4 => exact HC0_2.out); rintro e w9 ⟨rfl, hb⟩; refine ⟨_, rfl, ?_⟩; have n_ := z (blk_below (zb BK349.out) hb) <| z1 (below_step zcf_ hb); clear BK349 HB; obtain ⟨BK349, HB⟩ := n_; clear hb; have hcz10_0 : w9.cell? ⟨gb349, 0, none⟩ = some (.int .i64 a0_0) := (blk_cell BK349.out 0).trans rfl; have hcz10_1 : w9.cell? ⟨gb349, 1, none⟩ = some (.slice A0_1 l0_1.length c0_1) := (blk_cell BK349.out 1).trans rfl; have hcz10_2 : w9.cell? ⟨gb349, 2, none⟩ = some (.slice A0_2 l0_2.length c0_2) := (blk_cell BK349.out 2).trans rfl; have hfz10_0 := blk_frozen BK349.out 0; have hfz10_1 := blk_frozen BK349.out 1; have hfz10_2 := blk_frozen BK349.out 2) | ((with_reducible refine gate_dst (N := 18) rfl ?_); refine Kd.R_make (Kd.int .i64) _ 3 rfl (N := 18) rfl 24 _ _ rfl ji4 rfl rfl Try.underlying24 (.int .i64 0) 8 info3 rfl (by decide) (by omega) 0 (ok := fun _ => True) (okp := fun _ => True) rfl (fun _ hk => hk) trivial (of_decide_eq_true za_) (Nat.le_trans (Nat.mul_le_mul_right _ (of_decide_eq_true za_ : ji4.toNat ≤ 35184372088832)) (by omega)) (Below.refl _ _) (Nat.le_refl _) ?_; intro v352 w11 ho12 hb hg_ hnew_; clear hg_ hnew_; (first | rw [← Ny351.out] at ho12 | (simp only [Int.reduceToNat] at ho12; rw [← Ny351.out] at ho12)); have n_ := z (Kd.R_lower ho12 (below_size zcf_)) <| z (blk_below (zb BK349.out) hb) <| z1 (below_step zcf_ hb); clear BK349 HB; obtain ⟨HO353, BK349, HB⟩ := n_; clear hb ho12; have hcz13_0 : w11.cell? ⟨gb349, 0, none⟩ = some (.int .i64 a0_0) := (blk_cell BK349.out 0).trans rfl; have hcz13_1 : w11.cell? ⟨gb349, 1, none⟩ = some (.slice A0_1 l0_1.length c0_1) := (blk_cell BK349.out 1).trans rfl; have hcz13_2 : w11.cell? ⟨gb349, 2, none⟩ = some (.slice A0_2 l0_2.length c0_2) := (blk_cell BK349.out 2).trans rfl; have hfz13_0 := blk_frozen BK349.out 0; have hfz13_1 := blk_frozen BK349.out 1; have hfz13_2 := blk_frozen BK349.out 2))
    go_loopg [22] k (fun kq v22 w' => ∃ (x4_1 : List Int) (x22_1 : Int), v22 = .int .i64 x22_1 ∧ Aside0 (spec_FanOuts.l0 kq x4_1 l0_1 (l0_1.length : Int) x22_1 a0_0 l0_1 l0_2 = some (r1, r2)) ∧ Aside0 (kq ≤ k) ∧ Aside0 (Kd.R (Kd.int .i64) 3 w' w.heap.size (fun _ => True) v352 x4_1) ∧ Aside0 (w'.heap[gb349]? = some (.cells #[.int .i64 a0_0, (.slice A0_1 l0_1.length c0_1), (.slice A0_2 l0_2.length c0_2)] 49 (0, 0))) ∧ Aside0 (Below w.heap.size w w'))
    case atStart => exact ⟨(y351), (0), zd_, H', ⟨Nat.le_refl _⟩, ⟨zr HO353.out⟩, ⟨zb BK349.out⟩, ⟨zcf_⟩⟩
    case round =>
     clear H'; (try clear c5b0); (try clear c5b1); (try clear c6b0); (try clear c6b1); (try clear hcz10_0); (try clear hcz10_1); (try clear hcz10_2); (try clear hcz13_0); (try clear hcz13_1); (try clear hcz13_2); (try clear hcz8_0); (try clear hcz8_1); (try clear hcz8_2); (try clear hfz10_0); (try clear hfz10_1); (try clear hfz10_2); (try clear hfz13_0); (try clear hfz13_1); (try clear hfz13_2); (try clear hfz8_0); (try clear hfz8_1); (try clear hfz8_2); obtain ⟨x4_1, x22_1, rfl, HA, HK1, HO_4, BK349, HB⟩ := hrel
     cases gk with
     | zero => exact absurd HA.out (by simp [spec_FanOuts.l0])
     | succ k1 =>
      have H := HA.out; clear HA
      simp only [spec_FanOuts.l0] at H
      by_cases c14 : x22_1 < (l0_1.length : Int)
      ·rw [if_pos c14] at H
       have c14b0 := decide_eq_true c14; clear c14
       by_cases c15 : 0 ≤ x22_1
       ·rw [if_pos c15] at H
        have c15b0 := decide_eq_true c15; clear c15
        by_cases c16 : x22_1 < (l0_1.length : Int)
        ·rw [if_pos c16] at H
         have c16b0 := decide_eq_true c16; clear c16
         by_cases c17 : 0 ≤ ((rd_T57 l0_1 x22_1).f1)
         ·rw [if_pos c17] at H
          have c17b0 := decide_eq_true c17; clear c17
          by_cases c18 : ((rd_T57 l0_1 x22_1).f1) < (x4_1.length : Int)
          ·rw [if_pos c18] at H
           have c18b0 := decide_eq_true c18; clear c18; obtain ⟨y357, hy357⟩ : ∃ y_ : List Int, y_ = (x4_1.set (((rd_T57 l0_1 x22_1).f1) : Int).toNat (wrap64 ((rd x4_1 ((rd_T57 l0_1 x22_1).f1)) + 1))) := ⟨_, rfl⟩; replace H : (if ((rd_T57 l0_1 x22_1).f0) = 4 then (spec_FanOuts.l0 k1 y357 l0_1 (l0_1.length : Int) (wrap64 (x22_1 + 1)) a0_0 l0_1 l0_2) else (if 0 ≤ ((rd_T57 l0_1 x22_1).f2) then (if ((rd_T57 l0_1 x22_1).f2) < (x4_1.length : Int) then (spec_FanOuts.l0 k1 (y357.set (((rd_T57 l0_1 x22_1).f2) : Int).toNat (wrap64 ((rd y357 ((rd_T57 l0_1 x22_1).f2)) + 1))) l0_1 (l0_1.length : Int) (wrap64 (x22_1 + 1)) a0_0 l0_1 l0_2) else (none)) else (none))) = some (r1, r2) := by first | (rw [hy357]; with_reducible exact H) | (have H2_ := (oS _ _).symm.trans H; rw [hy357]; with_reducible exact H2_) | (have H2_ := (oS _ _).symm.trans H; with_reducible exact H2_) | with_reducible exact H | (rw [hy357]; exact H) | exact H
           have Ny357 := aM hy357; clear hy357
           by_cases c20 : ((rd_T57 l0_1 x22_1).f0) = 4
           ·rw [if_pos c20] at H
            have c20b0 := beq_iff_eq.mpr c20; have c20b1 := bne_eq_false_iff_eq.mpr c20; clear c20; have H' := aM H; clear H; have p354 : 0 ≤ (x22_1 : Int) := of_decide_eq_true za_; have q354 : x22_1 < (l0_1.length : Int) := of_decide_eq_true za_; obtain ⟨ad354, e354, hx354_0, hx354_1, hx354_2⟩ := at_T57 HR0_1.out x22_1 p354 q354
            cases e354
            (try (replace hx354_0 := (HB.out.cell (World.block_lt_of_cell? w _ hx354_0)).trans hx354_0)); (try (replace hx354_1 := (HB.out.cell (World.block_lt_of_cell? w _ hx354_1)).trans hx354_1)); (try (replace hx354_2 := (HB.out.cell (World.block_lt_of_cell? w _ hx354_2)).trans hx354_2)); replace p354 := eq_true p354; replace q354 := eq_true q354
            go_wp2_with (first | ((with_reducible refine gate_dst (N := 6) rfl ?_); refine box_event ?hg (N := 6) ?hd (cs := #[.int .i64 0, .int .i64 0, .int .i64 0]) (t := 57) ?hr ?_; (case hd => rfl); (case hg => rfl); (case hr => exact zc_); intro gb355 hg w21 hbox hb; have n_ := z (Kd.R_below (zr HO_4.out) hb) <| z (blk_below (zb BK349.out) hb) <| z (below_step zcf_ hb) <| z (hbox) <| z ((by rw [hg]; exact (below_size zcf_) : w.heap.size ≤ gb355)) <| z ((by rw [hg]; exact (below_size zcf_) : w.heap.size ≤ gb355)) <| z ((by rw [hg]; exact Nat.ne_of_lt (blk_lt (zb BK349.out)) : gb349 ≠ gb355)) <| z1 ((by rw [hg]; exact Nat.ne_of_gt (blk_lt (zb BK349.out)) : gb355 ≠ gb349)); clear HO_4 BK349 HB; obtain ⟨HO_4, BK349, HB, BK355, GW355, GE355, NB349_355, NB355_349⟩ := n_; clear hb hbox hg; have hnb22 := NB355_349.out; have hnc22 := NB349_355.out; have hcz23_0 : w21.cell? ⟨gb355, 0, none⟩ = some (.int .i64 0) := (blk_cell BK355.out 0).trans rfl; have hcz23_1 : w21.cell? ⟨gb355, 1, none⟩ = some (.int .i64 0) := (blk_cell BK355.out 1).trans rfl; have hcz23_2 : w21.cell? ⟨gb355, 2, none⟩ = some (.int .i64 0) := (blk_cell BK355.out 2).trans rfl; have hfz23_0 := blk_frozen BK355.out 0; have hfz23_1 := blk_frozen BK355.out 1; have hfz23_2 := blk_frozen BK355.out 2) | ((with_reducible refine gate_store (t := 57) (p := 6) rfl ?_); refine store_event (t := 57) (p := 6) (v := ?vo_w24) (w1 := (((w21.setCell ⟨gb355, 0, none⟩ (.int .i64 ((rd_T57 l0_1 x22_1).f0))).setCell ⟨gb355, 1, none⟩ (.int .i64 ((rd_T57 l0_1 x22_1).f1))).setCell ⟨gb355, 2, none⟩ (.int .i64 ((rd_T57 l0_1 x22_1).f2)))) ?hg ?ho ?hn ?hr ?_; (case ho => rfl); (case hg => rfl); (case hn => rfl); (case hr => exact zc_); intro w24 hw; have n0_ : Aside0 (Kd.R (Kd.int .i64) 3 w24 w.heap.size (fun _ => True) v352 x4_1) := ⟨(by rw [hw]; exact (by refine zr ?_; exact Kd.R_mono (Kd.R_far (p := ⟨gb355, 2, none⟩) (Kd.R_far (p := ⟨gb355, 1, none⟩) (Kd.R_far (p := ⟨gb355, 0, none⟩) (Kd.R_types HO_4.out BK355.out (by decide)) (fun _ hk => hk.2) (.int .i64 ((rd_T57 l0_1 x22_1).f0))) (fun _ hk => hk.2) (.int .i64 ((rd_T57 l0_1 x22_1).f1))) (fun _ hk => hk.2) (.int .i64 ((rd_T57 l0_1 x22_1).f2))) (fun _ hk => trivial)))⟩; have n1_ : Aside0 (w24.heap[gb349]? = some (.cells #[.int .i64 a0_0, .slice (some ad354) l0_1.length c0_1, .slice A0_2 l0_2.length c0_2] 49 (0, 0))) := ⟨(by rw [hw]; exact (by refine zb ?_; refine blk_far ?_ NB349_355.out _; refine zb ?_; refine blk_far ?_ NB349_355.out _; refine zb ?_; refine blk_far ?_ NB349_355.out _; refine zb ?_; exact BK349.out))⟩; have n2_ : Aside0 (w24.heap[gb355]? = some (.cells #[.int .i64 ((rd_T57 l0_1 x22_1).f0), .int .i64 ((rd_T57 l0_1 x22_1).f1), .int .i64 ((rd_T57 l0_1 x22_1).f2)] 57 (0, 0))) := ⟨(by rw [hw]; exact (by refine zb ?_; refine blk_put (cs := #[.int .i64 ((rd_T57 l0_1 x22_1).f0), .int .i64 ((rd_T57 l0_1 x22_1).f1), .int .i64 0]) ?_ 2 _ rfl; refine zb ?_; refine blk_put (cs := #[.int .i64 ((rd_T57 l0_1 x22_1).f0), .int .i64 0, .int .i64 0]) ?_ 1 _ rfl; refine zb ?_; refine blk_put (cs := #[.int .i64 0, .int .i64 0, .int .i64 0]) ?_ 0 _ rfl; refine zb ?_; exact BK355.out))⟩; have n3_ : Aside0 (Below w.heap.size w w24) := ⟨(by rw [hw]; exact zij_)⟩; clear hw HO_4 BK349 BK355 HB; have HO_4 := n0_; have BK349 := n1_; have BK355 := n2_; have HB := n3_; clear n0_ n1_ n2_ n3_; have hcz25_0 : w24.cell? ⟨gb355, 0, none⟩ = some (.int .i64 ((rd_T57 l0_1 x22_1).f0)) := (blk_cell BK355.out 0).trans rfl; have hcz25_1 : w24.cell? ⟨gb355, 1, none⟩ = some (.int .i64 ((rd_T57 l0_1 x22_1).f1)) := (blk_cell BK355.out 1).trans rfl; have hcz25_2 : w24.cell? ⟨gb355, 2, none⟩ = some (.int .i64 ((rd_T57 l0_1 x22_1).f2)) := (blk_cell BK355.out 2).trans rfl; have hfz25_0 := blk_frozen BK355.out 0; have hfz25_1 := blk_frozen BK355.out 1; have hfz25_2 := blk_frozen BK355.out 2; obtain ⟨Ao26, co26, eo26⟩ := Kd.R_slice HO_4.out; subst eo26; have p356 : 0 ≤ (((rd_T57 l0_1 x22_1).f1) : Int) := of_decide_eq_true za_; have q356 : ((rd_T57 l0_1 x22_1).f1) < (x4_1.length : Int) := of_decide_eq_true za_; obtain ⟨ad356, e356, hx356_0⟩ := Kd.at_int (Kd.R_reads' HO_4.out).2.2 ((rd_T57 l0_1 x22_1).f1) p356 q356; cases e356; replace p356 := eq_true p356; replace q356 := eq_true q356; have p19 : 0 ≤ (((rd_T57 l0_1 x22_1).f1) : Int) := of_decide_eq_true za_; have q19 : (((rd_T57 l0_1 x22_1).f1) : Int) < ((x4_1.length : Int) : Int) := of_decide_eq_true za_; obtain ⟨go19, co19, eo19, gb19, gl19, cl19, HG19⟩ := Kd.R_form HO_4.out (by omega); (first | cases eo19 | (injection eo19 with ea_ en_ ec_; (first | subst ea_ | (injection ea_ with ea_; subst ea_)); subst ec_; clear en_)); have GB19 := aM gb19; have GG19 := aM HG19; clear gb19 gl19 HG19; (first | simp only [add_plain] at hx356_0 | skip); obtain ⟨hx19_0, hf19_0⟩ := Kd.R_celln 0 HO_4.out (((rd_T57 l0_1 x22_1).f1) : Int) p19 q19; replace p19 := eq_true p19; replace q19 := eq_true q19; obtain ⟨hy27_, hz27_⟩ := Kd.R_celln 0 HO_4.out (((rd_T57 l0_1 x22_1).f1) : Int) (of_decide_eq_true za_) (of_decide_eq_true za_); have HP27 := Kd.R_putg HO_4.out (((rd_T57 l0_1 x22_1).f1) : Int) (wrap64 ((rd x4_1 ((rd_T57 l0_1 x22_1).f1)) + 1))) | ((with_reducible refine gate_store (t := 3) (p := 32) rfl ?_); refine store_event (t := 3) (p := 32) (v := ?vo_w28) (w1 := (w24.setCell ⟨go19, (((rd_T57 l0_1 x22_1).f1) : Int).toNat, none⟩ (.int .i64 (wrap64 ((rd x4_1 ((rd_T57 l0_1 x22_1).f1)) + 1))))) ?hg ?ho ?hn ?hr ?_; (case ho => rfl); (case hg => rfl); (case hn => rfl); (case hr => exact zc_); intro w28 hw; have hg : w24.grownBy w28 (some go19) := (by rw [hw]; exact HP27.2); have hp_ : Kd.R (Kd.int .i64) 3 w28 w.heap.size (fun _ => True) (.slice (some ⟨go19, 0, none⟩) x4_1.length co26) y357 := (by rw [hw, Ny357.out]; exact HP27.1); clear HP27; have n_ := z (hp_) <| z (blk_grown (g := gb349) (o := .cells #[.int .i64 a0_0, .slice (some ad354) l0_1.length c0_1, .slice A0_2 l0_2.length c0_2] 49 (0, 0)) (zb BK349.out) hg (Kd.R_ne HO_4.out BK349.out (by decide))) <| z (blk_grown (g := gb355) (o := .cells #[.int .i64 ((rd_T57 l0_1 x22_1).f0), .int .i64 ((rd_T57 l0_1 x22_1).f1), .int .i64 ((rd_T57 l0_1 x22_1).f2)] 57 (0, 0)) (zb BK355.out) hg (Kd.R_ne HO_4.out BK355.out (by decide))) <| z1 ((by rw [hw]; exact below_set (HB.out) GB19.out : Below w.heap.size w w28)); clear HO_4 BK349 BK355 HB; obtain ⟨HO_4, BK349, BK355, HB⟩ := n_; clear hg hw hp_; have hcz29_0 : w28.cell? ⟨gb355, 0, none⟩ = some (.int .i64 ((rd_T57 l0_1 x22_1).f0)) := (blk_cell BK355.out 0).trans rfl; have hcz29_1 : w28.cell? ⟨gb355, 1, none⟩ = some (.int .i64 ((rd_T57 l0_1 x22_1).f1)) := (blk_cell BK355.out 1).trans rfl; have hcz29_2 : w28.cell? ⟨gb355, 2, none⟩ = some (.int .i64 ((rd_T57 l0_1 x22_1).f2)) := (blk_cell BK355.out 2).trans rfl; have hfz29_0 := blk_frozen BK355.out 0; have hfz29_1 := blk_frozen BK355.out 1; have hfz29_2 := blk_frozen BK355.out 2))
            go_roundg k1
            case measure => have := HK1.out; omega
            case rel => exact ⟨(y357), (wrap64 (x22_1 + 1)), zd_, H', ⟨zbd_⟩, ⟨zr HO_4.out⟩, ⟨zb BK349.out⟩, ⟨zij_⟩⟩
           ·rw [if_neg c20] at H
            have c20b0 := beq_eq_false_iff_ne.mpr c20; have c20b1 := bne_iff_ne.mpr c20
            by_cases c30 : 0 ≤ ((rd_T57 l0_1 x22_1).f2)
            ·rw [if_pos c30] at H
             have c30b0 := decide_eq_true c30; clear c30
             by_cases c31 : ((rd_T57 l0_1 x22_1).f2) < (x4_1.length : Int)
             ·rw [if_pos c31] at H
              have c31b0 := decide_eq_true c31; clear c31; obtain ⟨y359, hy359⟩ : ∃ y_ : List Int, y_ = (y357.set (((rd_T57 l0_1 x22_1).f2) : Int).toNat (wrap64 ((rd y357 ((rd_T57 l0_1 x22_1).f2)) + 1))) := ⟨_, rfl⟩; replace H : (spec_FanOuts.l0 k1 y359 l0_1 (l0_1.length : Int) (wrap64 (x22_1 + 1)) a0_0 l0_1 l0_2) = some (r1, r2) := by first | (rw [hy359]; with_reducible exact H) | (have H2_ := (oS _ _).symm.trans H; rw [hy359]; with_reducible exact H2_) | (have H2_ := (oS _ _).symm.trans H; with_reducible exact H2_) | with_reducible exact H | (rw [hy359]; exact H) | exact H
              have Ny359 := aM hy359; clear hy359; have H' := aM H; clear H; have p354 : 0 ≤ (x22_1 : Int) := of_decide_eq_true za_; have q354 : x22_1 < (l0_1.length : Int) := of_decide_eq_true za_; obtain ⟨ad354, e354, hx354_0, hx354_1, hx354_2⟩ := at_T57 HR0_1.out x22_1 p354 q354
              cases e354
              (try (replace hx354_0 := (HB.out.cell (World.block_lt_of_cell? w _ hx354_0)).trans hx354_0)); (try (replace hx354_1 := (HB.out.cell (World.block_lt_of_cell? w _ hx354_1)).trans hx354_1)); (try (replace hx354_2 := (HB.out.cell (World.block_lt_of_cell? w _ hx354_2)).trans hx354_2)); replace p354 := eq_true p354; replace q354 := eq_true q354
              go_wp2_with (first | ((with_reducible refine gate_dst (N := 6) rfl ?_); refine box_event ?hg (N := 6) ?hd (cs := #[.int .i64 0, .int .i64 0, .int .i64 0]) (t := 57) ?hr ?_; (case hd => rfl); (case hg => rfl); (case hr => exact zc_); intro gb355 hg w33 hbox hb; have n_ := z (Kd.R_below (zr HO_4.out) hb) <| z (blk_below (zb BK349.out) hb) <| z (below_step zcf_ hb) <| z (hbox) <| z ((by rw [hg]; exact (below_size zcf_) : w.heap.size ≤ gb355)) <| z ((by rw [hg]; exact (below_size zcf_) : w.heap.size ≤ gb355)) <| z ((by rw [hg]; exact Nat.ne_of_lt (blk_lt (zb BK349.out)) : gb349 ≠ gb355)) <| z1 ((by rw [hg]; exact Nat.ne_of_gt (blk_lt (zb BK349.out)) : gb355 ≠ gb349)); clear HO_4 BK349 HB; obtain ⟨HO_4, BK349, HB, BK355, GW355, GE355, NB349_355, NB355_349⟩ := n_; clear hb hbox hg; have hnb34 := NB355_349.out; have hnc34 := NB349_355.out; have hcz35_0 : w33.cell? ⟨gb355, 0, none⟩ = some (.int .i64 0) := (blk_cell BK355.out 0).trans rfl; have hcz35_1 : w33.cell? ⟨gb355, 1, none⟩ = some (.int .i64 0) := (blk_cell BK355.out 1).trans rfl; have hcz35_2 : w33.cell? ⟨gb355, 2, none⟩ = some (.int .i64 0) := (blk_cell BK355.out 2).trans rfl; have hfz35_0 := blk_frozen BK355.out 0; have hfz35_1 := blk_frozen BK355.out 1; have hfz35_2 := blk_frozen BK355.out 2) | ((with_reducible refine gate_store (t := 57) (p := 6) rfl ?_); refine store_event (t := 57) (p := 6) (v := ?vo_w36) (w1 := (((w33.setCell ⟨gb355, 0, none⟩ (.int .i64 ((rd_T57 l0_1 x22_1).f0))).setCell ⟨gb355, 1, none⟩ (.int .i64 ((rd_T57 l0_1 x22_1).f1))).setCell ⟨gb355, 2, none⟩ (.int .i64 ((rd_T57 l0_1 x22_1).f2)))) ?hg ?ho ?hn ?hr ?_; (case ho => rfl); (case hg => rfl); (case hn => rfl); (case hr => exact zc_); intro w36 hw; have n0_ : Aside0 (Kd.R (Kd.int .i64) 3 w36 w.heap.size (fun _ => True) v352 x4_1) := ⟨(by rw [hw]; exact (by refine zr ?_; exact Kd.R_mono (Kd.R_far (p := ⟨gb355, 2, none⟩) (Kd.R_far (p := ⟨gb355, 1, none⟩) (Kd.R_far (p := ⟨gb355, 0, none⟩) (Kd.R_types HO_4.out BK355.out (by decide)) (fun _ hk => hk.2) (.int .i64 ((rd_T57 l0_1 x22_1).f0))) (fun _ hk => hk.2) (.int .i64 ((rd_T57 l0_1 x22_1).f1))) (fun _ hk => hk.2) (.int .i64 ((rd_T57 l0_1 x22_1).f2))) (fun _ hk => trivial)))⟩; have n1_ : Aside0 (w36.heap[gb349]? = some (.cells #[.int .i64 a0_0, .slice (some ad354) l0_1.length c0_1, .slice A0_2 l0_2.length c0_2] 49 (0, 0))) := ⟨(by rw [hw]; exact (by refine zb ?_; refine blk_far ?_ NB349_355.out _; refine zb ?_; refine blk_far ?_ NB349_355.out _; refine zb ?_; refine blk_far ?_ NB349_355.out _; refine zb ?_; exact BK349.out))⟩; have n2_ : Aside0 (w36.heap[gb355]? = some (.cells #[.int .i64 ((rd_T57 l0_1 x22_1).f0), .int .i64 ((rd_T57 l0_1 x22_1).f1), .int .i64 ((rd_T57 l0_1 x22_1).f2)] 57 (0, 0))) := ⟨(by rw [hw]; exact (by refine zb ?_; refine blk_put (cs := #[.int .i64 ((rd_T57 l0_1 x22_1).f0), .int .i64 ((rd_T57 l0_1 x22_1).f1), .int .i64 0]) ?_ 2 _ rfl; refine zb ?_; refine blk_put (cs := #[.int .i64 ((rd_T57 l0_1 x22_1).f0), .int .i64 0, .int .i64 0]) ?_ 1 _ rfl; refine zb ?_; refine blk_put (cs := #[.int .i64 0, .int .i64 0, .int .i64 0]) ?_ 0 _ rfl; refine zb ?_; exact BK355.out))⟩; have n3_ : Aside0 (Below w.heap.size w w36) := ⟨(by rw [hw]; exact zij_)⟩; clear hw HO_4 BK349 BK355 HB; have HO_4 := n0_; have BK349 := n1_; have BK355 := n2_; have HB := n3_; clear n0_ n1_ n2_ n3_; have hcz37_0 : w36.cell? ⟨gb355, 0, none⟩ = some (.int .i64 ((rd_T57 l0_1 x22_1).f0)) := (blk_cell BK355.out 0).trans rfl; have hcz37_1 : w36.cell? ⟨gb355, 1, none⟩ = some (.int .i64 ((rd_T57 l0_1 x22_1).f1)) := (blk_cell BK355.out 1).trans rfl; have hcz37_2 : w36.cell? ⟨gb355, 2, none⟩ = some (.int .i64 ((rd_T57 l0_1 x22_1).f2)) := (blk_cell BK355.out 2).trans rfl; have hfz37_0 := blk_frozen BK355.out 0; have hfz37_1 := blk_frozen BK355.out 1; have hfz37_2 := blk_frozen BK355.out 2; obtain ⟨Ao38, co38, eo38⟩ := Kd.R_slice HO_4.out; subst eo38; have p356 : 0 ≤ (((rd_T57 l0_1 x22_1).f1) : Int) := of_decide_eq_true za_; have q356 : ((rd_T57 l0_1 x22_1).f1) < (x4_1.length : Int) := of_decide_eq_true za_; obtain ⟨ad356, e356, hx356_0⟩ := Kd.at_int (Kd.R_reads' HO_4.out).2.2 ((rd_T57 l0_1 x22_1).f1) p356 q356; cases e356; replace p356 := eq_true p356; replace q356 := eq_true q356; have p19 : 0 ≤ (((rd_T57 l0_1 x22_1).f1) : Int) := of_decide_eq_true za_; have q19 : (((rd_T57 l0_1 x22_1).f1) : Int) < ((x4_1.length : Int) : Int) := of_decide_eq_true za_; obtain ⟨go19, co19, eo19, gb19, gl19, cl19, HG19⟩ := Kd.R_form HO_4.out (by omega); (first | cases eo19 | (injection eo19 with ea_ en_ ec_; (first | subst ea_ | (injection ea_ with ea_; subst ea_)); subst ec_; clear en_)); have GB19 := aM gb19; have GG19 := aM HG19; clear gb19 gl19 HG19; (first | simp only [add_plain] at hx356_0 | skip); obtain ⟨hx19_0, hf19_0⟩ := Kd.R_celln 0 HO_4.out (((rd_T57 l0_1 x22_1).f1) : Int) p19 q19; replace p19 := eq_true p19; replace q19 := eq_true q19; obtain ⟨hy39_, hz39_⟩ := Kd.R_celln 0 HO_4.out (((rd_T57 l0_1 x22_1).f1) : Int) (of_decide_eq_true za_) (of_decide_eq_true za_); have HP39 := Kd.R_putg HO_4.out (((rd_T57 l0_1 x22_1).f1) : Int) (wrap64 ((rd x4_1 ((rd_T57 l0_1 x22_1).f1)) + 1))) | ((with_reducible refine gate_store (t := 3) (p := 32) rfl ?_); refine store_event (t := 3) (p := 32) (v := ?vo_w40) (w1 := (w36.setCell ⟨go19, (((rd_T57 l0_1 x22_1).f1) : Int).toNat, none⟩ (.int .i64 (wrap64 ((rd x4_1 ((rd_T57 l0_1 x22_1).f1)) + 1))))) ?hg ?ho ?hn ?hr ?_; (case ho => rfl); (case hg => rfl); (case hn => rfl); (case hr => exact zc_); intro w40 hw; have hg : w36.grownBy w40 (some go19) := (by rw [hw]; exact HP39.2); have hp_ : Kd.R (Kd.int .i64) 3 w40 w.heap.size (fun _ => True) (.slice (some ⟨go19, 0, none⟩) x4_1.length co38) y357 := (by rw [hw, Ny357.out]; exact HP39.1); clear HP39; have n_ := z (hp_) <| z (blk_grown (g := gb349) (o := .cells #[.int .i64 a0_0, .slice (some ad354) l0_1.length c0_1, .slice A0_2 l0_2.length c0_2] 49 (0, 0)) (zb BK349.out) hg (Kd.R_ne HO_4.out BK349.out (by decide))) <| z (blk_grown (g := gb355) (o := .cells #[.int .i64 ((rd_T57 l0_1 x22_1).f0), .int .i64 ((rd_T57 l0_1 x22_1).f1), .int .i64 ((rd_T57 l0_1 x22_1).f2)] 57 (0, 0)) (zb BK355.out) hg (Kd.R_ne HO_4.out BK355.out (by decide))) <| z1 ((by rw [hw]; exact below_set (HB.out) GB19.out : Below w.heap.size w w40)); clear HO_4 BK349 BK355 HB; obtain ⟨HO_4, BK349, BK355, HB⟩ := n_; clear hg hw hp_; have hcz41_0 : w40.cell? ⟨gb355, 0, none⟩ = some (.int .i64 ((rd_T57 l0_1 x22_1).f0)) := (blk_cell BK355.out 0).trans rfl; have hcz41_1 : w40.cell? ⟨gb355, 1, none⟩ = some (.int .i64 ((rd_T57 l0_1 x22_1).f1)) := (blk_cell BK355.out 1).trans rfl; have hcz41_2 : w40.cell? ⟨gb355, 2, none⟩ = some (.int .i64 ((rd_T57 l0_1 x22_1).f2)) := (blk_cell BK355.out 2).trans rfl; have hfz41_0 := blk_frozen BK355.out 0; have hfz41_1 := blk_frozen BK355.out 1; have hfz41_2 := blk_frozen BK355.out 2; have p358 : 0 ≤ (((rd_T57 l0_1 x22_1).f2) : Int) := of_decide_eq_true za_; have q358 : ((rd_T57 l0_1 x22_1).f2) < (y357.length : Int) := (by have h_ : (((rd_T57 l0_1 x22_1).f2) : Int) < ((x4_1.length : Int) : Int) := of_decide_eq_true za_; first | (have e_ := (Kd.R_reads' HO_4.out).1; omega) | simpa only [Ny357.out, List.length_set] using h_); have ql358 : ((((rd_T57 l0_1 x22_1).f2) : Int) < ((x4_1.length : Int) : Int)) = True := eq_true (of_decide_eq_true za_); obtain ⟨ad358, e358, hx358_0⟩ := Kd.at_int (Kd.R_reads' HO_4.out).2.2 ((rd_T57 l0_1 x22_1).f2) p358 q358; obtain rfl : (⟨go19, 0, none⟩ : Addr) = ad358 := (by injection e358); (first | simp only [add_plain] at hx358_0 | simp only [add_at] at hx358_0 | simp only [Addr.add, Nat.zero_add] at hx358_0 | skip); replace p358 := eq_true p358; replace q358 := eq_true q358; have p32 : 0 ≤ (((rd_T57 l0_1 x22_1).f2) : Int) := of_decide_eq_true za_; have q32 : (((rd_T57 l0_1 x22_1).f2) : Int) < ((x4_1.length : Int) : Int) := of_decide_eq_true za_; obtain ⟨hx32_0, hf32_0⟩ := Kd.R_celln 0 HO_4.out (((rd_T57 l0_1 x22_1).f2) : Int) p32 q32; replace p32 := eq_true p32; replace q32 := eq_true q32; obtain ⟨hy42_, hz42_⟩ := Kd.R_celln 0 HO_4.out (((rd_T57 l0_1 x22_1).f2) : Int) (of_decide_eq_true za_) (of_decide_eq_true za_); have HP42 := Kd.R_putg HO_4.out (((rd_T57 l0_1 x22_1).f2) : Int) (wrap64 ((rd y357 ((rd_T57 l0_1 x22_1).f2)) + 1))) | ((with_reducible refine gate_store (t := 3) (p := 42) rfl ?_); refine store_event (t := 3) (p := 42) (v := ?vo_w43) (w1 := (w40.setCell ⟨go19, (((rd_T57 l0_1 x22_1).f2) : Int).toNat, none⟩ (.int .i64 (wrap64 ((rd y357 ((rd_T57 l0_1 x22_1).f2)) + 1))))) ?hg ?ho ?hn ?hr ?_; (case ho => rfl); (case hg => rfl); (case hn => rfl); (case hr => exact zc_); intro w43 hw; have hg : w40.grownBy w43 (some go19) := (by rw [hw]; exact HP42.2); have hp_ : Kd.R (Kd.int .i64) 3 w43 w.heap.size (fun _ => True) (.slice (some ⟨go19, 0, none⟩) x4_1.length co38) y359 := (by rw [hw, Ny359.out]; exact HP42.1); clear HP42; have n_ := z (hp_) <| z (blk_grown (g := gb349) (o := .cells #[.int .i64 a0_0, .slice (some ad354) l0_1.length c0_1, .slice A0_2 l0_2.length c0_2] 49 (0, 0)) (zb BK349.out) hg (Kd.R_ne HO_4.out BK349.out (by decide))) <| z (blk_grown (g := gb355) (o := .cells #[.int .i64 ((rd_T57 l0_1 x22_1).f0), .int .i64 ((rd_T57 l0_1 x22_1).f1), .int .i64 ((rd_T57 l0_1 x22_1).f2)] 57 (0, 0)) (zb BK355.out) hg (Kd.R_ne HO_4.out BK355.out (by decide))) <| z1 ((by rw [hw]; exact below_set (HB.out) GB19.out : Below w.heap.size w w43)); clear HO_4 BK349 BK355 HB; obtain ⟨HO_4, BK349, BK355, HB⟩ := n_; clear hg hw hp_))
              go_roundg k1
              case measure => have := HK1.out; omega
              case rel => exact ⟨(y359), (wrap64 (x22_1 + 1)), zd_, H', ⟨zbd_⟩, ⟨zr HO_4.out⟩, ⟨zb BK349.out⟩, ⟨zij_⟩⟩
             ·rw [if_neg c31] at H
              exact absurd H (by simp)
            ·rw [if_neg c30] at H
             exact absurd H (by simp)
          ·rw [if_neg c18] at H
           exact absurd H (by simp)
         ·rw [if_neg c17] at H
          exact absurd H (by simp)
        ·rw [if_neg c16] at H
         exact absurd H (by simp)
       ·rw [if_neg c15] at H
        exact absurd H (by simp)
      ·rw [if_neg c14] at H
       have c14b0 := decide_eq_false c14; clear c14; have H' := aM H; clear H; have hcz44_0 : wr.cell? ⟨gb349, 0, none⟩ = some (.int .i64 a0_0) := (blk_cell BK349.out 0).trans rfl; have hcz44_1 : wr.cell? ⟨gb349, 1, none⟩ = some (.slice A0_1 l0_1.length c0_1) := (blk_cell BK349.out 1).trans rfl; have hcz44_2 : wr.cell? ⟨gb349, 2, none⟩ = some (.slice A0_2 l0_2.length c0_2) := (blk_cell BK349.out 2).trans rfl; have hfz44_0 := blk_frozen BK349.out 0; have hfz44_1 := blk_frozen BK349.out 1; have hfz44_2 := blk_frozen BK349.out 2
       go_wp2
       go_loopg [47] k1 (fun kq v47 w' => ∃ (x4_2 : List Int) (x47_2 : Int), v47 = .int .i64 x47_2 ∧ Aside0 (spec_FanOuts.l1 kq x4_2 l0_2 (l0_2.length : Int) x47_2 = some (r1, r2)) ∧ Aside0 (kq ≤ k1) ∧ Aside0 (Kd.R (Kd.int .i64) 3 w' w.heap.size (fun _ => True) v352 x4_2) ∧ Aside0 (w'.heap[gb349]? = some (.cells #[.int .i64 a0_0, (.slice A0_1 l0_1.length c0_1), (.slice A0_2 l0_2.length c0_2)] 49 (0, 0))) ∧ Aside0 (Below w.heap.size w w'))
       case atStart => exact ⟨(x4_1), (0), zd_, H', ⟨Nat.le_refl _⟩, ⟨zr HO_4.out⟩, ⟨zb BK349.out⟩, ⟨zcf_⟩⟩
       case round =>
        clear H'; (try clear c14b0); (try clear hcz44_0); (try clear hcz44_1); (try clear hcz44_2); (try clear hfz44_0); (try clear hfz44_1); (try clear hfz44_2); obtain ⟨x4_2, x47_2, rfl, HA, HK2, HO_4, BK349, HB⟩ := hrel
        cases gk with
        | zero => exact absurd HA.out (by simp [spec_FanOuts.l1])
        | succ k2 =>
         have H := HA.out; clear HA
         simp only [spec_FanOuts.l1] at H
         by_cases c45 : x47_2 < (l0_2.length : Int)
         ·rw [if_pos c45] at H
          have c45b0 := decide_eq_true c45; clear c45
          by_cases c46 : 0 ≤ x47_2
          ·rw [if_pos c46] at H
           have c46b0 := decide_eq_true c46; clear c46
           by_cases c47 : x47_2 < (l0_2.length : Int)
           ·rw [if_pos c47] at H
            have c47b0 := decide_eq_true c47; clear c47
            by_cases c48 : 0 ≤ (rd l0_2 x47_2)
            ·rw [if_pos c48] at H
             have c48b0 := decide_eq_true c48; clear c48
             by_cases c49 : (rd l0_2 x47_2) < (x4_2.length : Int)
             ·rw [if_pos c49] at H
              have c49b0 := decide_eq_true c49; clear c49; obtain ⟨y362, hy362⟩ : ∃ y_ : List Int, y_ = (x4_2.set ((rd l0_2 x47_2) : Int).toNat (wrap64 ((rd x4_2 (rd l0_2 x47_2)) + 1))) := ⟨_, rfl⟩; replace H : (spec_FanOuts.l1 k2 y362 l0_2 (l0_2.length : Int) (wrap64 (x47_2 + 1))) = some (r1, r2) := by first | (rw [hy362]; with_reducible exact H) | (have H2_ := (oS _ _).symm.trans H; rw [hy362]; with_reducible exact H2_) | (have H2_ := (oS _ _).symm.trans H; with_reducible exact H2_) | with_reducible exact H | (rw [hy362]; exact H) | exact H
              have Ny362 := aM hy362; clear hy362; have H' := aM H; clear H; have p360 : 0 ≤ (x47_2 : Int) := of_decide_eq_true za_; have q360 : x47_2 < (l0_2.length : Int) := of_decide_eq_true za_; obtain ⟨ad360, e360, hx360_0⟩ := Kd.at_int HR0_2.out x47_2 p360 q360
              cases e360
              (try (replace hx360_0 := (HB.out.cell (World.block_lt_of_cell? w _ hx360_0)).trans hx360_0)); replace p360 := eq_true p360; replace q360 := eq_true q360; obtain ⟨Ao51, co51, eo51⟩ := Kd.R_slice HO_4.out; subst eo51; have p361 : 0 ≤ ((rd l0_2 x47_2) : Int) := of_decide_eq_true za_; have q361 : (rd l0_2 x47_2) < (x4_2.length : Int) := of_decide_eq_true za_; obtain ⟨ad361, e361, hx361_0⟩ := Kd.at_int (Kd.R_reads' HO_4.out).2.2 (rd l0_2 x47_2) p361 q361
              cases e361
              replace p361 := eq_true p361; replace q361 := eq_true q361; have p50 : 0 ≤ ((rd l0_2 x47_2) : Int) := of_decide_eq_true za_; have q50 : ((rd l0_2 x47_2) : Int) < ((x4_2.length : Int) : Int) := of_decide_eq_true za_; obtain ⟨go50, co50, eo50, gb50, gl50, cl50, HG50⟩ := Kd.R_form HO_4.out (by omega); (first | cases eo50 | (injection eo50 with ea_ en_ ec_; (first | subst ea_ | (injection ea_ with ea_; subst ea_)); subst ec_; clear en_)); have GB50 := aM gb50; have GG50 := aM HG50; clear gb50 gl50 HG50; (first | simp only [add_plain] at hx361_0 | skip); obtain ⟨hx50_0, hf50_0⟩ := Kd.R_celln 0 HO_4.out ((rd l0_2 x47_2) : Int) p50 q50; replace p50 := eq_true p50; replace q50 := eq_true q50; have HP52 := Kd.R_putg HO_4.out ((rd l0_2 x47_2) : Int) (wrap64 ((rd x4_2 (rd l0_2 x47_2)) + 1))
              go_wp2_with (first | ((with_reducible refine gate_store (t := 3) (p := 56) rfl ?_); refine store_event (t := 3) (p := 56) (v := ?vo_w53) (w1 := (wr.setCell ⟨go50, ((rd l0_2 x47_2) : Int).toNat, none⟩ (.int .i64 (wrap64 ((rd x4_2 (rd l0_2 x47_2)) + 1))))) ?hg ?ho ?hn ?hr ?_; (case ho => rfl); (case hg => rfl); (case hn => rfl); (case hr => exact zc_); intro w53 hw; have hg : wr.grownBy w53 (some go50) := (by rw [hw]; exact HP52.2); have hp_ : Kd.R (Kd.int .i64) 3 w53 w.heap.size (fun _ => True) (.slice (some ⟨go50, 0, none⟩) x4_2.length co51) y362 := (by rw [hw, Ny362.out]; exact HP52.1); clear HP52; have n_ := z (hp_) <| z (blk_grown (g := gb349) (o := .cells #[.int .i64 a0_0, .slice A0_1 l0_1.length c0_1, .slice (some ad360) l0_2.length c0_2] 49 (0, 0)) (zb BK349.out) hg (Kd.R_ne HO_4.out BK349.out (by decide))) <| z1 ((by rw [hw]; exact below_set (HB.out) GB50.out : Below w.heap.size w w53)); clear HO_4 BK349 HB; obtain ⟨HO_4, BK349, HB⟩ := n_; clear hg hw hp_))
              go_roundg k2
              case measure => have := HK1.out; have := HK2.out; omega
              case rel => exact ⟨(y362), (wrap64 (x47_2 + 1)), zd_, H', ⟨zca_⟩, ⟨zr HO_4.out⟩, ⟨zb BK349.out⟩, ⟨zcf_⟩⟩
             ·rw [if_neg c49] at H
              exact absurd H (by simp)
            ·rw [if_neg c48] at H
             exact absurd H (by simp)
           ·rw [if_neg c47] at H
            exact absurd H (by simp)
          ·rw [if_neg c46] at H
           exact absurd H (by simp)
         ·rw [if_neg c45] at H
          have c45b0 := decide_eq_false c45; clear c45
          simp only [Option.some.injEq, Prod.mk.injEq] at H
          obtain ⟨rfl, rfl⟩ := H
          go_wp2
          go_ret2
          exact ⟨_, by first | rfl | (simp [errW_none, errW_some] <;> rfl) | (simp only [← hji4]; first | rfl | (simp [errW_none, errW_some] <;> rfl)) | (simp [*, errW_none, errW_some] <;> rfl), by refine zr ?_; exact HO_4.out, zcf_⟩
   ·rw [if_neg c6] at H
    exact absurd H (by simp)
  ·rw [if_neg c5] at H
   exact absurd H (by simp)
 ·replace c3 := Bool.eq_false_iff.mpr c3
  subst c3; have H1 : (some (([] : List Int), false)) = some (r1, r2) := by rw [if_neg (show ¬ (false = true) by decide)] at H; exact H
  clear H; have H := H1; clear H1
  simp only [Option.some.injEq, Prod.mk.injEq] at H
  obtain ⟨rfl, rfl⟩ := H
  go_enter Try.func34, Try.ntmps34
  go_wp2_with (first | ((with_reducible refine gate_dst (N := 1) rfl ?_); refine box_event ?hg (N := 1) ?hd (cs := #[.int .i64 a0_0, .slice A0_1 l0_1.length c0_1, .slice A0_2 l0_2.length c0_2]) (t := 49) ?hr ?_; (case hd => rfl); (case hg => rfl); (case hr => exact zc_); intro gb349 hg w54 hbox hb; have n_ := z (below_step zb_ hb) <| z (hbox) <| z ((by rw [hg]; exact (below_size zb_) : w.heap.size ≤ gb349)) <| z1 ((by rw [hg]; exact (below_size zb_) : w.heap.size ≤ gb349)); clear HB; obtain ⟨HB, BK349, GW349, GE349⟩ := n_; clear hb hbox hg; have hcz55_0 : w54.cell? ⟨gb349, 0, none⟩ = some (.int .i64 a0_0) := (blk_cell BK349.out 0).trans rfl; have hcz55_1 : w54.cell? ⟨gb349, 1, none⟩ = some (.slice A0_1 l0_1.length c0_1) := (blk_cell BK349.out 1).trans rfl; have hcz55_2 : w54.cell? ⟨gb349, 2, none⟩ = some (.slice A0_2 l0_2.length c0_2) := (blk_cell BK349.out 2).trans rfl; have hfz55_0 := blk_frozen BK349.out 0; have hfz55_1 := blk_frozen BK349.out 1; have hfz55_2 := blk_frozen BK349.out 2) | ((with_reducible refine gate_callee (f := 119) rfl ?_); refine goesL_ (some 10) rfl rfl Try.func119 (by kernel_rfl) rfl #[.agg #[.int .i64 a0_0, .slice A0_1 l0_1.length c0_1, .slice A0_2 l0_2.length c0_2]] rfl ze_ ?_; (with_reducible refine (spec_ciGood.calls k a0_0 _ _ l0_1 _ _ l0_2 false _ ?side1 ?side2 ?side3 ?side4 A2.out).mono ?_); (case side1 => exact zg_); (case side2 => exact HC0_1.out); (case side3 => exact zj_); (case side4 => exact HC0_2.out); rintro e w56 ⟨rfl, hb⟩; refine ⟨_, rfl, ?_⟩; have n_ := z (blk_below (zb BK349.out) hb) <| z1 (below_step zcf_ hb); clear BK349 HB; obtain ⟨BK349, HB⟩ := n_; clear hb))
  go_ret2
  exact ⟨_, zf_, zcb_, zcf_⟩
def laws_sameInts.l0 : Nat → List Int → List Int → Int → Int → Option (Bool)
 | 0, _, _, _, _ => none
 | k + 1, x0, x1, x12, x13 => if x13 < x12 then (if 0 ≤ x13 then (if x13 < (x0.length : Int) then (if x13 < (x1.length : Int) then (if (rd x0 x13) = (rd x1 x13) then (laws_sameInts.l0 k x0 x1 x12 (wrap64 (x13 + 1))) else (some false)) else (none)) else (none)) else (none)) else (some true)
def laws_sameInts.f (k : Nat) (l0 : List Int) (l1 : List Int) : Option (Bool) := if (l0.length : Int) = (l1.length : Int) then (laws_sameInts.l0 k l0 l1 (l0.length : Int) 0) else (some false)
theorem laws_sameInts.calls (k : Nat) (A0 : Option Addr) (c0 : Nat) (l0 : List Int) (A1 : Option Addr) (c1 : Nat) (l1 : List Int) (r : Bool) (w : World) (hr0 : Kd.C (Kd.int .i64) w A0 l0.length l0) (hc0 : l0.length ≤ c0) (hr1 : Kd.C (Kd.int .i64) w A1 l1.length l1) (hc1 : l1.length ≤ c1) (h : laws_sameInts.f k l0 l1 = some r) :
  Calls Try.prog 35 #[.slice A0 l0.length c0, .slice A1 l1.length c1] w fun e w' => e = .returned (.bool r) ∧ Drawn0 w w' := by
 have HR0 := aM hr0
 have HC0 := aM hc0
 clear hr0 hc0
 have HR1 := aM hr1
 have HC1 := aM hc1
 clear hr1 hc1
 have H : (if (l0.length : Int) = (l1.length : Int) then (laws_sameInts.l0 k l0 l1 (l0.length : Int) 0) else (some false)) = some r := h
 clear h
 by_cases c3 : (l0.length : Int) = (l1.length : Int)
 ·rw [if_pos c3] at H
  have c3b0 := beq_iff_eq.mpr c3; have c3b1 := bne_eq_false_iff_eq.mpr c3; have c3b2 : (l0.length == l1.length) = true := by first | simpa using c3 | (simp at c3 ⊢; omega)
  clear c3; have H' := aM H; clear H
  go_enter Try.func35, Try.ntmps35
  go_wp2
  repeat (go_quiet (fail); try go_wp2)
  go_loopg [13] k (fun kq v13 w' => ∃ (x13_1 : Int), v13 = .int .i64 x13_1 ∧ Aside0 (laws_sameInts.l0 kq l0 l1 (l0.length : Int) x13_1 = some r) ∧ Aside0 (kq ≤ k) ∧ Drawn0 w w')
  case atStart => exact ⟨(0), zd_, H', ⟨Nat.le_refl _⟩, zi_⟩
  case round =>
   clear H'; (try clear c3b0); (try clear c3b1); (try clear c3b2); obtain ⟨x13_1, rfl, HA, HK1, ⟨m1, rfl⟩⟩ := hrel
   cases gk with
   | zero => exact absurd HA.out (by simp [laws_sameInts.l0])
   | succ k1 =>
    have H := HA.out; clear HA
    simp only [laws_sameInts.l0] at H
    by_cases c4 : x13_1 < (l0.length : Int)
    ·rw [if_pos c4] at H
     have c4b0 := decide_eq_true c4; clear c4
     by_cases c5 : 0 ≤ x13_1
     ·rw [if_pos c5] at H
      have c5b0 := decide_eq_true c5; clear c5
      by_cases c6 : x13_1 < (l0.length : Int)
      ·rw [if_pos c6] at H
       have c6b0 := decide_eq_true c6; clear c6
       by_cases c7 : x13_1 < (l1.length : Int)
       ·rw [if_pos c7] at H
        have c7b0 := decide_eq_true c7; clear c7
        by_cases c8 : (rd l0 x13_1) = (rd l1 x13_1)
        ·rw [if_pos c8] at H
         have c8b0 := beq_iff_eq.mpr c8; have c8b1 := bne_eq_false_iff_eq.mpr c8; clear c8; have H' := aM H; clear H; have p363 : 0 ≤ (x13_1 : Int) := of_decide_eq_true za_; have q363 : x13_1 < (l0.length : Int) := of_decide_eq_true za_; obtain ⟨ad363, e363, hx363_0⟩ := Kd.at_int HR0.out x13_1 p363 q363
         cases e363
         replace p363 := eq_true p363; replace q363 := eq_true q363; have p364 : 0 ≤ (x13_1 : Int) := of_decide_eq_true za_; have q364 : x13_1 < (l1.length : Int) := of_decide_eq_true za_; obtain ⟨ad364, e364, hx364_0⟩ := Kd.at_int HR1.out x13_1 p364 q364
         cases e364
         replace p364 := eq_true p364; replace q364 := eq_true q364
         go_wp2
         repeat (go_quiet (fail); try go_wp2)
         go_roundg k1
         case measure => have := HK1.out; omega
         case rel => exact ⟨(wrap64 (x13_1 + 1)), zd_, H', ⟨zbd_⟩, zi_⟩
        ·rw [if_neg c8] at H
         have c8b0 := beq_eq_false_iff_ne.mpr c8; have c8b1 := bne_iff_ne.mpr c8; obtain rfl := Option.some.inj H; have p363 : 0 ≤ (x13_1 : Int) := of_decide_eq_true za_; have q363 : x13_1 < (l0.length : Int) := of_decide_eq_true za_; obtain ⟨ad363, e363, hx363_0⟩ := Kd.at_int HR0.out x13_1 p363 q363
         cases e363
         replace p363 := eq_true p363; replace q363 := eq_true q363; have p364 : 0 ≤ (x13_1 : Int) := of_decide_eq_true za_; have q364 : x13_1 < (l1.length : Int) := of_decide_eq_true za_; obtain ⟨ad364, e364, hx364_0⟩ := Kd.at_int HR1.out x13_1 p364 q364
         cases e364
         replace p364 := eq_true p364; replace q364 := eq_true q364
         go_wp2
         repeat (go_quiet (fail); try go_wp2)
         go_ret
         exact ⟨zd_, zi_⟩
       ·rw [if_neg c7] at H
        exact absurd H (by simp)
      ·rw [if_neg c6] at H
       exact absurd H (by simp)
     ·rw [if_neg c5] at H
      exact absurd H (by simp)
    ·rw [if_neg c4] at H
     have c4b0 := decide_eq_false c4; clear c4; obtain rfl := Option.some.inj H
     go_wp2
     repeat (go_quiet (fail); try go_wp2)
     go_ret
     exact ⟨zd_, zi_⟩
 ·rw [if_neg c3] at H
  have c3b0 := beq_eq_false_iff_ne.mpr c3; have c3b1 := bne_iff_ne.mpr c3; have c3b2 : (l0.length == l1.length) = false := by first | simpa using c3 | (simp at c3 ⊢; omega)
  obtain rfl := Option.some.inj H
  go_enter Try.func35, Try.ntmps35
  go_wp2
  repeat (go_quiet (fail); try go_wp2)
  go_ret
  exact ⟨zd_, zi_⟩
def laws_sameLists.l0 : Nat → List (List Int) → List (List Int) → Int → Int → Option (Bool)
 | 0, _, _, _, _ => none
 | k + 1, x0, x1, x12, x13 => if x13 < x12 then (if 0 ≤ x13 then (if x13 < (x0.length : Int) then (if x13 < (x1.length : Int) then ((laws_sameInts.f k (rd_L4 x0 x13) (rd_L4 x1 x13)).bind fun t367 => (if t367 = true then (laws_sameLists.l0 k x0 x1 x12 (wrap64 (x13 + 1))) else (some false))) else (none)) else (none)) else (none)) else (some true)
def laws_sameLists.f (k : Nat) (l0 : List (List Int)) (l1 : List (List Int)) : Option (Bool) := if (l0.length : Int) = (l1.length : Int) then (laws_sameLists.l0 k l0 l1 (l0.length : Int) 0) else (some false)
theorem laws_sameLists.calls (k : Nat) (A0 : Option Addr) (c0 : Nat) (l0 : List (List Int)) (A1 : Option Addr) (c1 : Nat) (l1 : List (List Int)) (r : Bool) (w : World) (hr0 : Kd.C (Kd.slice 3 (Kd.int .i64)) w A0 l0.length l0) (hc0 : l0.length ≤ c0) (hr1 : Kd.C (Kd.slice 3 (Kd.int .i64)) w A1 l1.length l1) (hc1 : l1.length ≤ c1) (h : laws_sameLists.f k l0 l1 = some r) :
  Calls Try.prog 36 #[.slice A0 l0.length c0, .slice A1 l1.length c1] w fun e w' => e = .returned (.bool r) ∧ Drawn0 w w' := by
 have HR0 := aM hr0
 have HC0 := aM hc0
 clear hr0 hc0
 have HR1 := aM hr1
 have HC1 := aM hc1
 clear hr1 hc1
 have H : (if (l0.length : Int) = (l1.length : Int) then (laws_sameLists.l0 k l0 l1 (l0.length : Int) 0) else (some false)) = some r := h
 clear h
 by_cases c3 : (l0.length : Int) = (l1.length : Int)
 ·rw [if_pos c3] at H
  have c3b0 := beq_iff_eq.mpr c3; have c3b1 := bne_eq_false_iff_eq.mpr c3; have c3b2 : (l0.length == l1.length) = true := by first | simpa using c3 | (simp at c3 ⊢; omega)
  clear c3; have H' := aM H; clear H
  go_enter Try.func36, Try.ntmps36
  go_wp2
  repeat (go_quiet (fail); try go_wp2)
  go_loopg [13] k (fun kq v13 w' => ∃ (x13_1 : Int), v13 = .int .i64 x13_1 ∧ Aside0 (laws_sameLists.l0 kq l0 l1 (l0.length : Int) x13_1 = some r) ∧ Aside0 (kq ≤ k) ∧ Drawn0 w w')
  case atStart => exact ⟨(0), zd_, H', ⟨Nat.le_refl _⟩, zi_⟩
  case round =>
   clear H'; (try clear c3b0); (try clear c3b1); (try clear c3b2); obtain ⟨x13_1, rfl, HA, HK1, ⟨m1, rfl⟩⟩ := hrel
   cases gk with
   | zero => exact absurd HA.out (by simp [laws_sameLists.l0])
   | succ k1 =>
    have H := HA.out; clear HA
    simp only [laws_sameLists.l0] at H
    by_cases c4 : x13_1 < (l0.length : Int)
    ·rw [if_pos c4] at H
     have c4b0 := decide_eq_true c4; clear c4
     by_cases c5 : 0 ≤ x13_1
     ·rw [if_pos c5] at H
      have c5b0 := decide_eq_true c5; clear c5
      by_cases c6 : x13_1 < (l0.length : Int)
      ·rw [if_pos c6] at H
       have c6b0 := decide_eq_true c6; clear c6
       by_cases c7 : x13_1 < (l1.length : Int)
       ·rw [if_pos c7] at H
        have c7b0 := decide_eq_true c7; clear c7; replace H := oB.mp H; obtain ⟨t367, A80, H⟩ := H; replace H : (if t367 = true then (laws_sameLists.l0 k1 l0 l1 (l0.length : Int) (wrap64 (x13_1 + 1))) else (some false)) = some r := H; have A8 := aM A80; clear A80
        by_cases c9 : t367 = true
        ·subst c9
         have H1 : (laws_sameLists.l0 k1 l0 l1 (l0.length : Int) (wrap64 (x13_1 + 1))) = some r := by rw [if_pos rfl] at H; exact H
         clear H; have H := H1; clear H1; have H' := aM H; clear H; have p365 : 0 ≤ (x13_1 : Int) := of_decide_eq_true za_; have q365 : x13_1 < (l0.length : Int) := of_decide_eq_true za_; obtain ⟨ad365, A365_0, c365_0, e365, hx365_0, hl365_0, hi365_0⟩ := at_L4 HR0.out x13_1 p365 q365
         cases e365
         have HR365_0 := aM hi365_0; have HC365_0 := aM hl365_0; clear hi365_0 hl365_0; replace p365 := eq_true p365; replace q365 := eq_true q365; have p366 : 0 ≤ (x13_1 : Int) := of_decide_eq_true za_; have q366 : x13_1 < (l1.length : Int) := of_decide_eq_true za_; obtain ⟨ad366, A366_0, c366_0, e366, hx366_0, hl366_0, hi366_0⟩ := at_L4 HR1.out x13_1 p366 q366
         cases e366
         have HR366_0 := aM hi366_0; have HC366_0 := aM hl366_0; clear hi366_0 hl366_0; replace p366 := eq_true p366; replace q366 := eq_true q366
         go_wp2_with (first | (go_at_call 35; (with_reducible refine (laws_sameInts.calls k1 _ _ (rd_L4 l0 x13_1) _ _ (rd_L4 l1 x13_1) true _ ?side1 ?side2 ?side3 ?side4 A8.out).mono ?_); (case side1 => exact zgj_); (case side2 => exact HC365_0.out); (case side3 => exact zha_); (case side4 => exact HC366_0.out); rintro e w' ⟨rfl, ⟨nd, rfl⟩⟩; (try first | exact ⟨rfl, _, World.drewN_drewN _ _ _⟩ | exact ⟨rfl, _, Eq.trans (World.drewN_drewN _ _ _) (congrArg (World.drewN _) (Nat.add_assoc _ _ _))⟩)))
         repeat (go_quiet (first | (go_at_call 35; (with_reducible refine (laws_sameInts.calls k1 _ _ (rd_L4 l0 x13_1) _ _ (rd_L4 l1 x13_1) true _ ?side1 ?side2 ?side3 ?side4 A8.out).mono ?_); (case side1 => exact zgj_); (case side2 => exact HC365_0.out); (case side3 => exact zha_); (case side4 => exact HC366_0.out); rintro e w' ⟨rfl, ⟨nd, rfl⟩⟩; (try first | exact ⟨rfl, _, World.drewN_drewN _ _ _⟩ | exact ⟨rfl, _, Eq.trans (World.drewN_drewN _ _ _) (congrArg (World.drewN _) (Nat.add_assoc _ _ _))⟩))); try go_wp2_with (first | (go_at_call 35; (with_reducible refine (laws_sameInts.calls k1 _ _ (rd_L4 l0 x13_1) _ _ (rd_L4 l1 x13_1) true _ ?side1 ?side2 ?side3 ?side4 A8.out).mono ?_); (case side1 => exact zgj_); (case side2 => exact HC365_0.out); (case side3 => exact zha_); (case side4 => exact HC366_0.out); rintro e w' ⟨rfl, ⟨nd, rfl⟩⟩; (try first | exact ⟨rfl, _, World.drewN_drewN _ _ _⟩ | exact ⟨rfl, _, Eq.trans (World.drewN_drewN _ _ _) (congrArg (World.drewN _) (Nat.add_assoc _ _ _))⟩))))
         go_roundg k1
         case measure => have := HK1.out; omega
         case rel => exact ⟨(wrap64 (x13_1 + 1)), zd_, H', ⟨zbd_⟩, zi_⟩
        ·replace c9 := Bool.eq_false_iff.mpr c9
         subst c9; have H1 : (some false) = some r := by rw [if_neg (show ¬ (false = true) by decide)] at H; exact H
         clear H; have H := H1; clear H1; obtain rfl := Option.some.inj H; have p365 : 0 ≤ (x13_1 : Int) := of_decide_eq_true za_; have q365 : x13_1 < (l0.length : Int) := of_decide_eq_true za_; obtain ⟨ad365, A365_0, c365_0, e365, hx365_0, hl365_0, hi365_0⟩ := at_L4 HR0.out x13_1 p365 q365
         cases e365
         have HR365_0 := aM hi365_0; have HC365_0 := aM hl365_0; clear hi365_0 hl365_0; replace p365 := eq_true p365; replace q365 := eq_true q365; have p366 : 0 ≤ (x13_1 : Int) := of_decide_eq_true za_; have q366 : x13_1 < (l1.length : Int) := of_decide_eq_true za_; obtain ⟨ad366, A366_0, c366_0, e366, hx366_0, hl366_0, hi366_0⟩ := at_L4 HR1.out x13_1 p366 q366
         cases e366
         have HR366_0 := aM hi366_0; have HC366_0 := aM hl366_0; clear hi366_0 hl366_0; replace p366 := eq_true p366; replace q366 := eq_true q366
         go_wp2_with (first | (go_at_call 35; (with_reducible refine (laws_sameInts.calls k1 _ _ (rd_L4 l0 x13_1) _ _ (rd_L4 l1 x13_1) false _ ?side1 ?side2 ?side3 ?side4 A8.out).mono ?_); (case side1 => exact zgj_); (case side2 => exact HC365_0.out); (case side3 => exact zha_); (case side4 => exact HC366_0.out); rintro e w' ⟨rfl, ⟨nd, rfl⟩⟩; (try first | exact ⟨rfl, _, World.drewN_drewN _ _ _⟩ | exact ⟨rfl, _, Eq.trans (World.drewN_drewN _ _ _) (congrArg (World.drewN _) (Nat.add_assoc _ _ _))⟩)))
         repeat (go_quiet (first | (go_at_call 35; (with_reducible refine (laws_sameInts.calls k1 _ _ (rd_L4 l0 x13_1) _ _ (rd_L4 l1 x13_1) false _ ?side1 ?side2 ?side3 ?side4 A8.out).mono ?_); (case side1 => exact zgj_); (case side2 => exact HC365_0.out); (case side3 => exact zha_); (case side4 => exact HC366_0.out); rintro e w' ⟨rfl, ⟨nd, rfl⟩⟩; (try first | exact ⟨rfl, _, World.drewN_drewN _ _ _⟩ | exact ⟨rfl, _, Eq.trans (World.drewN_drewN _ _ _) (congrArg (World.drewN _) (Nat.add_assoc _ _ _))⟩))); try go_wp2_with (first | (go_at_call 35; (with_reducible refine (laws_sameInts.calls k1 _ _ (rd_L4 l0 x13_1) _ _ (rd_L4 l1 x13_1) false _ ?side1 ?side2 ?side3 ?side4 A8.out).mono ?_); (case side1 => exact zgj_); (case side2 => exact HC365_0.out); (case side3 => exact zha_); (case side4 => exact HC366_0.out); rintro e w' ⟨rfl, ⟨nd, rfl⟩⟩; (try first | exact ⟨rfl, _, World.drewN_drewN _ _ _⟩ | exact ⟨rfl, _, Eq.trans (World.drewN_drewN _ _ _) (congrArg (World.drewN _) (Nat.add_assoc _ _ _))⟩))))
         go_ret
         exact ⟨zd_, zi_⟩
       ·rw [if_neg c7] at H
        exact absurd H (by simp)
      ·rw [if_neg c6] at H
       exact absurd H (by simp)
     ·rw [if_neg c5] at H
      exact absurd H (by simp)
    ·rw [if_neg c4] at H
     have c4b0 := decide_eq_false c4; clear c4; obtain rfl := Option.some.inj H
     go_wp2
     repeat (go_quiet (fail); try go_wp2)
     go_ret
     exact ⟨zd_, zi_⟩
 ·rw [if_neg c3] at H
  have c3b0 := beq_eq_false_iff_ne.mpr c3; have c3b1 := bne_iff_ne.mpr c3; have c3b2 : (l0.length == l1.length) = false := by first | simpa using c3 | (simp at c3 ⊢; omega)
  obtain rfl := Option.some.inj H
  go_enter Try.func36, Try.ntmps36
  go_wp2
  repeat (go_quiet (fail); try go_wp2)
  go_ret
  exact ⟨zd_, zi_⟩
end Go.Proofs.Ytbkighlfgaifeaa.QFnGates
