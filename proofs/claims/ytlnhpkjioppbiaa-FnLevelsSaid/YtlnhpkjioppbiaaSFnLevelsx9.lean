/- Functions of FnLevels, each as a Lean function, with the proof that the Go code comes to its answers. -/
import Derived.Test.YtlnhpkjioppbiaaSFnLevelsx1
import Derived.Test.YtlnhpkjioppbiaaSFnLevelsx7
namespace Go.Proofs.Ytlnhpkjioppbiaa.QFnLevels
open Go.RowKit Go.Proofs.YtlnhpkjioppbiaaW.PrintWords Go.Proofs.YtlnhpkjioppbiaaW.PrintLast Go.Proofs.YtlnhpkjioppbiaaW.PrintMore
open Go.Proofs.YtlnhpkjioppbiaaW.PrintWords renaming pw_below_drewN → pN, below_drew1 → p1, below_alloc → pA
open Go.Proofs.YtlnhpkjioppbiaaW.PrintWords.Kd renaming R_alloc → kA, R_drewN → kN, R_drew → kD, Q_alloc → qA, Q_drewN → qN, Q_drew → qD, C_alloc → cA, C_drewN → cN, C_drew → cD
open Go.Proofs.YtlnhpkjioppbiaaW.PrintWords.Aside0 renaming mk → aM
open List renaming setIfInBounds_toArray → sI, set_cons_zero → s0, set_cons_succ → sS, map_toArray → mT, length_take → lT, length_drop → lD, map_cons → mC, map_nil → mN
open Option renaming bind_eq_some_iff → oB, bind_some → oS
attribute [local go_sem] max2_int min2_int max_two min_two max_three min_three max_four min_four
set_option maxHeartbeats 8000000
set_option maxRecDepth 100000
set_option linter.unusedVariables false
set_option linter.unusedSimpArgs false
def spec_ciDepths.l0 : Nat → List Int → List (S109) → Int → Int → Int → List (S109) → List Int → Option (List Int)
 | 0, _, _, _, _, _, _, _ => none
 | k + 1, x3, x10, x11, x12, x197000, x197001, x197002 => if x12 < x11 then (if 0 ≤ x12 then (if x12 < (x10.length : Int) then (if 0 ≤ ((rd_T109 x10 x12).f1) then (if ((rd_T109 x10 x12).f1) < (x3.length : Int) then (if 0 ≤ ((rd_T109 x10 x12).f2) then (if ((rd_T109 x10 x12).f2) < (x3.length : Int) then ((spec_l1Most.f (rd x3 ((rd_T109 x10 x12).f1)) (rd x3 ((rd_T109 x10 x12).f2))).bind fun t204 => (if x3.length < 17592186044416 then (spec_ciDepths.l0 k (x3 ++ [wrap64 (1 + t204)]) x10 x11 (wrap64 (x12 + 1)) x197000 x197001 x197002) else (none))) else (none)) else (none)) else (none)) else (none)) else (none)) else (none)) else (if 0 ≤ x197000 then (if x197000 ≤ (x3.length : Int) then (some (x3.drop (x197000 : Int).toNat)) else (none)) else (none))
def spec_ciDepths.f (k : Nat) (a0_0 : Int) (l0_1 : List (S109)) (l0_2 : List Int) : Option (List Int) := if 0 ≤ a0_0 then (if (a0_0 : Int).toNat ≤ 35184372088832 then (spec_ciDepths.l0 k (List.replicate (a0_0 : Int).toNat 0) l0_1 (l0_1.length : Int) 0 a0_0 l0_1 l0_2) else (none)) else (none)
def spec_ciDepths.T5 : Bool × List (List Nat × List Nat) := (true, [([], []), ([], []), ([], []), ([2], [2]), ([1, 3], [1, 3]), ([4], [4]), ([], []), ([], []), ([7], [7]), ([6, 8], [6, 8]), ([9], [9]), ([5, 10], [5, 10]), ([11], [11]), ([12], [12]), ([0, 13, 11], [0, 13]), ([14, 14, 0, 1, 2, 3, 4, 5, 6, 7, 8, 9, 10, 11, 12, 13, 14], [0, 1, 6, 14])])
def spec_ciDepths.B5 : List Nat := [0, 0, 0, 4, 14, 30, 0, 0, 128, 448, 960, 2046, 4094, 8190, 16383, 32767]
theorem spec_ciDepths.tab5 : rtab .any (opsOf Try.f88 5) = spec_ciDepths.T5 := by kernel_rfl
theorem spec_ciDepths.bits5 : waitsOk spec_ciDepths.T5.2 spec_ciDepths.B5 = true := by kernel_rfl
theorem spec_ciDepths.calls (k : Nat) (a0_0 : Int) (A0_1 : Option Addr) (c0_1 : Nat) (l0_1 : List (S109)) (A0_2 : Option Addr) (c0_2 : Nat) (l0_2 : List Int) (r : List Int) (w : World) (hr0_1 : Kd.C k109 w A0_1 l0_1.length l0_1) (hc0_1 : l0_1.length ≤ c0_1) (hr0_2 : Kd.C (Kd.int .i64) w A0_2 l0_2.length l0_2) (hc0_2 : l0_2.length ≤ c0_2) (h : spec_ciDepths.f k a0_0 l0_1 l0_2 = some r) :
  Calls Try.prog 88 #[.agg #[.int .i64 a0_0, .slice A0_1 l0_1.length c0_1, .slice A0_2 l0_2.length c0_2]] w fun e w' => ∃ v0_ : Value, e = .returned (v0_) ∧ Kd.Q (Kd.int .i64) 3 w' w.heap.size (fun _ => True) v0_ r ∧ Below w.heap.size w w' := by
 have hu61 := Try.underlying61
 have hu109 := Try.underlying109
 have HR0_1 := aM hr0_1
 have HC0_1 := aM hc0_1
 clear hr0_1 hc0_1
 have HR0_2 := aM hr0_2
 have HC0_2 := aM hc0_2
 clear hr0_2 hc0_2
 have HB := aM (Below.refl w.heap.size w)
 have H : (if 0 ≤ a0_0 then (if (a0_0 : Int).toNat ≤ 35184372088832 then (spec_ciDepths.l0 k (List.replicate (a0_0 : Int).toNat 0) l0_1 (l0_1.length : Int) 0 a0_0 l0_1 l0_2) else (none)) else (none)) = some r := h
 clear h
 by_cases c2 : 0 ≤ a0_0
 ·rw [if_pos c2] at H
  have c2b0 := eq_true c2; have c2b1 := decide_eq_true c2; clear c2
  by_cases c3 : (a0_0 : Int).toNat ≤ 35184372088832
  ·rw [if_pos c3] at H
   have c3b0 := eq_true c3; have c3b1 := decide_eq_true c3; clear c3; obtain ⟨y197, hy197⟩ : ∃ y_ : List Int, y_ = (List.replicate (a0_0 : Int).toNat 0) := ⟨_, rfl⟩; replace H : (spec_ciDepths.l0 k y197 l0_1 (l0_1.length : Int) 0 a0_0 l0_1 l0_2) = some r := q3y_ hy197 H
   have Ny197 := aM hy197; clear hy197; have H' := aM H; clear H
   go_enter Try.func88, Try.ntmps88
   go_wp2_with (first | ((with_reducible refine gate_dst (N := 1) rfl ?_); refine box_event ?hg (N := 1) ?hd (cs := #[.int .i64 a0_0, .slice A0_1 l0_1.length c0_1, .slice A0_2 l0_2.length c0_2]) (t := 61) ?hr ?_; (case hd => rfl); (case hg => rfl); (case hr => exact zd_); intro gb196 hg w4 hbox hb; have n_ := z (below_step zb_ hb) <| z (hbox) <| z ((by rw [hg]; exact (below_size zb_) : w.heap.size ≤ gb196)) <| z1 ((by rw [hg]; exact (below_size zb_) : w.heap.size ≤ gb196)); clear HB; obtain ⟨HB, BK196, GW196, GE196⟩ := n_; clear hb hbox hg; obtain ⟨hcz5_0, hcz5_1, hcz5_2, hfz5_0, hfz5_1, hfz5_2⟩ := zk3 BK196.out) | ((with_reducible refine gate_dst (N := 8) rfl ?_); refine Kd.R_make (Kd.int .i64) _ 3 rfl (N := 8) rfl 39 _ _ rfl a0_0 rfl rfl Try.underlying39 (.int .i64 0) 8 info3 rfl (by decide) (by omega) 0 (ok := fun _ => True) (okp := fun _ => True) rfl (fun _ hk => hk) trivial (of_decide_eq_true za_) (Nat.le_trans (Nat.mul_le_mul_right _ (of_decide_eq_true za_ : a0_0.toNat ≤ 35184372088832)) (by omega)) (Below.refl _ _) (Nat.le_refl _) ?_; intro v198 w6 ho7 hb hg_ hnew_; clear hg_ hnew_; (first | rw [← Ny197.out] at ho7 | (simp only [Int.reduceToNat] at ho7; rw [← Ny197.out] at ho7)); have n_ := z (Kd.R_lower ho7 (below_size zec_)) <| z (blk_below (zb BK196.out) hb) <| z1 (below_step zec_ hb); clear BK196 HB; obtain ⟨HO199, BK196, HB⟩ := n_; clear hb ho7; obtain ⟨hcz8_0, hcz8_1, hcz8_2, hfz8_0, hfz8_1, hfz8_2⟩ := zk3 BK196.out))
   go_loopg [3, 12] k (fun kq v3 v12 w' => ∃ (x3_1 : List Int) (x12_1 : Int), v12 = .int .i64 x12_1 ∧ Aside0 (spec_ciDepths.l0 kq x3_1 l0_1 (l0_1.length : Int) x12_1 a0_0 l0_1 l0_2 = some r) ∧ Aside0 (kq ≤ k) ∧ Aside0 (Kd.R (Kd.int .i64) 3 w' w.heap.size (fun _ => True) v3 x3_1) ∧ Aside0 (w'.heap[gb196]? = some (.cells #[.int .i64 a0_0, (.slice A0_1 l0_1.length c0_1), (.slice A0_2 l0_2.length c0_2)] 61 (0, 0))) ∧ Aside0 (Below w.heap.size w w'))
   case atStart => exact ⟨(y197), (0), zc_, H', ⟨Nat.le_refl _⟩, ⟨zr HO199.out⟩, ⟨zb BK196.out⟩, ⟨zec_⟩⟩
   case round =>
    clear H'; (try clear c2b0); (try clear c2b1); (try clear c3b0); (try clear c3b1); (try clear hcz5_0); (try clear hcz5_1); (try clear hcz5_2); (try clear hcz8_0); (try clear hcz8_1); (try clear hcz8_2); (try clear hfz5_0); (try clear hfz5_1); (try clear hfz5_2); (try clear hfz8_0); (try clear hfz8_1); (try clear hfz8_2); obtain ⟨x3_1, x12_1, rfl, HA, HK1, HO_3, BK196, HB⟩ := hrel
    cases gk with
    | zero => exact absurd HA.out (by simp [spec_ciDepths.l0])
    | succ k1 =>
     have H := HA.out; clear HA
     simp only [spec_ciDepths.l0] at H
     by_cases c9 : x12_1 < (l0_1.length : Int)
     ·rw [if_pos c9] at H
      have c9b0 := decide_eq_true c9; clear c9
      by_cases c10 : 0 ≤ x12_1
      ·rw [if_pos c10] at H
       have c10b0 := decide_eq_true c10; clear c10
       by_cases c11 : x12_1 < (l0_1.length : Int)
       ·rw [if_pos c11] at H
        have c11b0 := decide_eq_true c11; clear c11
        by_cases c12 : 0 ≤ ((rd_T109 l0_1 x12_1).f1)
        ·rw [if_pos c12] at H
         have c12b0 := decide_eq_true c12; clear c12
         by_cases c13 : ((rd_T109 l0_1 x12_1).f1) < (x3_1.length : Int)
         ·rw [if_pos c13] at H
          have c13b0 := decide_eq_true c13; clear c13
          by_cases c14 : 0 ≤ ((rd_T109 l0_1 x12_1).f2)
          ·rw [if_pos c14] at H
           have c14b0 := decide_eq_true c14; clear c14
           by_cases c15 : ((rd_T109 l0_1 x12_1).f2) < (x3_1.length : Int)
           ·rw [if_pos c15] at H
            have c15b0 := decide_eq_true c15; clear c15; replace H := oB.mp H; obtain ⟨t204, A160, H⟩ := H; replace H : (if x3_1.length < 17592186044416 then (spec_ciDepths.l0 k1 (x3_1 ++ [wrap64 (1 + t204)]) l0_1 (l0_1.length : Int) (wrap64 (x12_1 + 1)) a0_0 l0_1 l0_2) else (none)) = some r := H; have A16 := aM A160; clear A160
            by_cases c17 : x3_1.length < 17592186044416
            ·rw [if_pos c17] at H
             have LMc17 := aM c17; clear c17; obtain ⟨y205, hy205⟩ : ∃ y_ : List Int, y_ = (x3_1 ++ [wrap64 (1 + t204)]) := ⟨_, rfl⟩; replace H : (spec_ciDepths.l0 k1 y205 l0_1 (l0_1.length : Int) (wrap64 (x12_1 + 1)) a0_0 l0_1 l0_2) = some r := q3y_ hy205 H
             have Ny205 := aM hy205; clear hy205; have H' := aM H; clear H; have p200 : 0 ≤ (x12_1 : Int) := of_decide_eq_true za_; have q200 : x12_1 < (l0_1.length : Int) := of_decide_eq_true za_; obtain ⟨ad200, e200, hx200_0, hx200_1, hx200_2⟩ := at_T109 HR0_1.out x12_1 p200 q200
             cases e200
             (try (replace hx200_0 := q3h_ HB.out hx200_0)); (try (replace hx200_1 := q3h_ HB.out hx200_1)); (try (replace hx200_2 := q3h_ HB.out hx200_2)); replace p200 := eq_true p200; replace q200 := eq_true q200; (try go_wp2_with (first | ((with_reducible refine gate_dst (N := 5) rfl ?_); refine box_event ?hg (N := 5) ?hd (cs := #[.int .i64 0, .int .i64 0, .int .i64 0]) (t := 109) ?hr ?_; (case hd => rfl); (case hg => rfl); (case hr => exact zd_); intro gb201 hg w18 hbox hb; have n_ := z (Kd.R_below (zr HO_3.out) hb) <| z (blk_below (zb BK196.out) hb) <| z (below_step zec_ hb) <| z (hbox) <| z ((by rw [hg]; exact (below_size zec_) : w.heap.size ≤ gb201)) <| z ((by rw [hg]; exact (below_size zec_) : w.heap.size ≤ gb201)) <| z ((by rw [hg]; exact Nat.ne_of_lt (blk_lt (zb BK196.out)) : gb196 ≠ gb201)) <| z1 ((by rw [hg]; exact Nat.ne_of_gt (blk_lt (zb BK196.out)) : gb201 ≠ gb196)); clear HO_3 BK196 HB; obtain ⟨HO_3, BK196, HB, BK201, GW201, GE201, NB196_201, NB201_196⟩ := n_; clear hb hbox hg; have hnb19 := NB201_196.out; have hnc19 := NB196_201.out; obtain ⟨hcz20_0, hcz20_1, hcz20_2, hfz20_0, hfz20_1, hfz20_2⟩ := zk3 BK201.out))); have n0_ : Aside0 (Kd.R (Kd.int .i64) 3 (((w18.setCell ⟨gb201, 0, none⟩ (.int .i64 ((rd_T109 l0_1 x12_1).f0))).setCell ⟨gb201, 1, none⟩ (.int .i64 ((rd_T109 l0_1 x12_1).f1))).setCell ⟨gb201, 2, none⟩ (.int .i64 ((rd_T109 l0_1 x12_1).f2))) w.heap.size (fun _ => True) u3 x3_1) := ⟨by refine zr ?_; exact Kd.R_mono (Kd.R_far (p := ⟨gb201, 2, none⟩) (Kd.R_far (p := ⟨gb201, 1, none⟩) (Kd.R_far (p := ⟨gb201, 0, none⟩) (Kd.R_types HO_3.out BK201.out (by decide)) (fun _ hk => hk.2) (.int .i64 ((rd_T109 l0_1 x12_1).f0))) (fun _ hk => hk.2) (.int .i64 ((rd_T109 l0_1 x12_1).f1))) (fun _ hk => hk.2) (.int .i64 ((rd_T109 l0_1 x12_1).f2))) (fun _ hk => trivial)⟩; have n1_ : Aside0 ((((w18.setCell ⟨gb201, 0, none⟩ (.int .i64 ((rd_T109 l0_1 x12_1).f0))).setCell ⟨gb201, 1, none⟩ (.int .i64 ((rd_T109 l0_1 x12_1).f1))).setCell ⟨gb201, 2, none⟩ (.int .i64 ((rd_T109 l0_1 x12_1).f2))).heap[gb196]? = some (.cells #[.int .i64 a0_0, .slice (some ad200) l0_1.length c0_1, .slice A0_2 l0_2.length c0_2] 61 (0, 0))) := ⟨by refine zb ?_; refine blk_far ?_ NB196_201.out _; refine zb ?_; refine blk_far ?_ NB196_201.out _; refine zb ?_; refine blk_far ?_ NB196_201.out _; refine zb ?_; exact BK196.out⟩; have n2_ : Aside0 ((((w18.setCell ⟨gb201, 0, none⟩ (.int .i64 ((rd_T109 l0_1 x12_1).f0))).setCell ⟨gb201, 1, none⟩ (.int .i64 ((rd_T109 l0_1 x12_1).f1))).setCell ⟨gb201, 2, none⟩ (.int .i64 ((rd_T109 l0_1 x12_1).f2))).heap[gb201]? = some (.cells #[.int .i64 ((rd_T109 l0_1 x12_1).f0), .int .i64 ((rd_T109 l0_1 x12_1).f1), .int .i64 ((rd_T109 l0_1 x12_1).f2)] 109 (0, 0))) := ⟨by refine zb ?_; refine blk_put (cs := #[.int .i64 ((rd_T109 l0_1 x12_1).f0), .int .i64 ((rd_T109 l0_1 x12_1).f1), .int .i64 0]) ?_ 2 _ rfl; refine zb ?_; refine blk_put (cs := #[.int .i64 ((rd_T109 l0_1 x12_1).f0), .int .i64 0, .int .i64 0]) ?_ 1 _ rfl; refine zb ?_; refine blk_put (cs := #[.int .i64 0, .int .i64 0, .int .i64 0]) ?_ 0 _ rfl; refine zb ?_; exact BK201.out⟩; have n3_ : Aside0 (Below w.heap.size w (((w18.setCell ⟨gb201, 0, none⟩ (.int .i64 ((rd_T109 l0_1 x12_1).f0))).setCell ⟨gb201, 1, none⟩ (.int .i64 ((rd_T109 l0_1 x12_1).f1))).setCell ⟨gb201, 2, none⟩ (.int .i64 ((rd_T109 l0_1 x12_1).f2)))) := ⟨zfi_⟩; (try clear HO_3); (try clear BK196); (try clear BK201); (try clear HB); generalize (((w18.setCell ⟨gb201, 0, none⟩ (.int .i64 ((rd_T109 l0_1 x12_1).f0))).setCell ⟨gb201, 1, none⟩ (.int .i64 ((rd_T109 l0_1 x12_1).f1))).setCell ⟨gb201, 2, none⟩ (.int .i64 ((rd_T109 l0_1 x12_1).f2))) = w21 at n0_ n1_ n2_ n3_ ⊢; have HO_3 := n0_; have BK196 := n1_; have BK201 := n2_; have HB := n3_; clear n0_ n1_ n2_ n3_; have n_ := z (kD HO_3.out) <| z (blk_drew BK196.out) <| z (blk_drew BK201.out) <| z1 (p1 HB.out)
             clear HO_3 BK196 BK201 HB; obtain ⟨HO_3, BK196, BK201, HB⟩ := n_; obtain ⟨Ao23, co23, eo23⟩ := Kd.R_slice HO_3.out; (first | subst eo23 | (injection eo23 with f1_ f2_ f3_; have f4_ := f1_.symm; have f5_ := f3_.symm; clear f1_ f2_ f3_; subst f4_; subst f5_)); have p202 : 0 ≤ (((rd_T109 l0_1 x12_1).f1) : Int) := of_decide_eq_true za_; have q202 : ((rd_T109 l0_1 x12_1).f1) < (x3_1.length : Int) := of_decide_eq_true za_; obtain ⟨ad202, e202, hx202_0⟩ := Kd.at_int (Kd.R_reads' HO_3.out).2.2 ((rd_T109 l0_1 x12_1).f1) p202 q202
             cases e202
             replace p202 := eq_true p202; replace q202 := eq_true q202; have p203 : 0 ≤ (((rd_T109 l0_1 x12_1).f2) : Int) := of_decide_eq_true za_; have q203 : ((rd_T109 l0_1 x12_1).f2) < (x3_1.length : Int) := of_decide_eq_true za_; obtain ⟨ad203, e203, hx203_0⟩ := Kd.at_int (Kd.R_reads' HO_3.out).2.2 ((rd_T109 l0_1 x12_1).f2) p203 q203; obtain rfl : ad202 = ad203 := (by injection e203); replace p203 := eq_true p203; replace q203 := eq_true q203
             refine start_ (n := 16) (S := fun w' => w'.cell? ⟨gb201, 0, none⟩ = some (.int .i64 ((rd_T109 l0_1 x12_1).f0)) ∧ w'.cell? ⟨gb201, 1, none⟩ = some (.int .i64 ((rd_T109 l0_1 x12_1).f1)) ∧ w'.cell? ⟨gb201, 2, none⟩ = some (.int .i64 ((rd_T109 l0_1 x12_1).f2)) ∧ w'.cell? (ad202.add (((rd_T109 l0_1 x12_1).f1)).toNat) = some (.int .i64 (rd x3_1 ((rd_T109 l0_1 x12_1).f1))) ∧ w'.cell? (ad202.add (((rd_T109 l0_1 x12_1).f2)).toNat) = some (.int .i64 (rd x3_1 ((rd_T109 l0_1 x12_1).f2)))) (ds := [13, 14]) #[fi,fi,fi,fi,fi,fi,fi,fi,fi,fi,fi,fi,fi,fi,fi,fi] (by kernel_rfl) rfl rfl ⟨(blk_cell BK201.out 0).trans rfl, (blk_cell BK201.out 1).trans rfl, (blk_cell BK201.out 2).trans rfl, hx202_0, hx203_0⟩ (fun hHeld => ?_); refine with_tabW spec_ciDepths.tab5 spec_ciDepths.bits5 (fun HT_ HW_ => ?_)
             generalize w21.drew = w22 at HO_3 BK196 BK201 HB hx202_0 hx203_0 hHeld ⊢; refine py_ 0 16 HT_.out ?_; refine py_ 1 17 HT_.out ?_; refine py_ 2 18 HT_.out ?_; refine py_ 6 22 HT_.out ?_; refine py_ 7 23 HT_.out ?_
             refine tw5_ 3 19 HT_.out HW_.out hHeld ?_
             refine py_ 4 20 HT_.out ?_
             refine tw5_ 5 21 HT_.out HW_.out hHeld ?_
             refine tw5_ 8 24 HT_.out HW_.out hHeld ?_
             refine py_ 9 25 HT_.out ?_
             refine tw5_ 10 26 HT_.out HW_.out hHeld ?_
             refine one_ (i := 11) (N := some 27) #[ti,ti,ti,ti,ti,ti,ti,ti,ti,ti,ti,ti,fi,fi,fi,fi] rfl rfl (one_of HT_.out (by kernel_rfl)) (by decide) (fun K hK => ?_)
             refine goes_ Try.func63 (by kernel_rfl) rfl #[.int .i64 (rd x3_1 ((rd_T109 l0_1 x12_1).f1)), .int .i64 (rd x3_1 ((rd_T109 l0_1 x12_1).f2))] (by rfl) rfl rfl zf_ ?_
             with_reducible refine (spec_l1Most.calls (rd x3_1 ((rd_T109 l0_1 x12_1).f1)) (rd x3_1 ((rd_T109 l0_1 x12_1).f2)) t204 _ A16.out).mono ?_
             rintro e w' ⟨rfl, ⟨nd, rfl⟩⟩
             refine ⟨_, rfl, ?_⟩
             refine hK.out _ _ ⟨(blk_cell BK201.out 0).trans rfl, (blk_cell BK201.out 1).trans rfl, (blk_cell BK201.out 2).trans rfl, hHeld.2.2.2.1, hHeld.2.2.2.2⟩ (fun hHeld => ?_)
             clear hK K
             refine nz_ 27 ?_
             refine py_ 12 28 HT_.out ?_
             refine last_ (i := 13) (N := some 29) #[ti,ti,ti,ti,ti,ti,ti,ti,ti,ti,ti,ti,ti,ti,fi,fi] rfl rfl (one_of HT_.out (by kernel_rfl)) (by decide) (fun K hK => ?_)
             refine value_ (w1 := ?_) (v := ?_) (by rfl) rfl ?_ ?_
             rotate_left 2
             ·go_simp
              constructor
              ·rfl
              ·rfl
             refine hK.out _ _ ?_
             clear hK K
             refine nz_ 29 ?_
             refine last_ (i := 14) (N := some 30) #[ti,ti,ti,ti,ti,ti,ti,ti,ti,ti,ti,ti,ti,ti,ti,fi] rfl rfl (one_of HT_.out (by kernel_rfl)) (by decide) (fun K hK => ?_)
             refine Kd.R_append_step (Kd.int .i64) (w0 := w) w.heap.size (by rfl) (.tmp 16) (.tmp 29) 39 3 (.int .i64 0) 8 rfl Try.underlying39 info3 rfl (by decide) (by omega) (.slice (some ad202) x3_1.length co23) x3_1 (wrap64 (1 + t204)) [.int .i64 (wrap64 (1 + t204))] (fun _ => True) (fun _ => False) rfl rfl ?aP (fun _ hk => hk.elim) ?aF ?aO ?aB ?aS ?aL ?_
             (case aP => exact rfl)
             (case aB => exact zfi_)
             (case aF => exact zcd_)
             (case aO => exact (zr HO_3.out))
             (case aS => exact (below_size zfi_))
             (case aL => have := LMc17.out; omega)
             intro v206 w24 ho hb hg hat
             rw [← Ny205.out] at ho; have n_ := z (blk_grown (g := gb196) (o := .cells #[.int .i64 a0_0, .slice (some ad200) l0_1.length c0_1, .slice A0_2 l0_2.length c0_2] 61 (0, 0)) (zb BK196.out) hg (Kd.R_ne HO_3.out BK196.out (by decide))) <| z (blk_grown (g := gb201) (o := .cells #[.int .i64 ((rd_T109 l0_1 x12_1).f0), .int .i64 ((rd_T109 l0_1 x12_1).f1), .int .i64 ((rd_T109 l0_1 x12_1).f2)] 109 (0, 0)) (zb BK201.out) hg (Kd.R_ne HO_3.out BK201.out (by decide))) <| z (hb) <| z1 (ho)
             clear BK196 BK201 HB HO_3; obtain ⟨BK196, BK201, HB, HO207⟩ := n_; clear ho hb hg hat
             refine hK.out _ _ ?_
             clear hK K
             refine nz_ 30 ?_
             refine py_ 15 3 HT_.out ?_
             refine done_ (done_of HT_.out (by kernel_rfl)) ?_
             (try go_wp2)
             go_roundg k1
             case measure => have := HK1.out; omega
             case rel => exact ⟨(y205), (wrap64 (x12_1 + 1)), zc_, H', ⟨zbe_⟩, ⟨zr HO207.out⟩, ⟨zb BK196.out⟩, ⟨zfi_⟩⟩
            ·rw [if_neg c17] at H
             exact q3n_ H
           ·rw [if_neg c15] at H
            exact q3n_ H
          ·rw [if_neg c14] at H
           exact q3n_ H
         ·rw [if_neg c13] at H
          exact q3n_ H
        ·rw [if_neg c12] at H
         exact q3n_ H
       ·rw [if_neg c11] at H
        exact q3n_ H
      ·rw [if_neg c10] at H
       exact q3n_ H
     ·rw [if_neg c9] at H
      have c9b0 := decide_eq_false c9; clear c9
      by_cases c25 : 0 ≤ a0_0
      ·rw [if_pos c25] at H
       have c25b0 := eq_true c25; have c25b1 := decide_eq_true c25; clear c25
       by_cases c26 : a0_0 ≤ (x3_1.length : Int)
       ·rw [if_pos c26] at H
        have c26b0 := eq_true c26; have c26b1 := decide_eq_true c26; clear c26; obtain ⟨y208, hy208⟩ : ∃ y_ : List Int, y_ = (x3_1.drop (a0_0 : Int).toNat) := ⟨_, rfl⟩; replace H : (some y208) = some r := q3y_ hy208 H
        have Ny208 := aM hy208; clear hy208; obtain rfl := Option.some.inj H; obtain ⟨hcz27_0, hcz27_1, hcz27_2, hfz27_0, hfz27_1, hfz27_2⟩ := zk3 BK196.out; obtain ⟨Ao28, co28, eo28⟩ := Kd.R_slice HO_3.out; subst eo28; have q29 : (a0_0 : Int) ≤ ((x3_1.length : Int) : Int) := of_decide_eq_true za_; obtain ⟨i029, hi029, _, hsz29, _⟩ := info_parts info3; have hcut29 := cut_from (P := Try.prog) 39 3 .i64 Try.underlying39 hi029 1 hsz29 Ao28 x3_1.length co28 a0_0 (of_decide_eq_true za_) q29; have hr29 := Kd.Q_drop (k := (a0_0 : Int).toNat) (Kd.Q_of_R HO_3.out) (by omega); obtain ⟨A29, hA29⟩ : ∃ A1, A1 = (if co28 = (a0_0 : Int).toNat then Ao28 else (Ao28 : Option Addr).map (·.add ((a0_0 : Int).toNat * 1))) := ⟨_, rfl⟩; obtain ⟨c29, hc29⟩ : ∃ c1, c1 = co28 - (a0_0 : Int).toNat := ⟨_, rfl⟩; have hy29 : y208.length = x3_1.length - (a0_0 : Int).toNat := (by rw [Ny208.out, lD]); rw [← Ny208.out] at hr29; rw [← hy29, ← hA29, ← hc29] at hcut29; replace hr29 : Kd.Q (Kd.int .i64) 3 wr w.heap.size (fun _ => True) (.slice A29 y208.length c29) y208 := (by rw [hA29, hc29, hy29]; exact hr29); have HE29 : Aside0 ((Value.slice A29 y208.length c29).ownBlock = (.slice Ao28 x3_1.length co28 : Value).ownBlock) := ⟨by rw [hA29]; split <;> (cases (Ao28 : Option Addr) <;> first | rfl | (simp only [Value.ownBlock, Option.map, Go.Addr.add]; split <;> rfl))⟩; clear hy29 hi029 hsz29 HO_3 hA29 hc29; have HO210 := aM hr29; clear hr29; replace q29 := eq_true q29
        go_wp2
        go_ret
        exact ⟨_, zh_, by refine zq ?_; exact HO210.out, zec_⟩
       ·rw [if_neg c26] at H
        exact q3n_ H
      ·rw [if_neg c25] at H
       exact q3n_ H
  ·rw [if_neg c3] at H
   exact q3n_ H
 ·rw [if_neg c2] at H
  exact q3n_ H
mutual
def spec_plLevels.l0 : Nat → List Int → Int → Int → List (S109) → List Int → Option ((List (List Int)))
 | 0, _, _, _, _, _ => none
 | k + 1, x3, x4, x212000, x212001, x212002 => if x4 < x212000 then (if x3.length < 17592186044416 then (spec_plLevels.l0 k (x3 ++ [x4]) (wrap64 (x4 + 1)) x212000 x212001 x212002) else (none)) else ((spec_ciDepths.f k x212000 x212001 x212002).bind fun t218 => (spec_plLevels.l1 k (([x3] : List (List Int))) t218 (t218.length : Int) 0 x212000 x212001 x212002))
def spec_plLevels.l1 : Nat → List (List Int) → List Int → Int → Int → Int → List (S109) → List Int → Option ((List (List Int)))
 | 0, _, _, _, _, _, _, _ => none
 | k + 1, x5, x21, x22, x23, x212000, x212001, x212002 => if x23 < x22 then (if 0 ≤ x23 then (if x23 < (x21.length : Int) then (spec_plLevels.l2 k x5 x23 (rd x21 x23) x21 x22 x23 x212000 x212001 x212002) else (none)) else (none)) else (some x5)
def spec_plLevels.l2 : Nat → List (List Int) → Int → Int → List Int → Int → Int → Int → List (S109) → List Int → Option ((List (List Int)))
 | 0, _, _, _, _, _, _, _, _, _ => none
 | k + 1, x5, x6, x7, x21, x22, x23, x212000, x212001, x212002 => if (x5.length : Int) ≤ x7 then (if x5.length < 5864062014805 then (spec_plLevels.l2 k (x5 ++ [[]]) x6 x7 x21 x22 x23 x212000 x212001 x212002) else (none)) else (if 0 ≤ x7 then (if x7 < (x5.length : Int) then (if (rd_L4 x5 x7).length < 17592186044416 then (spec_plLevels.l1 k (x5.set (x7 : Int).toNat ((rd_L4 x5 x7) ++ [wrap64 (x212000 + x6)])) x21 x22 (wrap64 (x23 + 1)) x212000 x212001 x212002) else (none)) else (none)) else (none))
end
def spec_plLevels.f (k : Nat) (a0_0 : Int) (l0_1 : List (S109)) (l0_2 : List Int) : Option ((List (List Int))) := spec_plLevels.l0 k ([] : List Int) 0 a0_0 l0_1 l0_2
def spec_plLevels.T12 : Bool × List (List Nat × List Nat) := (true, [([], []), ([], []), ([], []), ([], []), ([2, 3], [2, 3]), ([4], [4]), ([], []), ([6], [6]), ([], []), ([7, 8], [7, 8]), ([9], [9]), ([5, 10], [5, 10]), ([0, 1, 0, 1, 2, 3, 4, 5, 6, 7, 8, 9, 10, 11], [0, 1]), ([12, 11, 11, 0, 1, 2, 3, 4, 5, 6, 7, 8, 9, 10, 11], [11, 12])])
def spec_plLevels.B12 : List Nat := [0, 0, 0, 0, 12, 28, 0, 64, 0, 448, 960, 2044, 4095, 8191]
theorem spec_plLevels.tab12 : rtab .any (opsOf Try.f87 12) = spec_plLevels.T12 := by kernel_rfl
theorem spec_plLevels.bits12 : waitsOk spec_plLevels.T12.2 spec_plLevels.B12 = true := by kernel_rfl
theorem spec_plLevels.calls (k : Nat) (a0_0 : Int) (A0_1 : Option Addr) (c0_1 : Nat) (l0_1 : List (S109)) (A0_2 : Option Addr) (c0_2 : Nat) (l0_2 : List Int) (r : List (List Int)) (w : World) (hr0_1 : Kd.C k109 w A0_1 l0_1.length l0_1) (hc0_1 : l0_1.length ≤ c0_1) (hr0_2 : Kd.C (Kd.int .i64) w A0_2 l0_2.length l0_2) (hc0_2 : l0_2.length ≤ c0_2) (h : spec_plLevels.f k a0_0 l0_1 l0_2 = some r) :
  Calls Try.prog 87 #[.agg #[.int .i64 a0_0, .slice A0_1 l0_1.length c0_1, .slice A0_2 l0_2.length c0_2]] w fun e w' => ∃ v0_ : Value, e = .returned (v0_) ∧ Kd.S (Kd.slice 3 (Kd.int .i64)) 39 w' w.heap.size (fun _ => True) v0_ r ∧ Below w.heap.size w w' := by
 have hu61 := Try.underlying61
 have HR0_1 := aM hr0_1
 have HC0_1 := aM hc0_1
 clear hr0_1 hc0_1
 have HR0_2 := aM hr0_2
 have HC0_2 := aM hc0_2
 clear hr0_2 hc0_2
 have HB := aM (Below.refl w.heap.size w)
 have H : (spec_plLevels.l0 k ([] : List Int) 0 a0_0 l0_1 l0_2) = some r := h
 clear h
 have H' := aM H
 clear H
 go_enter Try.func87, Try.ntmps87
 go_wp2_with (first | ((with_reducible refine gate_dst (N := 1) rfl ?_); refine box_event ?hg (N := 1) ?hd (cs := #[.int .i64 a0_0, .slice A0_1 l0_1.length c0_1, .slice A0_2 l0_2.length c0_2]) (t := 61) ?hr ?_; (case hd => rfl); (case hg => rfl); (case hr => exact zd_); intro gb211 hg w2 hbox hb; have n_ := z (below_step zb_ hb) <| z (hbox) <| z ((by rw [hg]; exact (below_size zb_) : w.heap.size ≤ gb211)) <| z1 ((by rw [hg]; exact (below_size zb_) : w.heap.size ≤ gb211)); clear HB; obtain ⟨HB, BK211, GW211, GE211⟩ := n_; clear hb hbox hg))
 go_loopg [3, 4] k (fun kq v3 v4 w' => ∃ (x3_1 : List Int) (x4_1 : Int), v4 = .int .i64 x4_1 ∧ Aside0 (spec_plLevels.l0 kq x3_1 x4_1 a0_0 l0_1 l0_2 = some r) ∧ Aside0 (kq ≤ k) ∧ Aside0 (Kd.R (Kd.int .i64) 3 w' w.heap.size (fun _ => True) v3 x3_1) ∧ Aside0 (w'.heap[gb211]? = some (.cells #[.int .i64 a0_0, (.slice A0_1 l0_1.length c0_1), (.slice A0_2 l0_2.length c0_2)] 61 (0, 0))) ∧ Aside0 (Below w.heap.size w w'))
 case atStart => exact ⟨(([] : List Int)), (0), zc_, H', ⟨Nat.le_refl _⟩, ⟨zed_⟩, ⟨zb BK211.out⟩, ⟨zdc_⟩⟩
 case round =>
  clear H'; obtain ⟨x3_1, x4_1, rfl, HA, HK1, HO_3, BK211, HB⟩ := hrel
  cases gk with
  | zero => exact absurd HA.out (by simp [spec_plLevels.l0])
  | succ k1 =>
   have H := HA.out; clear HA
   simp only [spec_plLevels.l0] at H
   by_cases c3 : x4_1 < a0_0
   ·rw [if_pos c3] at H
    have c3b0 := decide_eq_true c3; clear c3
    by_cases c4 : x3_1.length < 17592186044416
    ·rw [if_pos c4] at H
     have LMc4 := aM c4; clear c4; obtain ⟨y212, hy212⟩ : ∃ y_ : List Int, y_ = (x3_1 ++ [x4_1]) := ⟨_, rfl⟩; replace H : (spec_plLevels.l0 k1 y212 (wrap64 (x4_1 + 1)) a0_0 l0_1 l0_2) = some r := q3y_ hy212 H
     have Ny212 := aM hy212; clear hy212; have H' := aM H; clear H; obtain ⟨hcz5_0, hcz5_1, hcz5_2, hfz5_0, hfz5_1, hfz5_2⟩ := zk3 BK211.out
     go_wp2_with (first | ((with_reducible refine gate_builtin (b := .append) (xs := #[.tmp 14, .tmp 16]) rfl ?_); at_builtin; refine Kd.R_append (Kd.int .i64) (w0 := w) w.heap.size rfl (.tmp 14) (.tmp 16) 39 3 (.int .i64 0) 8 rfl Try.underlying39 info3 rfl (by decide) (by omega) u3 x3_1 x4_1 [.int .i64 x4_1] (fun _ => True) (fun _ => False) rfl rfl ?aP (fun _ hk => hk.elim) ?aF ?aO ?aB ?aS ?aL ?_; (case aP => exact rfl); (case aB => exact zhg_); (case aF => exact zcd_); (case aO => exact (zr HO_3.out)); (case aS => exact zhh_); (case aL => have := LMc4.out; omega); intro v213 w6 ho hb hg hat; rw [← Ny212.out] at ho; have n_ := z (blk_grown (g := gb211) (o := .cells #[.int .i64 a0_0, .slice A0_1 l0_1.length c0_1, .slice A0_2 l0_2.length c0_2] 61 (0, 0)) (zb BK211.out) hg (Kd.R_ne HO_3.out BK211.out (by decide))) <| z (hb) <| z1 (ho); clear BK211 HB HO_3; obtain ⟨BK211, HB, HO214⟩ := n_; clear ho hb hg hat))
     go_roundg k1
     case measure => have := HK1.out; omega
     case rel => exact ⟨(y212), (wrap64 (x4_1 + 1)), zc_, H', ⟨zbe_⟩, ⟨zr HO214.out⟩, ⟨zb BK211.out⟩, ⟨zdc_⟩⟩
    ·rw [if_neg c4] at H
     exact q3n_ H
   ·rw [if_neg c3] at H
    have c3b0 := decide_eq_false c3; clear c3; obtain ⟨y215, hy215⟩ : ∃ y_ : List (List Int), y_ = (([x3_1] : List (List Int))) := ⟨_, rfl⟩; replace H : ((spec_ciDepths.f k1 a0_0 l0_1 l0_2).bind fun t218 => (spec_plLevels.l1 k1 y215 t218 (t218.length : Int) 0 a0_0 l0_1 l0_2)) = some r := q3y_ hy215 H
    have Ny215 := aM hy215; clear hy215; replace H := oB.mp H; obtain ⟨t218, A70, H⟩ := H; replace H : (spec_plLevels.l1 k1 y215 t218 (t218.length : Int) 0 a0_0 l0_1 l0_2) = some r := H; have A7 := aM A70; clear A70; have H' := aM H; clear H; obtain ⟨hcz8_0, hcz8_1, hcz8_2, hfz8_0, hfz8_1, hfz8_2⟩ := zk3 BK211.out; obtain ⟨Ao9, co9, eo9⟩ := Kd.R_slice HO_3.out; subst eo9
    go_wp2_with (first | ((with_reducible refine gate_dst (N := 19) rfl ?_); refine S_lit1_ (Kd.slice 3 (Kd.int .i64)) _ 39 ?hg (N := 19) ?hd (x := x3_1) (inner := [.slice Ao9 x3_1.length co9]) ?hr ⟨_, rfl, (HO_3.out)⟩ zdc_ (below_size zdc_) ?_; (case hd => rfl); (case hg => rfl); (case hr => exact zd_); intro v216 w10 ho11 hb hg_ hnew_; clear hg_ hnew_; (first | rw [← Ny215.out] at ho11 | (simp only [Int.reduceToNat] at ho11; rw [← Ny215.out] at ho11)); have n_ := z (ho11 (fun _ => True) (fun _ _ => trivial) trivial) <| z (blk_below (zb BK211.out) hb) <| z1 (below_step zdc_ hb); clear BK211 HB HO_3; obtain ⟨HO217, BK211, HB⟩ := n_; clear hb ho11; obtain ⟨hcz12_0, hcz12_1, hcz12_2, hfz12_0, hfz12_1, hfz12_2⟩ := zk3 BK211.out) | ((with_reducible refine gate_callee (f := 88) rfl ?_); refine goesL_ (some 21) rfl rfl Try.func88 (by kernel_rfl) rfl #[.agg #[.int .i64 a0_0, .slice A0_1 l0_1.length c0_1, .slice A0_2 l0_2.length c0_2]] rfl zf_ ?_; (with_reducible refine (spec_ciDepths.calls k1 a0_0 _ _ l0_1 _ _ l0_2 t218 _ ?side1 ?side2 ?side3 ?side4 A7.out).mono ?_); (case side1 => exact zce_); (case side2 => exact HC0_1.out); (case side3 => exact zcf_); (case side4 => exact HC0_2.out); rintro e w13 ⟨v219, rfl, ho0, hb⟩; refine ⟨_, rfl, ?_⟩; have n_ := z (Kd.S_elder' (zs HO217.out) (Kd.Q_base ho0) hb) <| z (Kd.Q_lower ho0 (below_size zdc_)) <| z (blk_below (zb BK211.out) hb) <| z1 (below_step zdc_ hb); clear HO217 BK211 HB; obtain ⟨HO217, HO220, BK211, HB⟩ := n_; clear hb; (try clear ho0); obtain ⟨Ao14, co14, eo14, _⟩ := Kd.Q_slice HO220.out; subst eo14))
    go_loopg [5, 23] k1 (fun kq v5 v23 w' => ∃ (x5_2 : List (List Int)) (x23_2 : Int), v23 = .int .i64 x23_2 ∧ Aside0 (spec_plLevels.l1 kq x5_2 t218 (t218.length : Int) x23_2 a0_0 l0_1 l0_2 = some r) ∧ Aside0 (kq ≤ k1) ∧ Aside0 (Kd.S (Kd.slice 3 (Kd.int .i64)) 39 w' w.heap.size (fun k_ => some k_ ≠ ((.slice Ao14 t218.length co14) : Value).ownBlock) v5 x5_2) ∧ Aside0 (Kd.Q (Kd.int .i64) 3 w' w.heap.size (fun _ => True) (.slice Ao14 t218.length co14) t218) ∧ Aside0 (w'.heap[gb211]? = some (.cells #[.int .i64 a0_0, (.slice A0_1 l0_1.length c0_1), (.slice A0_2 l0_2.length c0_2)] 61 (0, 0))) ∧ Aside0 (Below w.heap.size w w'))
    case atStart => exact ⟨(y215), (0), zc_, H', ⟨Nat.le_refl _⟩, ⟨by refine zs ?_; exact Kd.S_mono HO217.out (fun _ hk => hk.2)⟩, ⟨zq HO220.out⟩, ⟨zb BK211.out⟩, ⟨zdc_⟩⟩
    case round =>
     clear H'; (try clear c3b0); (try clear hcz12_0); (try clear hcz12_1); (try clear hcz12_2); (try clear hcz8_0); (try clear hcz8_1); (try clear hcz8_2); (try clear hfz12_0); (try clear hfz12_1); (try clear hfz12_2); (try clear hfz8_0); (try clear hfz8_1); (try clear hfz8_2); obtain ⟨x5_2, x23_2, rfl, HA, HK2, HO_5, HO_21, BK211, HB⟩ := hrel
     cases gk with
     | zero => exact absurd HA.out (by simp [spec_plLevels.l1])
     | succ k2 =>
      have H := HA.out; clear HA
      simp only [spec_plLevels.l1] at H
      by_cases c15 : x23_2 < (t218.length : Int)
      ·rw [if_pos c15] at H
       have c15b0 := decide_eq_true c15; clear c15
       by_cases c16 : 0 ≤ x23_2
       ·rw [if_pos c16] at H
        have c16b0 := decide_eq_true c16; clear c16
        by_cases c17 : x23_2 < (t218.length : Int)
        ·rw [if_pos c17] at H
         have c17b0 := decide_eq_true c17; clear c17; have H' := aM H; clear H; have p221 : 0 ≤ (x23_2 : Int) := of_decide_eq_true za_; have q221 : x23_2 < (t218.length : Int) := of_decide_eq_true za_; obtain ⟨ad221, e221, hx221_0⟩ := Kd.at_int (Kd.Q_reads' HO_21.out).2.2 x23_2 p221 q221
         cases e221
         replace p221 := eq_true p221; replace q221 := eq_true q221
         go_wp2
         go_loopg [5] k2 (fun kq v5 w' => ∃ (x5_3 : List (List Int)), Aside0 (spec_plLevels.l2 kq x5_3 x23_2 (rd t218 x23_2) t218 (t218.length : Int) x23_2 a0_0 l0_1 l0_2 = some r) ∧ Aside0 (kq ≤ k2) ∧ Aside0 (Kd.S (Kd.slice 3 (Kd.int .i64)) 39 w' w.heap.size (fun k_ => some k_ ≠ ((.slice (some ad221) t218.length co14) : Value).ownBlock) v5 x5_3) ∧ Aside0 (Kd.Q (Kd.int .i64) 3 w' w.heap.size (fun _ => True) (.slice (some ad221) t218.length co14) t218) ∧ Aside0 (w'.heap[gb211]? = some (.cells #[.int .i64 a0_0, (.slice A0_1 l0_1.length c0_1), (.slice A0_2 l0_2.length c0_2)] 61 (0, 0))) ∧ Aside0 (Below w.heap.size w w'))
         case atStart => exact ⟨(x5_2), H', ⟨Nat.le_refl _⟩, ⟨zs HO_5.out⟩, ⟨zq HO_21.out⟩, ⟨zb BK211.out⟩, ⟨zdc_⟩⟩
         case round =>
          clear H'; (try clear c15b0); (try clear c16b0); (try clear c17b0); (try clear hx221_0); (try clear p221); (try clear q221); obtain ⟨x5_3, HA, HK3, HO_5, HO_21, BK211, HB⟩ := hrel
          cases gk with
          | zero => exact absurd HA.out (by simp [spec_plLevels.l2])
          | succ k3 =>
           have H := HA.out; clear HA
           simp only [spec_plLevels.l2] at H
           by_cases c18 : (x5_3.length : Int) ≤ (rd t218 x23_2)
           ·rw [if_pos c18] at H
            have c18b0 := decide_eq_true c18; clear c18
            by_cases c19 : x5_3.length < 5864062014805
            ·rw [if_pos c19] at H
             have LMc19 := aM c19; clear c19; obtain ⟨y222, hy222⟩ : ∃ y_ : List (List Int), y_ = (x5_3 ++ [[]]) := ⟨_, rfl⟩; replace H : (spec_plLevels.l2 k3 y222 x23_2 (rd t218 x23_2) t218 (t218.length : Int) x23_2 a0_0 l0_1 l0_2) = some r := q3y_ hy222 H
             have Ny222 := aM hy222; clear hy222; have H' := aM H; clear H; obtain ⟨Ao20, co20, eo20⟩ := Kd.S_slice HO_5.out; subst eo20
             go_wp2_with (first | ((with_reducible refine gate_builtin (b := .append) (xs := #[.tmp 32, .tmp 33]) rfl ?_); at_builtin; refine Kd.S_append (Kd.slice 3 (Kd.int .i64)) (w0 := w) w.heap.size rfl (.tmp 32) (.tmp 33) 63 39 (.slice none 0 0) 24 rfl Try.underlying63 info39 rfl (by decide) (by omega) (.slice Ao20 x5_3.length co20) x5_3 [] [.slice none 0 0] (fun k_ => some k_ ≠ (.slice (some ad221) t218.length co14 : Value).ownBlock) (fun _ => False) rfl rfl ?aP (fun _ hk => hk.elim) ?aF ?aO ?aB ?aS ?aL ?_; (case aP => exact ⟨_, rfl, Kd.R_nil _ _ _ _ _⟩); (case aB => exact zhg_); (case aF => exact (fun k_ hk => Kd.fresh' (Kd.Q_lt (zq HO_21.out)) k_ hk)); (case aO => exact (by refine zs ?_; exact Kd.S_mono HO_5.out (fun k_ hk => ⟨hk, fun e_ => e_⟩))); (case aS => exact zhh_); (case aL => have := LMc19.out; omega); intro v223 w21 ho hb hg hat; rw [← Ny222.out] at ho; have n_ := z (Kd.Q_over' (zq HO_21.out) (Kd.S_typed (zs HO_5.out)) (by decide) hg) <| z (blk_grown (g := gb211) (o := .cells #[.int .i64 a0_0, .slice A0_1 l0_1.length c0_1, .slice A0_2 l0_2.length c0_2] 61 (0, 0)) (zb BK211.out) hg (Kd.S_ne HO_5.out BK211.out (by decide))) <| z (hb) <| z1 (ho); clear HO_21 BK211 HB HO_5; obtain ⟨HO_21, BK211, HB, HO224⟩ := n_; clear ho hb hg hat))
             go_roundg k3
             case measure => have := HK1.out; have := HK2.out; have := HK3.out; omega
             case rel => exact ⟨(y222), H', ⟨zbd_⟩, ⟨zs HO224.out⟩, ⟨zq HO_21.out⟩, ⟨zb BK211.out⟩, ⟨zdc_⟩⟩
            ·rw [if_neg c19] at H
             exact q3n_ H
           ·rw [if_neg c18] at H
            have c18b0 := decide_eq_false c18; clear c18
            by_cases c22 : 0 ≤ (rd t218 x23_2)
            ·rw [if_pos c22] at H
             have c22b0 := decide_eq_true c22; clear c22
             by_cases c23 : (rd t218 x23_2) < (x5_3.length : Int)
             ·rw [if_pos c23] at H
              have c23b0 := decide_eq_true c23; clear c23
              by_cases c24 : (rd_L4 x5_3 (rd t218 x23_2)).length < 17592186044416
              ·rw [if_pos c24] at H
               have LMc24 := aM c24; clear c24; obtain ⟨y226, hy226⟩ : ∃ y_ : List Int, y_ = ((rd_L4 x5_3 (rd t218 x23_2)) ++ [wrap64 (a0_0 + x23_2)]) := ⟨_, rfl⟩; replace H : (spec_plLevels.l1 k3 (x5_3.set ((rd t218 x23_2) : Int).toNat y226) t218 (t218.length : Int) (wrap64 (x23_2 + 1)) a0_0 l0_1 l0_2) = some r := q3y_ hy226 H
               have Ny226 := aM hy226; clear hy226; obtain ⟨y229, hy229⟩ : ∃ y_ : List (List Int), y_ = (x5_3.set ((rd t218 x23_2) : Int).toNat y226) := ⟨_, rfl⟩; replace H : (spec_plLevels.l1 k3 y229 t218 (t218.length : Int) (wrap64 (x23_2 + 1)) a0_0 l0_1 l0_2) = some r := q3y_ hy229 H
               have Ny229 := aM hy229; clear hy229; have H' := aM H; clear H; obtain ⟨Ao26, co26, eo26⟩ := Kd.S_slice HO_5.out; subst eo26; (try go_wp2); have n_ := z (Kd.S_drew HO_5.out) <| z (qD HO_21.out) <| z (blk_drew BK211.out) <| z1 (p1 HB.out)
               clear HO_5 HO_21 BK211 HB; obtain ⟨HO_5, HO_21, BK211, HB⟩ := n_; have p225 : 0 ≤ ((rd t218 x23_2) : Int) := of_decide_eq_true za_; have q225 : (rd t218 x23_2) < (x5_3.length : Int) := of_decide_eq_true za_; obtain ⟨ad225, A225_0, c225_0, e225, hx225_0, hl225_0, hi225_0⟩ := at_L4 (Kd.S_reads' HO_5.out).2.2 (rd t218 x23_2) p225 q225
               cases e225
               obtain ⟨ce225, hce225, hMe225, hcc225⟩ := Kd.S_get HO_5.out [] (rd t218 x23_2) p225 (by first | exact q225 | exact of_decide_eq_true za_ | (have e_ := (Kd.S_reads' HO_5.out).1; omega)); obtain ⟨ve225_0, rfl, ge225_0⟩ := hMe225; have hv225_0 := hcc225 0 _ rfl; rw [Nat.add_zero, show ((Kd.slice 3 (Kd.int .i64))).sz = 1 from rfl, Nat.mul_one] at hv225_0; replace hv225_0 := Option.some.inj (hv225_0.symm.trans hx225_0); rw [hv225_0] at ge225_0; have HL225_0 := aM (show Kd.R (Kd.int .i64) 3 _ _ _ _ (rd_L4 x5_3 (rd t218 x23_2)) from ge225_0); clear hv225_0 ge225_0; have HX225_0 := aM hx225_0; clear hcc225 hce225; have HR225_0 := aM hi225_0; have HC225_0 := aM hl225_0; clear hi225_0 hl225_0; replace p225 := eq_true p225; replace q225 := eq_true q225; obtain ⟨go28, co28, eo28, gb28, gl28, cl28, HG28⟩ := Kd.S_form HO_5.out (by have h_ : ((rd t218 x23_2) : Int) < ((x5_3.length : Int) : Int) := of_decide_eq_true za_; have h2_ : 0 ≤ ((rd t218 x23_2) : Int) := (of_decide_eq_true za_); omega); (first | cases eo28 | (injection eo28 with ea_ en_ ec_; (first | subst ea_ | (injection ea_ with ea_; subst ea_)); subst ec_; clear en_)); have GB28 := aM gb28; have GG28 := aM HG28; clear gb28 gl28 HG28; (first | simp only [add_plain] at hx225_0 | skip); obtain ⟨oki28, ce28, hcl28, hM28, hcc28, _, _, hH28⟩ := Kd.S_elem HO_5.out [] ((rd t218 x23_2) : Int) (of_decide_eq_true za_) (by have h_ : ((rd t218 x23_2) : Int) < ((x5_3.length : Int) : Int) := of_decide_eq_true za_; first | exact h_ | (have e_ := (Kd.S_reads' HO_5.out).1; omega) | simpa using h_); obtain ⟨ve28_0, rfl, ge28_0⟩ := hM28; have hv28 := hcc28 0 _ rfl; have hX28 := HX225_0.out; (try simp only [add_plain] at hX28); (try simp only [Nat.add_zero] at hv28); (try rw [show ((Kd.slice 3 (Kd.int .i64))).sz = 1 from rfl, Nat.mul_one] at hv28); replace hv28 := Option.some.inj (hv28.symm.trans hX28); subst hv28; clear hX28 hcc28 hcl28; have UU28 := aM (show Kd.R (Kd.int .i64) 3 _ w.heap.size oki28 (.slice A225_0 (rd_L4 x5_3 (rd t218 x23_2)).length c225_0) (rd_L4 x5_3 (rd t218 x23_2)) from ge28_0); have HH28 := aM hH28; have HN28 := aM (Kd.S_reads' HO_5.out).1; clear hH28 ge28_0
               refine start_ (n := 14) (S := fun w' => w'.cell? ⟨gb211, 0, none⟩ = some (.int .i64 a0_0) ∧ w'.cell? ⟨gb211, 1, none⟩ = some (.slice A0_1 l0_1.length c0_1) ∧ w'.cell? ⟨gb211, 2, none⟩ = some (.slice A0_2 l0_2.length c0_2) ∧ w'.cell? ⟨go28, ((rd t218 x23_2)).toNat, none⟩ = some (.slice A225_0 (rd_L4 x5_3 (rd t218 x23_2)).length c225_0)) (ds := [13]) #[fi,fi,fi,fi,fi,fi,fi,fi,fi,fi,fi,fi,fi,fi] (by kernel_rfl) rfl rfl ⟨(blk_cell BK211.out 0).trans rfl, (blk_cell BK211.out 1).trans rfl, (blk_cell BK211.out 2).trans rfl, hx225_0⟩ (fun hHeld => ?_); refine with_tabW spec_plLevels.tab12 spec_plLevels.bits12 (fun HT_ HW_ => ?_)
               generalize wr.drew = w27 at HO_5 HO_21 BK211 HB GG28 HH28 HL225_0 HR225_0 HX225_0 UU28 hx225_0 hHeld ⊢; refine py_ 0 35 HT_.out ?_; refine py_ 1 36 HT_.out ?_; refine py_ 2 37 HT_.out ?_; refine py_ 3 38 HT_.out ?_; refine py_ 4 39 HT_.out ?_; refine py_ 6 41 HT_.out ?_; refine py_ 8 43 HT_.out ?_
               refine tw4_ 5 40 HT_.out HW_.out hHeld ?_
               refine tw4_ 7 42 HT_.out HW_.out hHeld ?_
               refine py_ 9 44 HT_.out ?_
               refine one_ (i := 10) (N := some 45) #[ti,ti,ti,ti,ti,ti,ti,ti,ti,ti,ti,fi,fi,fi] rfl rfl (one_of HT_.out (by kernel_rfl)) (by decide) (fun K hK => ?_)
               refine value_ (w1 := ?_) (v := ?_) (by rfl) rfl ?_ ?_
               rotate_left 2
               ·go_simp
                constructor
                ·rfl
                ·rfl
               refine hK.out _ _ ⟨(blk_cell (blk_alloc BK211.out _) 0).trans rfl, (blk_cell (blk_alloc BK211.out _) 1).trans rfl, (blk_cell (blk_alloc BK211.out _) 2).trans rfl, (World.cell?_alloc_lt _ _ _ (World.block_lt_of_cell? _ _ (hHeld.2.2.2))).trans (hHeld.2.2.2)⟩ (fun hHeld => ?_)
               clear hK K
               refine nz_ 45 ?_
               refine one_ (i := 11) (N := some 46) #[ti,ti,ti,ti,ti,ti,ti,ti,ti,ti,ti,ti,fi,fi] rfl rfl (one_of HT_.out (by kernel_rfl)) (by decide) (fun K hK => ?_)
               refine Kd.R_append_step (Kd.int .i64) (w0 := w) w.heap.size (by rfl) (.tmp 40) (.tmp 45) 39 3 (.int .i64 0) 8 rfl Try.underlying39 info3 rfl (by decide) (by omega) (.slice A225_0 (rd_L4 x5_3 (rd t218 x23_2)).length c225_0) (rd_L4 x5_3 (rd t218 x23_2)) (wrap64 (a0_0 + x23_2)) [.int .i64 (wrap64 (a0_0 + x23_2))] (fun k_ => oki28 k_ ∨ ((fun k_ => some k_ ≠ (.slice (some ad221) t218.length co14 : Value).ownBlock)) k_ ∧ w27.heap.size ≤ k_) (fun _ => False) rfl rfl ?aP (fun _ hk => hk.elim) ?aF ?aO ?aB ?aS ?aL ?_
               (case aP => exact rfl)
               (case aB => exact zhg_)
               (case aF => exact (fun k_ hk => .inr ⟨Kd.fresh' (Kd.Q_lt (zq HO_21.out)) k_ hk, hk⟩))
               (case aO => exact (by refine zr ?_; exact Kd.R_mono UU28.out (fun _ hk => .inl hk)))
               (case aS => exact zhh_)
               (case aL => have := LMc24.out; omega)
               intro v227 w29 ho hb hg hat
               (first | have HS3_ := cell_grown hg (hHeld.2.2.2) (by first | (rw [add_block]; exact (fun e_ => ((HL225_0.out.1 _ e_.symm).2) rfl)) | (show some (Addr.add _ _).block ≠ _; rw [add_block]; exact (fun e_ => ((HL225_0.out.1 _ e_.symm).2) rfl)) | exact (fun e_ => ((HL225_0.out.1 _ e_.symm).2) rfl)) | have HS3_ := cell_grown hg (cell_unalloc (hHeld.2.2.2) (by first | (rw [add_block]; exact Kd.S_lt HO_5.out _ rfl) | (show (Addr.add _ _).block < _; rw [add_block]; exact Kd.S_lt HO_5.out _ rfl) | exact Kd.S_lt HO_5.out _ rfl)) (by first | (rw [add_block]; exact (fun e_ => ((HL225_0.out.1 _ e_.symm).2) rfl)) | (show some (Addr.add _ _).block ≠ _; rw [add_block]; exact (fun e_ => ((HL225_0.out.1 _ e_.symm).2) rfl)) | exact (fun e_ => ((HL225_0.out.1 _ e_.symm).2) rfl))); rw [← Ny226.out] at ho; have n_ := z (Kd.Q_grown2 (zq HO_21.out) rfl hg (fun k_ e_ => (HL225_0.out.1 k_ e_).1)) <| z (blk_grown (g := gb211) (o := .cells #[.int .i64 a0_0, .slice A0_1 l0_1.length c0_1, .slice A0_2 l0_2.length c0_2] 61 (0, 0)) (zb BK211.out) hg (Kd.R_ne HL225_0.out BK211.out (by decide))) <| z (hb) <| z (Kd.H_grown (Kd.H_widen (by repeat (first | exact HH28.out | refine Kd.H_alloc ?_ _ | refine Kd.H_drewN ?_ _ | refine Kd.H_drew ?_))) hg (fun k_ e_ => .inl (UU28.out.1 k_ e_))) <| z1 (ho)
               clear HO_21 BK211 HB HH28 HO_5 UU28 HL225_0; obtain ⟨HO_21, BK211, HB, HH28, HO228⟩ := n_; clear ho hb hg hat; have p25 : 0 ≤ ((rd t218 x23_2) : Int) := of_decide_eq_true za_; have q25 : ((rd t218 x23_2) : Int) < ((x5_3.length : Int) : Int) := of_decide_eq_true za_; replace p25 := eq_true p25; replace q25 := eq_true q25; obtain ⟨Ao32, co32, eo32⟩ := Kd.R_slice HO228.out; (first | subst eo32 | (injection eo32 with f1_ f2_ f3_; have f4_ := f1_.symm; have f5_ := f3_.symm; clear f1_ f2_ f3_; subst f4_; subst f5_)); obtain ⟨_, _, hraw30, _, _, hcc30, _⟩ := Kd.H_raw HH28.out (of_decide_eq_true za_) (by have h_ : ((rd t218 x23_2) : Int) < ((x5_3.length : Int) : Int) := of_decide_eq_true za_; first | exact h_ | (have e_ := (HN28.out); omega) | simpa using h_); obtain ⟨_, hfr30⟩ := Kd.H_at HH28.out (of_decide_eq_true za_) (by have h_ : ((rd t218 x23_2) : Int) < ((x5_3.length : Int) : Int) := of_decide_eq_true za_; first | exact h_ | (have e_ := (HN28.out); omega) | simpa using h_); have hx30_0 := hcc30 0 _ rfl; have hf30_0 := hfr30 0; (try simp only [Nat.add_zero] at hx30_0 hf30_0); (try rw [show ((Kd.slice 3 (Kd.int .i64))).sz = 1 from rfl, Nat.mul_one] at hx30_0); (try rw [show ((Kd.slice 3 (Kd.int .i64))).sz = 1 from rfl, Nat.mul_one] at hf30_0); have HP30 := Kd.S_seg0 HH28.out (of_decide_eq_true za_) (by have h_ : ((rd t218 x23_2) : Int) < ((x5_3.length : Int) : Int) := of_decide_eq_true za_; first | exact h_ | (have e_ := (HN28.out); omega) | simpa using h_) (seg := [.slice Ao32 y226.length co32]) (j := 0) (show 1 ≤ 1 from by decide) (x' := y226) (Kd.M_row HO228.out) (fun _ hk => hk); (try simp only [show ((Kd.slice 3 (Kd.int .i64))).sz = 1 from rfl, Nat.mul_one, Nat.add_zero] at HP30); clear hcc30 hfr30; have HNB211_go28 := aM (show gb211 ≠ go28 from by have h_ := Kd.R_ne hraw30 BK211.out (by decide); intro e_; exact h_ (by rw [e_]; rfl)); have HS30 := HP30.1; rw [← Ny229.out] at HS30; have HQ30 := aM HS30; obtain ⟨_, hgg30⟩ := Kd.R_typed hraw30 go28 rfl; have GG30_ := aM hgg30; clear HP30 HS30 hgg30
               refine hK.out _ _ ⟨(blk_cell BK211.out 0).trans rfl, (blk_cell BK211.out 1).trans rfl, (blk_cell BK211.out 2).trans rfl, HS3_⟩ (fun hHeld => ?_)
               clear hK K
               refine nz_ 46 ?_
               refine py_ 12 47 HT_.out ?_
               refine last_ (i := 13) (N := none) #[ti,ti,ti,ti,ti,ti,ti,ti,ti,ti,ti,ti,ti,ti] rfl rfl (one_of HT_.out (by kernel_rfl)) (by decide) (fun K hK => ?_)
               refine skip_ (w1 := ?_) (by rfl) rfl ?_ ?_
               rotate_left
               ·go_simp
                rfl
               refine hK.out _ _ ?_
               clear hK K
               refine done_ (done_of HT_.out (by kernel_rfl)) ?_
               (try go_wp2)
               go_roundg k3
               case measure => have := HK1.out; have := HK2.out; have := HK3.out; omega
               case rel => exact ⟨(y229), (wrap64 (x23_2 + 1)), zc_, H', ⟨zbd_⟩, ⟨zs HQ30.out⟩, ⟨by refine zq ?_; exact Kd.Q_mono (Kd.Q_far (p := ⟨go28, ((rd t218 x23_2) : Int).toNat, none⟩) (Kd.Q_types HO_21.out GG30_.out (by decide)) (fun _ hk => hk.2) (.slice Ao32 y226.length co32)) (fun _ hk => trivial)⟩, ⟨by refine zb ?_; refine blk_far ?_ HNB211_go28.out _; refine zb ?_; exact BK211.out⟩, ⟨by repeat (first | (with_reducible first | exact HB.out | apply pA | apply pN | apply p1 | refine below_set ?_ GB28.out | refine below_set ?_ GE211.out) | exact HB.out)⟩⟩
              ·rw [if_neg c24] at H
               exact q3n_ H
             ·rw [if_neg c23] at H
              exact q3n_ H
            ·rw [if_neg c22] at H
             exact q3n_ H
        ·rw [if_neg c17] at H
         exact q3n_ H
       ·rw [if_neg c16] at H
        exact q3n_ H
      ·rw [if_neg c15] at H
       have c15b0 := decide_eq_false c15; clear c15; obtain rfl := Option.some.inj H
       go_wp2
       go_ret
       exact ⟨_, zh_, by refine zs ?_; exact Kd.S_mono HO_5.out (fun _ hk => trivial), zdc_⟩
def spec_LevelsOf.f (k : Nat) (a0_0 : Int) (l0_1 : List (S109)) (l0_2 : List Int) : Option ((List (List Int)) × Bool) := (spec_ciGood.f k a0_0 l0_1 l0_2).bind fun t231 => (if t231 = true then ((spec_plLevels.f k a0_0 l0_1 l0_2).bind fun t232 => (some (t232, true))) else (some (([] : List (List Int)), false)))
theorem spec_LevelsOf.calls (k : Nat) (a0_0 : Int) (A0_1 : Option Addr) (c0_1 : Nat) (l0_1 : List (S109)) (A0_2 : Option Addr) (c0_2 : Nat) (l0_2 : List Int) (r1 : List (List Int)) (r2 : Bool) (w : World) (hr0_1 : Kd.C k109 w A0_1 l0_1.length l0_1) (hc0_1 : l0_1.length ≤ c0_1) (hr0_2 : Kd.C (Kd.int .i64) w A0_2 l0_2.length l0_2) (hc0_2 : l0_2.length ≤ c0_2) (h : spec_LevelsOf.f k a0_0 l0_1 l0_2 = some (r1, r2)) :
  Calls Try.prog 33 #[.agg #[.int .i64 a0_0, .slice A0_1 l0_1.length c0_1, .slice A0_2 l0_2.length c0_2]] w fun e w' => ∃ v0_ : Value, e = .returned (.tuple #[v0_, .bool r2]) ∧ Kd.S (Kd.slice 3 (Kd.int .i64)) 39 w' w.heap.size (fun _ => True) v0_ r1 ∧ Below w.heap.size w w' := by
 have hu61 := Try.underlying61
 have HR0_1 := aM hr0_1
 have HC0_1 := aM hc0_1
 clear hr0_1 hc0_1
 have HR0_2 := aM hr0_2
 have HC0_2 := aM hc0_2
 clear hr0_2 hc0_2
 have HB := aM (Below.refl w.heap.size w)
 have H : ((spec_ciGood.f k a0_0 l0_1 l0_2).bind fun t231 => (if t231 = true then ((spec_plLevels.f k a0_0 l0_1 l0_2).bind fun t232 => (some (t232, true))) else (some (([] : List (List Int)), false)))) = some (r1, r2) := h
 clear h
 replace H := oB.mp H
 obtain ⟨t231, A20, H⟩ := H
 replace H : (if t231 = true then ((spec_plLevels.f k a0_0 l0_1 l0_2).bind fun t232 => (some (t232, true))) else (some (([] : List (List Int)), false))) = some (r1, r2) := H
 have A2 := aM A20
 clear A20
 by_cases c3 : t231 = true
 ·subst c3
  have H1 : ((spec_plLevels.f k a0_0 l0_1 l0_2).bind fun t232 => (some (t232, true))) = some (r1, r2) := by rw [if_pos rfl] at H; exact H
  clear H; have H := H1; clear H1; replace H := oB.mp H; obtain ⟨t232, A40, H⟩ := H; replace H : (some (t232, true)) = some (r1, r2) := H; have A4 := aM A40; clear A40
  simp only [Option.some.injEq, Prod.mk.injEq] at H
  obtain ⟨rfl, rfl⟩ := H
  go_enter Try.func33, Try.ntmps33
  go_wp2_with (first | ((with_reducible refine gate_dst (N := 1) rfl ?_); refine box_event ?hg (N := 1) ?hd (cs := #[.int .i64 a0_0, .slice A0_1 l0_1.length c0_1, .slice A0_2 l0_2.length c0_2]) (t := 61) ?hr ?_; (case hd => rfl); (case hg => rfl); (case hr => exact zd_); intro gb230 hg w5 hbox hb; have n_ := z (below_step zb_ hb) <| z (hbox) <| z ((by rw [hg]; exact (below_size zb_) : w.heap.size ≤ gb230)) <| z1 ((by rw [hg]; exact (below_size zb_) : w.heap.size ≤ gb230)); clear HB; obtain ⟨HB, BK230, GW230, GE230⟩ := n_; clear hb hbox hg; obtain ⟨hcz6_0, hcz6_1, hcz6_2, hfz6_0, hfz6_1, hfz6_2⟩ := zk3 BK230.out) | ((with_reducible refine gate_callee (f := 86) rfl ?_); refine goesL_ (some 5) rfl rfl Try.func86 (by kernel_rfl) rfl #[.agg #[.int .i64 a0_0, .slice A0_1 l0_1.length c0_1, .slice A0_2 l0_2.length c0_2]] rfl zf_ ?_; (with_reducible refine (spec_ciGood.calls k a0_0 _ _ l0_1 _ _ l0_2 true _ ?side1 ?side2 ?side3 ?side4 A2.out).mono ?_); (case side1 => exact zce_); (case side2 => exact HC0_1.out); (case side3 => exact zcf_); (case side4 => exact HC0_2.out); rintro e w7 ⟨rfl, hb⟩; refine ⟨_, rfl, ?_⟩; have n_ := z (blk_below (zb BK230.out) hb) <| z1 (below_step zeg_ hb); clear BK230 HB; obtain ⟨BK230, HB⟩ := n_; clear hb; obtain ⟨hcz8_0, hcz8_1, hcz8_2, hfz8_0, hfz8_1, hfz8_2⟩ := zk3 BK230.out) | ((with_reducible refine gate_callee (f := 87) rfl ?_); refine goesL_ (some 8) rfl rfl Try.func87 (by kernel_rfl) rfl #[.agg #[.int .i64 a0_0, .slice A0_1 l0_1.length c0_1, .slice A0_2 l0_2.length c0_2]] rfl zf_ ?_; (with_reducible refine (spec_plLevels.calls k a0_0 _ _ l0_1 _ _ l0_2 t232 _ ?side1 ?side2 ?side3 ?side4 A4.out).mono ?_); (case side1 => exact zce_); (case side2 => exact HC0_1.out); (case side3 => exact zcf_); (case side4 => exact HC0_2.out); rintro e w9 ⟨v233, rfl, ho0, hb⟩; refine ⟨_, rfl, ?_⟩; have n_ := z (Kd.S_lower ho0 (below_size zeg_)) <| z (blk_below (zb BK230.out) hb) <| z1 (below_step zeg_ hb); clear BK230 HB; obtain ⟨HO234, BK230, HB⟩ := n_; clear hb; (try clear ho0)))
  go_ret2
  exact ⟨_, zh_, by refine zs ?_; exact HO234.out, zeg_⟩
 ·replace c3 := Bool.eq_false_iff.mpr c3
  subst c3; have H1 : (some (([] : List (List Int)), false)) = some (r1, r2) := by rw [if_neg (show ¬ (false = true) by decide)] at H; exact H
  clear H; have H := H1; clear H1
  simp only [Option.some.injEq, Prod.mk.injEq] at H
  obtain ⟨rfl, rfl⟩ := H
  go_enter Try.func33, Try.ntmps33
  go_wp2_with (first | ((with_reducible refine gate_dst (N := 1) rfl ?_); refine box_event ?hg (N := 1) ?hd (cs := #[.int .i64 a0_0, .slice A0_1 l0_1.length c0_1, .slice A0_2 l0_2.length c0_2]) (t := 61) ?hr ?_; (case hd => rfl); (case hg => rfl); (case hr => exact zd_); intro gb230 hg w10 hbox hb; have n_ := z (below_step zb_ hb) <| z (hbox) <| z ((by rw [hg]; exact (below_size zb_) : w.heap.size ≤ gb230)) <| z1 ((by rw [hg]; exact (below_size zb_) : w.heap.size ≤ gb230)); clear HB; obtain ⟨HB, BK230, GW230, GE230⟩ := n_; clear hb hbox hg; obtain ⟨hcz11_0, hcz11_1, hcz11_2, hfz11_0, hfz11_1, hfz11_2⟩ := zk3 BK230.out) | ((with_reducible refine gate_callee (f := 86) rfl ?_); refine goesL_ (some 5) rfl rfl Try.func86 (by kernel_rfl) rfl #[.agg #[.int .i64 a0_0, .slice A0_1 l0_1.length c0_1, .slice A0_2 l0_2.length c0_2]] rfl zf_ ?_; (with_reducible refine (spec_ciGood.calls k a0_0 _ _ l0_1 _ _ l0_2 false _ ?side1 ?side2 ?side3 ?side4 A2.out).mono ?_); (case side1 => exact zce_); (case side2 => exact HC0_1.out); (case side3 => exact zcf_); (case side4 => exact HC0_2.out); rintro e w12 ⟨rfl, hb⟩; refine ⟨_, rfl, ?_⟩; have n_ := z (blk_below (zb BK230.out) hb) <| z1 (below_step zeg_ hb); clear BK230 HB; obtain ⟨BK230, HB⟩ := n_; clear hb))
  go_ret2
  exact ⟨_, zh_, zfh_, zeg_⟩
def laws_sameLists.l0 : Nat → List (List Int) → List (List Int) → Int → Int → Option (Bool)
 | 0, _, _, _, _ => none
 | k + 1, x0, x1, x12, x13 => if x13 < x12 then (if 0 ≤ x13 then (if x13 < (x0.length : Int) then (if x13 < (x1.length : Int) then ((laws_sameInts.f k (rd_L4 x0 x13) (rd_L4 x1 x13)).bind fun t237 => (if t237 = true then (laws_sameLists.l0 k x0 x1 x12 (wrap64 (x13 + 1))) else (some false))) else (none)) else (none)) else (none)) else (some true)
def laws_sameLists.f (k : Nat) (l0 : List (List Int)) (l1 : List (List Int)) : Option (Bool) := if (l0.length : Int) = (l1.length : Int) then (laws_sameLists.l0 k l0 l1 (l0.length : Int) 0) else (some false)
theorem laws_sameLists.calls (k : Nat) (A0 : Option Addr) (c0 : Nat) (l0 : List (List Int)) (A1 : Option Addr) (c1 : Nat) (l1 : List (List Int)) (r : Bool) (w : World) (hr0 : Kd.C (Kd.slice 3 (Kd.int .i64)) w A0 l0.length l0) (hc0 : l0.length ≤ c0) (hr1 : Kd.C (Kd.slice 3 (Kd.int .i64)) w A1 l1.length l1) (hc1 : l1.length ≤ c1) (h : laws_sameLists.f k l0 l1 = some r) :
  Calls Try.prog 34 #[.slice A0 l0.length c0, .slice A1 l1.length c1] w fun e w' => e = .returned (.bool r) ∧ Drawn0 w w' := by
 have HR0 := aM hr0
 have HC0 := aM hc0
 clear hr0 hc0
 have HR1 := aM hr1
 have HC1 := aM hc1
 clear hr1 hc1
 have H : (if (l0.length : Int) = (l1.length : Int) then (laws_sameLists.l0 k l0 l1 (l0.length : Int) 0) else (some false)) = some r := h
 clear h
 by_cases c3 : (l0.length : Int) = (l1.length : Int)
 ·rw [if_pos c3] at H
  have c3b0 := beq_iff_eq.mpr c3; have c3b1 := bne_eq_false_iff_eq.mpr c3; have c3b2 : (l0.length == l1.length) = true := by first | simpa using c3 | (simp at c3 ⊢; omega)
  clear c3; have H' := aM H; clear H
  go_enter Try.func34, Try.ntmps34
  go_wp2
  repeat (go_quiet (fail); try go_wp2)
  go_loopg [13] k (fun kq v13 w' => ∃ (x13_1 : Int), v13 = .int .i64 x13_1 ∧ Aside0 (laws_sameLists.l0 kq l0 l1 (l0.length : Int) x13_1 = some r) ∧ Aside0 (kq ≤ k) ∧ Drawn0 w w')
  case atStart => exact ⟨(0), zc_, H', ⟨Nat.le_refl _⟩, zg_⟩
  case round =>
   clear H'; (try clear c3b0); (try clear c3b1); (try clear c3b2); obtain ⟨x13_1, rfl, HA, HK1, ⟨m1, rfl⟩⟩ := hrel
   cases gk with
   | zero => exact absurd HA.out (by simp [laws_sameLists.l0])
   | succ k1 =>
    have H := HA.out; clear HA
    simp only [laws_sameLists.l0] at H
    by_cases c4 : x13_1 < (l0.length : Int)
    ·rw [if_pos c4] at H
     have c4b0 := decide_eq_true c4; clear c4
     by_cases c5 : 0 ≤ x13_1
     ·rw [if_pos c5] at H
      have c5b0 := decide_eq_true c5; clear c5
      by_cases c6 : x13_1 < (l0.length : Int)
      ·rw [if_pos c6] at H
       have c6b0 := decide_eq_true c6; clear c6
       by_cases c7 : x13_1 < (l1.length : Int)
       ·rw [if_pos c7] at H
        have c7b0 := decide_eq_true c7; clear c7; replace H := oB.mp H; obtain ⟨t237, A80, H⟩ := H; replace H : (if t237 = true then (laws_sameLists.l0 k1 l0 l1 (l0.length : Int) (wrap64 (x13_1 + 1))) else (some false)) = some r := H; have A8 := aM A80; clear A80
        by_cases c9 : t237 = true
        ·subst c9
         have H1 : (laws_sameLists.l0 k1 l0 l1 (l0.length : Int) (wrap64 (x13_1 + 1))) = some r := by rw [if_pos rfl] at H; exact H
         clear H; have H := H1; clear H1; have H' := aM H; clear H; have p235 : 0 ≤ (x13_1 : Int) := of_decide_eq_true za_; have q235 : x13_1 < (l0.length : Int) := of_decide_eq_true za_; obtain ⟨ad235, A235_0, c235_0, e235, hx235_0, hl235_0, hi235_0⟩ := at_L4 HR0.out x13_1 p235 q235
         cases e235
         have HR235_0 := aM hi235_0; have HC235_0 := aM hl235_0; clear hi235_0 hl235_0; replace p235 := eq_true p235; replace q235 := eq_true q235; have p236 : 0 ≤ (x13_1 : Int) := of_decide_eq_true za_; have q236 : x13_1 < (l1.length : Int) := of_decide_eq_true za_; obtain ⟨ad236, A236_0, c236_0, e236, hx236_0, hl236_0, hi236_0⟩ := at_L4 HR1.out x13_1 p236 q236
         cases e236
         have HR236_0 := aM hi236_0; have HC236_0 := aM hl236_0; clear hi236_0 hl236_0; replace p236 := eq_true p236; replace q236 := eq_true q236
         go_wp2_with (first | (go_at_call 26; (with_reducible refine (laws_sameInts.calls k1 _ _ (rd_L4 l0 x13_1) _ _ (rd_L4 l1 x13_1) true _ ?side1 ?side2 ?side3 ?side4 A8.out).mono ?_); (case side1 => exact zeh_); (case side2 => exact HC235_0.out); (case side3 => exact zei_); (case side4 => exact HC236_0.out); rintro e w' ⟨rfl, ⟨nd, rfl⟩⟩; (try exact q3d_)))
         repeat (go_quiet (first | (go_at_call 26; (with_reducible refine (laws_sameInts.calls k1 _ _ (rd_L4 l0 x13_1) _ _ (rd_L4 l1 x13_1) true _ ?side1 ?side2 ?side3 ?side4 A8.out).mono ?_); (case side1 => exact zeh_); (case side2 => exact HC235_0.out); (case side3 => exact zei_); (case side4 => exact HC236_0.out); rintro e w' ⟨rfl, ⟨nd, rfl⟩⟩; (try exact q3d_))); try go_wp2_with (first | (go_at_call 26; (with_reducible refine (laws_sameInts.calls k1 _ _ (rd_L4 l0 x13_1) _ _ (rd_L4 l1 x13_1) true _ ?side1 ?side2 ?side3 ?side4 A8.out).mono ?_); (case side1 => exact zeh_); (case side2 => exact HC235_0.out); (case side3 => exact zei_); (case side4 => exact HC236_0.out); rintro e w' ⟨rfl, ⟨nd, rfl⟩⟩; (try exact q3d_))))
         go_roundg k1
         case measure => have := HK1.out; omega
         case rel => exact ⟨(wrap64 (x13_1 + 1)), zc_, H', ⟨zbe_⟩, zg_⟩
        ·replace c9 := Bool.eq_false_iff.mpr c9
         subst c9; have H1 : (some false) = some r := by rw [if_neg (show ¬ (false = true) by decide)] at H; exact H
         clear H; have H := H1; clear H1; obtain rfl := Option.some.inj H; have p235 : 0 ≤ (x13_1 : Int) := of_decide_eq_true za_; have q235 : x13_1 < (l0.length : Int) := of_decide_eq_true za_; obtain ⟨ad235, A235_0, c235_0, e235, hx235_0, hl235_0, hi235_0⟩ := at_L4 HR0.out x13_1 p235 q235
         cases e235
         have HR235_0 := aM hi235_0; have HC235_0 := aM hl235_0; clear hi235_0 hl235_0; replace p235 := eq_true p235; replace q235 := eq_true q235; have p236 : 0 ≤ (x13_1 : Int) := of_decide_eq_true za_; have q236 : x13_1 < (l1.length : Int) := of_decide_eq_true za_; obtain ⟨ad236, A236_0, c236_0, e236, hx236_0, hl236_0, hi236_0⟩ := at_L4 HR1.out x13_1 p236 q236
         cases e236
         have HR236_0 := aM hi236_0; have HC236_0 := aM hl236_0; clear hi236_0 hl236_0; replace p236 := eq_true p236; replace q236 := eq_true q236
         go_wp2_with (first | (go_at_call 26; (with_reducible refine (laws_sameInts.calls k1 _ _ (rd_L4 l0 x13_1) _ _ (rd_L4 l1 x13_1) false _ ?side1 ?side2 ?side3 ?side4 A8.out).mono ?_); (case side1 => exact zeh_); (case side2 => exact HC235_0.out); (case side3 => exact zei_); (case side4 => exact HC236_0.out); rintro e w' ⟨rfl, ⟨nd, rfl⟩⟩; (try exact q3d_)))
         repeat (go_quiet (first | (go_at_call 26; (with_reducible refine (laws_sameInts.calls k1 _ _ (rd_L4 l0 x13_1) _ _ (rd_L4 l1 x13_1) false _ ?side1 ?side2 ?side3 ?side4 A8.out).mono ?_); (case side1 => exact zeh_); (case side2 => exact HC235_0.out); (case side3 => exact zei_); (case side4 => exact HC236_0.out); rintro e w' ⟨rfl, ⟨nd, rfl⟩⟩; (try exact q3d_))); try go_wp2_with (first | (go_at_call 26; (with_reducible refine (laws_sameInts.calls k1 _ _ (rd_L4 l0 x13_1) _ _ (rd_L4 l1 x13_1) false _ ?side1 ?side2 ?side3 ?side4 A8.out).mono ?_); (case side1 => exact zeh_); (case side2 => exact HC235_0.out); (case side3 => exact zei_); (case side4 => exact HC236_0.out); rintro e w' ⟨rfl, ⟨nd, rfl⟩⟩; (try exact q3d_))))
         go_ret
         exact ⟨zc_, zg_⟩
       ·rw [if_neg c7] at H
        exact q3n_ H
      ·rw [if_neg c6] at H
       exact q3n_ H
     ·rw [if_neg c5] at H
      exact q3n_ H
    ·rw [if_neg c4] at H
     have c4b0 := decide_eq_false c4; clear c4; obtain rfl := Option.some.inj H
     go_wp2
     repeat (go_quiet (fail); try go_wp2)
     go_ret
     exact ⟨zc_, zg_⟩
 ·rw [if_neg c3] at H
  have c3b0 := beq_eq_false_iff_ne.mpr c3; have c3b1 := bne_iff_ne.mpr c3; have c3b2 : (l0.length == l1.length) = false := by first | simpa using c3 | (simp at c3 ⊢; omega)
  obtain rfl := Option.some.inj H
  go_enter Try.func34, Try.ntmps34
  go_wp2
  repeat (go_quiet (fail); try go_wp2)
  go_ret
  exact ⟨zc_, zg_⟩
def spec_GateDepths.f (k : Nat) (a0_0 : Int) (l0_1 : List (S109)) (l0_2 : List Int) : Option (List Int × Bool) := (spec_ciGood.f k a0_0 l0_1 l0_2).bind fun t239 => (if t239 = true then ((spec_ciDepths.f k a0_0 l0_1 l0_2).bind fun t240 => (some (t240, true))) else (some (([] : List Int), false)))
theorem spec_GateDepths.calls (k : Nat) (a0_0 : Int) (A0_1 : Option Addr) (c0_1 : Nat) (l0_1 : List (S109)) (A0_2 : Option Addr) (c0_2 : Nat) (l0_2 : List Int) (r1 : List Int) (r2 : Bool) (w : World) (hr0_1 : Kd.C k109 w A0_1 l0_1.length l0_1) (hc0_1 : l0_1.length ≤ c0_1) (hr0_2 : Kd.C (Kd.int .i64) w A0_2 l0_2.length l0_2) (hc0_2 : l0_2.length ≤ c0_2) (h : spec_GateDepths.f k a0_0 l0_1 l0_2 = some (r1, r2)) :
  Calls Try.prog 36 #[.agg #[.int .i64 a0_0, .slice A0_1 l0_1.length c0_1, .slice A0_2 l0_2.length c0_2]] w fun e w' => ∃ v0_ : Value, e = .returned (.tuple #[v0_, .bool r2]) ∧ Kd.Q (Kd.int .i64) 3 w' w.heap.size (fun _ => True) v0_ r1 ∧ Below w.heap.size w w' := by
 have hu61 := Try.underlying61
 have HR0_1 := aM hr0_1
 have HC0_1 := aM hc0_1
 clear hr0_1 hc0_1
 have HR0_2 := aM hr0_2
 have HC0_2 := aM hc0_2
 clear hr0_2 hc0_2
 have HB := aM (Below.refl w.heap.size w)
 have H : ((spec_ciGood.f k a0_0 l0_1 l0_2).bind fun t239 => (if t239 = true then ((spec_ciDepths.f k a0_0 l0_1 l0_2).bind fun t240 => (some (t240, true))) else (some (([] : List Int), false)))) = some (r1, r2) := h
 clear h
 replace H := oB.mp H
 obtain ⟨t239, A20, H⟩ := H
 replace H : (if t239 = true then ((spec_ciDepths.f k a0_0 l0_1 l0_2).bind fun t240 => (some (t240, true))) else (some (([] : List Int), false))) = some (r1, r2) := H
 have A2 := aM A20
 clear A20
 by_cases c3 : t239 = true
 ·subst c3
  have H1 : ((spec_ciDepths.f k a0_0 l0_1 l0_2).bind fun t240 => (some (t240, true))) = some (r1, r2) := by rw [if_pos rfl] at H; exact H
  clear H; have H := H1; clear H1; replace H := oB.mp H; obtain ⟨t240, A40, H⟩ := H; replace H : (some (t240, true)) = some (r1, r2) := H; have A4 := aM A40; clear A40
  simp only [Option.some.injEq, Prod.mk.injEq] at H
  obtain ⟨rfl, rfl⟩ := H
  go_enter Try.func36, Try.ntmps36
  go_wp2_with (first | ((with_reducible refine gate_dst (N := 1) rfl ?_); refine box_event ?hg (N := 1) ?hd (cs := #[.int .i64 a0_0, .slice A0_1 l0_1.length c0_1, .slice A0_2 l0_2.length c0_2]) (t := 61) ?hr ?_; (case hd => rfl); (case hg => rfl); (case hr => exact zd_); intro gb238 hg w5 hbox hb; have n_ := z (below_step zb_ hb) <| z (hbox) <| z ((by rw [hg]; exact (below_size zb_) : w.heap.size ≤ gb238)) <| z1 ((by rw [hg]; exact (below_size zb_) : w.heap.size ≤ gb238)); clear HB; obtain ⟨HB, BK238, GW238, GE238⟩ := n_; clear hb hbox hg; obtain ⟨hcz6_0, hcz6_1, hcz6_2, hfz6_0, hfz6_1, hfz6_2⟩ := zk3 BK238.out) | ((with_reducible refine gate_callee (f := 86) rfl ?_); refine goesL_ (some 5) rfl rfl Try.func86 (by kernel_rfl) rfl #[.agg #[.int .i64 a0_0, .slice A0_1 l0_1.length c0_1, .slice A0_2 l0_2.length c0_2]] rfl zf_ ?_; (with_reducible refine (spec_ciGood.calls k a0_0 _ _ l0_1 _ _ l0_2 true _ ?side1 ?side2 ?side3 ?side4 A2.out).mono ?_); (case side1 => exact zce_); (case side2 => exact HC0_1.out); (case side3 => exact zcf_); (case side4 => exact HC0_2.out); rintro e w7 ⟨rfl, hb⟩; refine ⟨_, rfl, ?_⟩; have n_ := z (blk_below (zb BK238.out) hb) <| z1 (below_step zej_ hb); clear BK238 HB; obtain ⟨BK238, HB⟩ := n_; clear hb; obtain ⟨hcz8_0, hcz8_1, hcz8_2, hfz8_0, hfz8_1, hfz8_2⟩ := zk3 BK238.out) | ((with_reducible refine gate_callee (f := 88) rfl ?_); refine goesL_ (some 8) rfl rfl Try.func88 (by kernel_rfl) rfl #[.agg #[.int .i64 a0_0, .slice A0_1 l0_1.length c0_1, .slice A0_2 l0_2.length c0_2]] rfl zf_ ?_; (with_reducible refine (spec_ciDepths.calls k a0_0 _ _ l0_1 _ _ l0_2 t240 _ ?side1 ?side2 ?side3 ?side4 A4.out).mono ?_); (case side1 => exact zce_); (case side2 => exact HC0_1.out); (case side3 => exact zcf_); (case side4 => exact HC0_2.out); rintro e w9 ⟨v241, rfl, ho0, hb⟩; refine ⟨_, rfl, ?_⟩; have n_ := z (Kd.Q_lower ho0 (below_size zej_)) <| z (blk_below (zb BK238.out) hb) <| z1 (below_step zej_ hb); clear BK238 HB; obtain ⟨HO242, BK238, HB⟩ := n_; clear hb; (try clear ho0)))
  go_ret2
  exact ⟨_, zh_, by refine zq ?_; exact HO242.out, zej_⟩
 ·replace c3 := Bool.eq_false_iff.mpr c3
  subst c3; have H1 : (some (([] : List Int), false)) = some (r1, r2) := by rw [if_neg (show ¬ (false = true) by decide)] at H; exact H
  clear H; have H := H1; clear H1
  simp only [Option.some.injEq, Prod.mk.injEq] at H
  obtain ⟨rfl, rfl⟩ := H
  go_enter Try.func36, Try.ntmps36
  go_wp2_with (first | ((with_reducible refine gate_dst (N := 1) rfl ?_); refine box_event ?hg (N := 1) ?hd (cs := #[.int .i64 a0_0, .slice A0_1 l0_1.length c0_1, .slice A0_2 l0_2.length c0_2]) (t := 61) ?hr ?_; (case hd => rfl); (case hg => rfl); (case hr => exact zd_); intro gb238 hg w10 hbox hb; have n_ := z (below_step zb_ hb) <| z (hbox) <| z ((by rw [hg]; exact (below_size zb_) : w.heap.size ≤ gb238)) <| z1 ((by rw [hg]; exact (below_size zb_) : w.heap.size ≤ gb238)); clear HB; obtain ⟨HB, BK238, GW238, GE238⟩ := n_; clear hb hbox hg; obtain ⟨hcz11_0, hcz11_1, hcz11_2, hfz11_0, hfz11_1, hfz11_2⟩ := zk3 BK238.out) | ((with_reducible refine gate_callee (f := 86) rfl ?_); refine goesL_ (some 5) rfl rfl Try.func86 (by kernel_rfl) rfl #[.agg #[.int .i64 a0_0, .slice A0_1 l0_1.length c0_1, .slice A0_2 l0_2.length c0_2]] rfl zf_ ?_; (with_reducible refine (spec_ciGood.calls k a0_0 _ _ l0_1 _ _ l0_2 false _ ?side1 ?side2 ?side3 ?side4 A2.out).mono ?_); (case side1 => exact zce_); (case side2 => exact HC0_1.out); (case side3 => exact zcf_); (case side4 => exact HC0_2.out); rintro e w12 ⟨rfl, hb⟩; refine ⟨_, rfl, ?_⟩; have n_ := z (blk_below (zb BK238.out) hb) <| z1 (below_step zej_ hb); clear BK238 HB; obtain ⟨BK238, HB⟩ := n_; clear hb))
  go_ret2
  exact ⟨_, zh_, Kd.Q_of_R zed_, zej_⟩
end Go.Proofs.Ytlnhpkjioppbiaa.QFnLevels
