/- Functions of FnGates, each as a Lean function, with the proof that the Go code comes to its answers. -/
import Derived.Test.YtbkighlfgaifeaaSFnGatesx0
namespace Go.Proofs.Ytbkighlfgaifeaa.QFnGates
open Go.RowKit Go.Proofs.YtbkighlfgaifeaaW.PrintWords Go.Proofs.YtbkighlfgaifeaaW.PrintLast Go.Proofs.YtbkighlfgaifeaaW.PrintMore
open Go.Proofs.YtbkighlfgaifeaaW.PrintWords renaming pw_below_drewN → pN, below_drew1 → p1, below_alloc → pA
open Go.Proofs.YtbkighlfgaifeaaW.PrintWords.Kd renaming R_alloc → kA, R_drewN → kN, R_drew → kD, Q_alloc → qA, Q_drewN → qN, Q_drew → qD, C_alloc → cA, C_drewN → cN, C_drew → cD
open Go.Proofs.YtbkighlfgaifeaaW.PrintWords.Aside0 renaming mk → aM
open List renaming setIfInBounds_toArray → sI, set_cons_zero → s0, set_cons_succ → sS, map_toArray → mT, length_take → lT, length_drop → lD, map_cons → mC, map_nil → mN
open Option renaming bind_eq_some_iff → oB, bind_some → oS
attribute [local go_sem] max2_int min2_int max_two min_two max_three min_three max_four min_four
set_option maxHeartbeats 8000000
set_option maxRecDepth 100000
set_option linter.unusedVariables false
set_option linter.unusedSimpArgs false
def impl_gateValue.f (a0 : Int) (a1 : Int) (a2 : Int) : Option (Int) := if a0 = 1 then (some (Go.bits .and .i64 a1 a2)) else (if a0 = 2 then (some (Go.bits .or .i64 a1 a2)) else (if a0 = 3 then (some (Go.bits .xor .i64 a1 a2)) else (some (wrap64 (1 - a1)))))
theorem impl_gateValue.calls (a0 : Int) (a1 : Int) (a2 : Int) (r : Int) (w : World) (h : impl_gateValue.f a0 a1 a2 = some r) :
  Calls Try.prog 190 #[.int .i64 a0, .int .i64 a1, .int .i64 a2] w fun e w' => e = .returned (.int .i64 r) ∧ Drawn0 w w' := by
 have H : (if a0 = 1 then (some (Go.bits .and .i64 a1 a2)) else (if a0 = 2 then (some (Go.bits .or .i64 a1 a2)) else (if a0 = 3 then (some (Go.bits .xor .i64 a1 a2)) else (some (wrap64 (1 - a1)))))) = some r := h
 clear h
 by_cases c4 : a0 = 1
 ·rw [if_pos c4] at H
  have c4b0 := beq_iff_eq.mpr c4; have c4b1 := bne_eq_false_iff_eq.mpr c4; clear c4; obtain rfl := Option.some.inj H
  go_enter Try.func190, Try.ntmps190
  go_wp2
  go_ret
  exact ⟨zd_, zi_⟩
 ·rw [if_neg c4] at H
  have c4b0 := beq_eq_false_iff_ne.mpr c4; have c4b1 := bne_iff_ne.mpr c4
  by_cases c5 : a0 = 2
  ·rw [if_pos c5] at H
   have c5b0 := beq_iff_eq.mpr c5; have c5b1 := bne_eq_false_iff_eq.mpr c5; clear c5; obtain rfl := Option.some.inj H
   go_enter Try.func190, Try.ntmps190
   go_wp2
   go_ret
   exact ⟨zd_, zi_⟩
  ·rw [if_neg c5] at H
   have c5b0 := beq_eq_false_iff_ne.mpr c5; have c5b1 := bne_iff_ne.mpr c5
   by_cases c6 : a0 = 3
   ·rw [if_pos c6] at H
    have c6b0 := beq_iff_eq.mpr c6; have c6b1 := bne_eq_false_iff_eq.mpr c6; clear c6; obtain rfl := Option.some.inj H
    go_enter Try.func190, Try.ntmps190
    go_wp2
    go_ret
    exact ⟨zd_, zi_⟩
   ·rw [if_neg c6] at H
    have c6b0 := beq_eq_false_iff_ne.mpr c6; have c6b1 := bne_iff_ne.mpr c6; obtain rfl := Option.some.inj H
    go_enter Try.func190, Try.ntmps190
    go_wp2
    go_ret
    exact ⟨zd_, zi_⟩
def impl_wireValues.l0 : Nat → List Int → List (S57) → Int → Int → Option (List Int)
 | 0, _, _, _, _ => none
 | k + 1, x5, x12, x13, x14 => if x14 < x13 then (if 0 ≤ x14 then (if x14 < (x12.length : Int) then (if 0 ≤ ((rd_T57 x12 x14).f1) then (if ((rd_T57 x12 x14).f1) < (x5.length : Int) then (if 0 ≤ ((rd_T57 x12 x14).f2) then (if ((rd_T57 x12 x14).f2) < (x5.length : Int) then ((impl_gateValue.f ((rd_T57 x12 x14).f0) (rd x5 ((rd_T57 x12 x14).f1)) (rd x5 ((rd_T57 x12 x14).f2))).bind fun t203 => (if x5.length < 17592186044416 then (impl_wireValues.l0 k (x5 ++ [t203]) x12 x13 (wrap64 (x14 + 1))) else (none))) else (none)) else (none)) else (none)) else (none)) else (none)) else (none)) else (some x5)
def impl_wireValues.f (k : Nat) (a0_0 : Int) (l0_1 : List (S57)) (l0_2 : List Int) (l1 : List Int) : Option (List Int) := (some (([] : List Int) : List Int)).bind fun y193 => (if y193.length + l1.length < 17592186044416 then (impl_wireValues.l0 k (y193 ++ l1) l0_1 (l0_1.length : Int) 0) else (none))
def impl_wireValues.T5 : Bool × List (List Nat × List Nat) := (true, [([], []), ([], []), ([1], [1]), ([], []), ([], []), ([4], [4]), ([3, 5], [3, 5]), ([6], [6]), ([], []), ([], []), ([9], [9]), ([8, 10], [8, 10]), ([11], [11]), ([2, 7, 12], [2, 7, 12]), ([13], [13]), ([0, 14, 13], [0, 14]), ([15, 15, 0, 1, 2, 3, 4, 5, 6, 7, 8, 9, 10, 11, 12, 13, 14, 15], [0, 3, 8, 15])])
def impl_wireValues.B5 : List Nat := [0, 0, 2, 0, 0, 16, 56, 120, 0, 0, 512, 1792, 3840, 8190, 16382, 32767, 65535]
theorem impl_wireValues.tab5 : rtab .any (opsOf Try.f175 5) = impl_wireValues.T5 := by kernel_rfl
theorem impl_wireValues.bits5 : waitsOk impl_wireValues.T5.2 impl_wireValues.B5 = true := by kernel_rfl
theorem impl_wireValues.calls (k : Nat) (a0_0 : Int) (A0_1 : Option Addr) (c0_1 : Nat) (l0_1 : List (S57)) (A0_2 : Option Addr) (c0_2 : Nat) (l0_2 : List Int) (A1 : Option Addr) (c1 : Nat) (l1 : List Int) (r : List Int) (w : World) (hr0_1 : Kd.C k57 w A0_1 l0_1.length l0_1) (hc0_1 : l0_1.length ≤ c0_1) (hr0_2 : Kd.C (Kd.int .i64) w A0_2 l0_2.length l0_2) (hc0_2 : l0_2.length ≤ c0_2) (hr1 : Kd.C (Kd.int .i64) w A1 l1.length l1) (hc1 : l1.length ≤ c1) (h : impl_wireValues.f k a0_0 l0_1 l0_2 l1 = some r) :
  Calls Try.prog 175 #[.agg #[.int .i64 a0_0, .slice A0_1 l0_1.length c0_1, .slice A0_2 l0_2.length c0_2], .slice A1 l1.length c1] w fun e w' => ∃ v0_ : Value, e = .returned (v0_) ∧ Kd.R (Kd.int .i64) 3 w' w.heap.size (fun _ => True) v0_ r ∧ Below w.heap.size w w' := by
 have hu49 := Try.underlying49
 have hu57 := Try.underlying57
 have HR0_1 := aM hr0_1
 have HC0_1 := aM hc0_1
 clear hr0_1 hc0_1
 have HR0_2 := aM hr0_2
 have HC0_2 := aM hc0_2
 clear hr0_2 hc0_2
 have HR1 := aM hr1
 have HC1 := aM hc1
 clear hr1 hc1
 have HB := aM (Below.refl w.heap.size w)
 have H : ((some (([] : List Int) : List Int)).bind fun y193 => (if y193.length + l1.length < 17592186044416 then (impl_wireValues.l0 k (y193 ++ l1) l0_1 (l0_1.length : Int) 0) else (none))) = some r := h
 clear h
 obtain ⟨y193, hy193⟩ : ∃ y_ : List Int, y_ = (([] : List Int)) := ⟨_, rfl⟩
 replace H : (if y193.length + l1.length < 17592186044416 then (impl_wireValues.l0 k (y193 ++ l1) l0_1 (l0_1.length : Int) 0) else (none)) = some r := by first | (rw [hy193]; with_reducible exact H) | (have H2_ := (oS _ _).symm.trans H; rw [hy193]; with_reducible exact H2_) | (have H2_ := (oS _ _).symm.trans H; with_reducible exact H2_) | with_reducible exact H | (rw [hy193]; exact H) | exact H
 have Ny193 := aM hy193
 clear hy193
 by_cases c3 : y193.length + l1.length < 17592186044416
 ·rw [if_pos c3] at H
  have LMc3 := aM c3; clear c3; obtain ⟨y196, hy196⟩ : ∃ y_ : List Int, y_ = (y193 ++ l1) := ⟨_, rfl⟩; replace H : (impl_wireValues.l0 k y196 l0_1 (l0_1.length : Int) 0) = some r := by first | (rw [hy196]; with_reducible exact H) | (have H2_ := (oS _ _).symm.trans H; rw [hy196]; with_reducible exact H2_) | (have H2_ := (oS _ _).symm.trans H; with_reducible exact H2_) | with_reducible exact H | (rw [hy196]; exact H) | exact H
  have Ny196 := aM hy196; clear hy196; have H' := aM H; clear H
  go_enter Try.func175, Try.ntmps175
  go_wp2_with (first | ((with_reducible refine gate_dst (N := 2) rfl ?_); refine box_event ?hg (N := 2) ?hd (cs := #[.int .i64 a0_0, .slice A0_1 l0_1.length c0_1, .slice A0_2 l0_2.length c0_2]) (t := 49) ?hr ?_; (case hd => rfl); (case hg => rfl); (case hr => exact zc_); intro gb192 hg w4 hbox hb; have n_ := z (below_step zb_ hb) <| z (hbox) <| z ((by rw [hg]; exact (below_size zb_) : w.heap.size ≤ gb192)) <| z1 ((by rw [hg]; exact (below_size zb_) : w.heap.size ≤ gb192)); clear HB; obtain ⟨HB, BK192, GW192, GE192⟩ := n_; clear hb hbox hg) | ((with_reducible refine gate_dst (N := 8) rfl ?_); refine Kd.R_lit (Kd.int .i64) _ 3 ?hg (N := 8) ?hd (xs := ([] : List Int)) (inner := []) (ok := fun _ => True) (okp := fun _ => True) ?hr ?hp (fun _ hk => hk) trivial (Below.refl _ _) (Nat.le_refl _) (by simp) ?_; (case hd => rfl); (case hg => rfl); (case hr => exact zc_); (case hp => exact (Reps.none _ _)); intro v194 w5 ho6 hb hg_ hnew_; clear hg_ hnew_; (first | rw [← Ny193.out] at ho6 | (simp only [Int.reduceToNat] at ho6; rw [← Ny193.out] at ho6)); have n_ := z (Kd.R_lower ho6 (below_size zej_)) <| z (blk_below (zb BK192.out) hb) <| z1 (below_step zej_ hb); clear BK192 HB; obtain ⟨HO195, BK192, HB⟩ := n_; clear hb ho6) | ((with_reducible refine gate_builtin (b := .append) (xs := #[.tmp 8, .tmp 9]) rfl ?_); at_builtin; refine Kd.R_append_rows (Kd.int .i64) (w0 := w) w.heap.size rfl (.tmp 8) (.tmp 9) 24 3 (.int .i64 0) 8 rfl Try.underlying24 info3 rfl (by decide) (by omega) v194 y193 l1 _ _ _ (fun _ => True) (fun _ => False) rfl rfl ?aO ?aR (fun _ _ h => h) (fun _ h => h.elim) ?aF ?aB ?aS ?aL ?_; (case aR => repeat (first | exact (Kd.C_below HR1.out HB.out) | (with_reducible refine cA ?_ _) | (with_reducible refine cN ?_ _) | (with_reducible refine cD ?_))); (case aB => exact zej_); (case aF => exact zbe_); (case aO => exact (zr HO195.out)); (case aS => exact (below_size zej_)); (case aL => have := LMc3.out; omega); intro v197 w7 ho hb hg hat; rw [← Ny196.out] at ho; have n_ := z (blk_grown (g := gb192) (o := .cells #[.int .i64 a0_0, .slice A0_1 l0_1.length c0_1, .slice A0_2 l0_2.length c0_2] 49 (0, 0)) (zb BK192.out) hg (Kd.R_ne HO195.out BK192.out (by decide))) <| z (hb) <| z1 (ho); clear BK192 HB HO195; obtain ⟨BK192, HB, HO198⟩ := n_; clear ho hb hg hat; have hcz8_0 : w7.cell? ⟨gb192, 0, none⟩ = some (.int .i64 a0_0) := (blk_cell BK192.out 0).trans rfl; have hcz8_1 : w7.cell? ⟨gb192, 1, none⟩ = some (.slice A0_1 l0_1.length c0_1) := (blk_cell BK192.out 1).trans rfl; have hcz8_2 : w7.cell? ⟨gb192, 2, none⟩ = some (.slice A0_2 l0_2.length c0_2) := (blk_cell BK192.out 2).trans rfl; have hfz8_0 := blk_frozen BK192.out 0; have hfz8_1 := blk_frozen BK192.out 1; have hfz8_2 := blk_frozen BK192.out 2))
  go_loopg [5, 14] k (fun kq v5 v14 w' => ∃ (x5_1 : List Int) (x14_1 : Int), v14 = .int .i64 x14_1 ∧ Aside0 (impl_wireValues.l0 kq x5_1 l0_1 (l0_1.length : Int) x14_1 = some r) ∧ Aside0 (kq ≤ k) ∧ Aside0 (Kd.R (Kd.int .i64) 3 w' w.heap.size (fun _ => True) v5 x5_1) ∧ Aside0 (w'.heap[gb192]? = some (.cells #[.int .i64 a0_0, (.slice A0_1 l0_1.length c0_1), (.slice A0_2 l0_2.length c0_2)] 49 (0, 0))) ∧ Aside0 (Below w.heap.size w w'))
  case atStart => exact ⟨(y196), (0), zd_, H', ⟨Nat.le_refl _⟩, ⟨zr HO198.out⟩, ⟨zb BK192.out⟩, ⟨zej_⟩⟩
  case round =>
   clear H'; (try clear hcz8_0); (try clear hcz8_1); (try clear hcz8_2); (try clear hfz8_0); (try clear hfz8_1); (try clear hfz8_2); obtain ⟨x5_1, x14_1, rfl, HA, HK1, HO_5, BK192, HB⟩ := hrel
   cases gk with
   | zero => exact absurd HA.out (by simp [impl_wireValues.l0])
   | succ k1 =>
    have H := HA.out; clear HA
    simp only [impl_wireValues.l0] at H
    by_cases c9 : x14_1 < (l0_1.length : Int)
    ·rw [if_pos c9] at H
     have c9b0 := decide_eq_true c9; clear c9
     by_cases c10 : 0 ≤ x14_1
     ·rw [if_pos c10] at H
      have c10b0 := decide_eq_true c10; clear c10
      by_cases c11 : x14_1 < (l0_1.length : Int)
      ·rw [if_pos c11] at H
       have c11b0 := decide_eq_true c11; clear c11
       by_cases c12 : 0 ≤ ((rd_T57 l0_1 x14_1).f1)
       ·rw [if_pos c12] at H
        have c12b0 := decide_eq_true c12; clear c12
        by_cases c13 : ((rd_T57 l0_1 x14_1).f1) < (x5_1.length : Int)
        ·rw [if_pos c13] at H
         have c13b0 := decide_eq_true c13; clear c13
         by_cases c14 : 0 ≤ ((rd_T57 l0_1 x14_1).f2)
         ·rw [if_pos c14] at H
          have c14b0 := decide_eq_true c14; clear c14
          by_cases c15 : ((rd_T57 l0_1 x14_1).f2) < (x5_1.length : Int)
          ·rw [if_pos c15] at H
           have c15b0 := decide_eq_true c15; clear c15; replace H := oB.mp H; obtain ⟨t203, A160, H⟩ := H; replace H : (if x5_1.length < 17592186044416 then (impl_wireValues.l0 k1 (x5_1 ++ [t203]) l0_1 (l0_1.length : Int) (wrap64 (x14_1 + 1))) else (none)) = some r := H; have A16 := aM A160; clear A160
           by_cases c17 : x5_1.length < 17592186044416
           ·rw [if_pos c17] at H
            have LMc17 := aM c17; clear c17; obtain ⟨y204, hy204⟩ : ∃ y_ : List Int, y_ = (x5_1 ++ [t203]) := ⟨_, rfl⟩; replace H : (impl_wireValues.l0 k1 y204 l0_1 (l0_1.length : Int) (wrap64 (x14_1 + 1))) = some r := by first | (rw [hy204]; with_reducible exact H) | (have H2_ := (oS _ _).symm.trans H; rw [hy204]; with_reducible exact H2_) | (have H2_ := (oS _ _).symm.trans H; with_reducible exact H2_) | with_reducible exact H | (rw [hy204]; exact H) | exact H
            have Ny204 := aM hy204; clear hy204; have H' := aM H; clear H; have p199 : 0 ≤ (x14_1 : Int) := of_decide_eq_true za_; have q199 : x14_1 < (l0_1.length : Int) := of_decide_eq_true za_; obtain ⟨ad199, e199, hx199_0, hx199_1, hx199_2⟩ := at_T57 HR0_1.out x14_1 p199 q199
            cases e199
            (try (replace hx199_0 := (HB.out.cell (World.block_lt_of_cell? w _ hx199_0)).trans hx199_0)); (try (replace hx199_1 := (HB.out.cell (World.block_lt_of_cell? w _ hx199_1)).trans hx199_1)); (try (replace hx199_2 := (HB.out.cell (World.block_lt_of_cell? w _ hx199_2)).trans hx199_2)); replace p199 := eq_true p199; replace q199 := eq_true q199; (try go_wp2_with (first | ((with_reducible refine gate_dst (N := 7) rfl ?_); refine box_event ?hg (N := 7) ?hd (cs := #[.int .i64 0, .int .i64 0, .int .i64 0]) (t := 57) ?hr ?_; (case hd => rfl); (case hg => rfl); (case hr => exact zc_); intro gb200 hg w18 hbox hb; have n_ := z (Kd.R_below (zr HO_5.out) hb) <| z (blk_below (zb BK192.out) hb) <| z (below_step zej_ hb) <| z (hbox) <| z ((by rw [hg]; exact (below_size zej_) : w.heap.size ≤ gb200)) <| z ((by rw [hg]; exact (below_size zej_) : w.heap.size ≤ gb200)) <| z ((by rw [hg]; exact Nat.ne_of_lt (blk_lt (zb BK192.out)) : gb192 ≠ gb200)) <| z1 ((by rw [hg]; exact Nat.ne_of_gt (blk_lt (zb BK192.out)) : gb200 ≠ gb192)); clear HO_5 BK192 HB; obtain ⟨HO_5, BK192, HB, BK200, GW200, GE200, NB192_200, NB200_192⟩ := n_; clear hb hbox hg; have hnb19 := NB200_192.out; have hnc19 := NB192_200.out; have hcz20_0 : w18.cell? ⟨gb200, 0, none⟩ = some (.int .i64 0) := (blk_cell BK200.out 0).trans rfl; have hcz20_1 : w18.cell? ⟨gb200, 1, none⟩ = some (.int .i64 0) := (blk_cell BK200.out 1).trans rfl; have hcz20_2 : w18.cell? ⟨gb200, 2, none⟩ = some (.int .i64 0) := (blk_cell BK200.out 2).trans rfl; have hfz20_0 := blk_frozen BK200.out 0; have hfz20_1 := blk_frozen BK200.out 1; have hfz20_2 := blk_frozen BK200.out 2))); have n0_ : Aside0 (Kd.R (Kd.int .i64) 3 (((w18.setCell ⟨gb200, 0, none⟩ (.int .i64 ((rd_T57 l0_1 x14_1).f0))).setCell ⟨gb200, 1, none⟩ (.int .i64 ((rd_T57 l0_1 x14_1).f1))).setCell ⟨gb200, 2, none⟩ (.int .i64 ((rd_T57 l0_1 x14_1).f2))) w.heap.size (fun _ => True) u5 x5_1) := ⟨by refine zr ?_; exact Kd.R_mono (Kd.R_far (p := ⟨gb200, 2, none⟩) (Kd.R_far (p := ⟨gb200, 1, none⟩) (Kd.R_far (p := ⟨gb200, 0, none⟩) (Kd.R_types HO_5.out BK200.out (by decide)) (fun _ hk => hk.2) (.int .i64 ((rd_T57 l0_1 x14_1).f0))) (fun _ hk => hk.2) (.int .i64 ((rd_T57 l0_1 x14_1).f1))) (fun _ hk => hk.2) (.int .i64 ((rd_T57 l0_1 x14_1).f2))) (fun _ hk => trivial)⟩; have n1_ : Aside0 ((((w18.setCell ⟨gb200, 0, none⟩ (.int .i64 ((rd_T57 l0_1 x14_1).f0))).setCell ⟨gb200, 1, none⟩ (.int .i64 ((rd_T57 l0_1 x14_1).f1))).setCell ⟨gb200, 2, none⟩ (.int .i64 ((rd_T57 l0_1 x14_1).f2))).heap[gb192]? = some (.cells #[.int .i64 a0_0, .slice (some ad199) l0_1.length c0_1, .slice A0_2 l0_2.length c0_2] 49 (0, 0))) := ⟨by refine zb ?_; refine blk_far ?_ NB192_200.out _; refine zb ?_; refine blk_far ?_ NB192_200.out _; refine zb ?_; refine blk_far ?_ NB192_200.out _; refine zb ?_; exact BK192.out⟩; have n2_ : Aside0 ((((w18.setCell ⟨gb200, 0, none⟩ (.int .i64 ((rd_T57 l0_1 x14_1).f0))).setCell ⟨gb200, 1, none⟩ (.int .i64 ((rd_T57 l0_1 x14_1).f1))).setCell ⟨gb200, 2, none⟩ (.int .i64 ((rd_T57 l0_1 x14_1).f2))).heap[gb200]? = some (.cells #[.int .i64 ((rd_T57 l0_1 x14_1).f0), .int .i64 ((rd_T57 l0_1 x14_1).f1), .int .i64 ((rd_T57 l0_1 x14_1).f2)] 57 (0, 0))) := ⟨by refine zb ?_; refine blk_put (cs := #[.int .i64 ((rd_T57 l0_1 x14_1).f0), .int .i64 ((rd_T57 l0_1 x14_1).f1), .int .i64 0]) ?_ 2 _ rfl; refine zb ?_; refine blk_put (cs := #[.int .i64 ((rd_T57 l0_1 x14_1).f0), .int .i64 0, .int .i64 0]) ?_ 1 _ rfl; refine zb ?_; refine blk_put (cs := #[.int .i64 0, .int .i64 0, .int .i64 0]) ?_ 0 _ rfl; refine zb ?_; exact BK200.out⟩; have n3_ : Aside0 (Below w.heap.size w (((w18.setCell ⟨gb200, 0, none⟩ (.int .i64 ((rd_T57 l0_1 x14_1).f0))).setCell ⟨gb200, 1, none⟩ (.int .i64 ((rd_T57 l0_1 x14_1).f1))).setCell ⟨gb200, 2, none⟩ (.int .i64 ((rd_T57 l0_1 x14_1).f2)))) := ⟨zib_⟩; (try clear HO_5); (try clear BK192); (try clear BK200); (try clear HB); generalize (((w18.setCell ⟨gb200, 0, none⟩ (.int .i64 ((rd_T57 l0_1 x14_1).f0))).setCell ⟨gb200, 1, none⟩ (.int .i64 ((rd_T57 l0_1 x14_1).f1))).setCell ⟨gb200, 2, none⟩ (.int .i64 ((rd_T57 l0_1 x14_1).f2))) = w21 at n0_ n1_ n2_ n3_ ⊢; have HO_5 := n0_; have BK192 := n1_; have BK200 := n2_; have HB := n3_; clear n0_ n1_ n2_ n3_; have n_ := z (kD HO_5.out) <| z (blk_drew BK192.out) <| z (blk_drew BK200.out) <| z1 (p1 HB.out)
            clear HO_5 BK192 BK200 HB; obtain ⟨HO_5, BK192, BK200, HB⟩ := n_; obtain ⟨Ao23, co23, eo23⟩ := Kd.R_slice HO_5.out; (first | subst eo23 | (injection eo23 with f1_ f2_ f3_; have f4_ := f1_.symm; have f5_ := f3_.symm; clear f1_ f2_ f3_; subst f4_; subst f5_)); have p201 : 0 ≤ (((rd_T57 l0_1 x14_1).f1) : Int) := of_decide_eq_true za_; have q201 : ((rd_T57 l0_1 x14_1).f1) < (x5_1.length : Int) := of_decide_eq_true za_; obtain ⟨ad201, e201, hx201_0⟩ := Kd.at_int (Kd.R_reads' HO_5.out).2.2 ((rd_T57 l0_1 x14_1).f1) p201 q201
            cases e201
            replace p201 := eq_true p201; replace q201 := eq_true q201; have p202 : 0 ≤ (((rd_T57 l0_1 x14_1).f2) : Int) := of_decide_eq_true za_; have q202 : ((rd_T57 l0_1 x14_1).f2) < (x5_1.length : Int) := of_decide_eq_true za_; obtain ⟨ad202, e202, hx202_0⟩ := Kd.at_int (Kd.R_reads' HO_5.out).2.2 ((rd_T57 l0_1 x14_1).f2) p202 q202; obtain rfl : ad201 = ad202 := (by injection e202); replace p202 := eq_true p202; replace q202 := eq_true q202
            refine start_ (n := 17) (S := fun w' => w'.cell? ⟨gb200, 0, none⟩ = some (.int .i64 ((rd_T57 l0_1 x14_1).f0)) ∧ w'.cell? ⟨gb200, 1, none⟩ = some (.int .i64 ((rd_T57 l0_1 x14_1).f1)) ∧ w'.cell? ⟨gb200, 2, none⟩ = some (.int .i64 ((rd_T57 l0_1 x14_1).f2)) ∧ w'.cell? (ad201.add (((rd_T57 l0_1 x14_1).f1)).toNat) = some (.int .i64 (rd x5_1 ((rd_T57 l0_1 x14_1).f1))) ∧ w'.cell? (ad201.add (((rd_T57 l0_1 x14_1).f2)).toNat) = some (.int .i64 (rd x5_1 ((rd_T57 l0_1 x14_1).f2)))) (ds := [14, 15]) #[fi,fi,fi,fi,fi,fi,fi,fi,fi,fi,fi,fi,fi,fi,fi,fi,fi] (by kernel_rfl) rfl rfl ⟨(blk_cell BK200.out 0).trans rfl, (blk_cell BK200.out 1).trans rfl, (blk_cell BK200.out 2).trans rfl, hx201_0, hx202_0⟩ (fun hHeld => ?_); refine with_tabW impl_wireValues.tab5 impl_wireValues.bits5 (fun HT_ HW_ => ?_)
            generalize w21.drew = w22 at HO_5 BK192 BK200 HB hx201_0 hx202_0 hHeld ⊢; refine py_ 0 18 HT_.out ?_; refine py_ 1 19 HT_.out ?_; refine py_ 3 21 HT_.out ?_; refine py_ 4 22 HT_.out ?_; refine py_ 8 26 HT_.out ?_; refine py_ 9 27 HT_.out ?_
            refine take_ (i := 2) (N := some 20) (v := ?_) (a' := ?_) #[ti,ti,ti,ti,ti,fi,fi,fi,ti,ti,fi,fi,fi,fi,fi,fi,fi] rfl rfl (take_ofW HT_.out HW_.out (by kernel_rfl)) (fun _ _ _ h => h) (Or.inl ⟨by rfl, ?_⟩) hHeld ?_ ?_
            rotate_left
            ·rintro w' ⟨s0, s1, s2, s3, s4⟩
             go_simp
             with_reducible rfl
            rotate_left
            ·simp only [Act.put, sI, s0, sS, i64_w, i32_w]
             rfl
            refine take_ (i := 5) (N := some 23) (v := ?_) (a' := ?_) #[ti,ti,ti,ti,ti,ti,fi,fi,ti,ti,fi,fi,fi,fi,fi,fi,fi] rfl rfl (take_ofW HT_.out HW_.out (by kernel_rfl)) (fun _ _ _ h => h) (Or.inl ⟨by rfl, ?_⟩) hHeld ?_ ?_
            rotate_left
            ·rintro w' ⟨s0, s1, s2, s3, s4⟩
             go_simp
             with_reducible rfl
            rotate_left
            ·simp only [Act.put, sI, s0, sS, i64_w, i32_w]
             rfl
            refine py_ 6 24 HT_.out ?_
            refine take_ (i := 7) (N := some 25) (v := ?_) (a' := ?_) #[ti,ti,ti,ti,ti,ti,ti,ti,ti,ti,fi,fi,fi,fi,fi,fi,fi] rfl rfl (take_ofW HT_.out HW_.out (by kernel_rfl)) (fun _ _ _ h => h) (Or.inl ⟨by rfl, ?_⟩) hHeld ?_ ?_
            rotate_left
            ·rintro w' ⟨s0, s1, s2, s3, s4⟩
             go_simp
             with_reducible rfl
            rotate_left
            ·simp only [Act.put, sI, s0, sS, i64_w, i32_w]
             rfl
            refine take_ (i := 10) (N := some 28) (v := ?_) (a' := ?_) #[ti,ti,ti,ti,ti,ti,ti,ti,ti,ti,ti,fi,fi,fi,fi,fi,fi] rfl rfl (take_ofW HT_.out HW_.out (by kernel_rfl)) (fun _ _ _ h => h) (Or.inl ⟨by rfl, ?_⟩) hHeld ?_ ?_
            rotate_left
            ·rintro w' ⟨s0, s1, s2, s3, s4⟩
             go_simp
             with_reducible rfl
            rotate_left
            ·simp only [Act.put, sI, s0, sS, i64_w, i32_w]
             rfl
            refine py_ 11 29 HT_.out ?_
            refine take_ (i := 12) (N := some 30) (v := ?_) (a' := ?_) #[ti,ti,ti,ti,ti,ti,ti,ti,ti,ti,ti,ti,ti,fi,fi,fi,fi] rfl rfl (take_ofW HT_.out HW_.out (by kernel_rfl)) (fun _ _ _ h => h) (Or.inl ⟨by rfl, ?_⟩) hHeld ?_ ?_
            rotate_left
            ·rintro w' ⟨s0, s1, s2, s3, s4⟩
             go_simp
             with_reducible rfl
            rotate_left
            ·simp only [Act.put, sI, s0, sS, i64_w, i32_w]
             rfl
            refine one_ (i := 13) (N := some 31) #[ti,ti,ti,ti,ti,ti,ti,ti,ti,ti,ti,ti,ti,ti,fi,fi,fi] rfl rfl (one_of HT_.out (by kernel_rfl)) (by decide) (fun K hK => ?_)
            refine goes_ Try.func190 (by kernel_rfl) rfl #[.int .i64 ((rd_T57 l0_1 x14_1).f0), .int .i64 (rd x5_1 ((rd_T57 l0_1 x14_1).f1)), .int .i64 (rd x5_1 ((rd_T57 l0_1 x14_1).f2))] (by rfl) rfl rfl ze_ ?_
            with_reducible refine (impl_gateValue.calls ((rd_T57 l0_1 x14_1).f0) (rd x5_1 ((rd_T57 l0_1 x14_1).f1)) (rd x5_1 ((rd_T57 l0_1 x14_1).f2)) t203 _ A16.out).mono ?_
            rintro e w' ⟨rfl, ⟨nd, rfl⟩⟩
            refine ⟨_, rfl, ?_⟩
            refine hK.out _ _ ⟨(blk_cell BK200.out 0).trans rfl, (blk_cell BK200.out 1).trans rfl, (blk_cell BK200.out 2).trans rfl, hHeld.2.2.2.1, hHeld.2.2.2.2⟩ (fun hHeld => ?_)
            clear hK K
            refine norm_ (a' := ?_) ?_ ?_
            rotate_left
            ·show Act.put _ (some 31) _ = _
             simp only [Act.put, sI, s0, sS, i64_w, i32_w]
             rfl
            refine last_ (i := 14) (N := some 32) #[ti,ti,ti,ti,ti,ti,ti,ti,ti,ti,ti,ti,ti,ti,ti,fi,fi] rfl rfl (one_of HT_.out (by kernel_rfl)) (by decide) (fun K hK => ?_)
            refine value_ (w1 := ?_) (v := ?_) (by rfl) rfl ?_ ?_
            rotate_left 2
            ·go_simp
             constructor
             ·rfl
             ·rfl
            refine hK.out _ _ ?_
            clear hK K
            refine norm_ (a' := ?_) ?_ ?_
            rotate_left
            ·show Act.put _ (some 32) _ = _
             simp only [Act.put, sI, s0, sS, i64_w, i32_w]
             rfl
            refine last_ (i := 15) (N := some 33) #[ti,ti,ti,ti,ti,ti,ti,ti,ti,ti,ti,ti,ti,ti,ti,ti,fi] rfl rfl (one_of HT_.out (by kernel_rfl)) (by decide) (fun K hK => ?_)
            refine Kd.R_append_step (Kd.int .i64) (w0 := w) w.heap.size (by rfl) (.tmp 18) (.tmp 32) 24 3 (.int .i64 0) 8 rfl Try.underlying24 info3 rfl (by decide) (by omega) (.slice (some ad201) x5_1.length co23) x5_1 t203 [.int .i64 t203] (fun _ => True) (fun _ => False) rfl rfl ?aP (fun _ hk => hk.elim) ?aF ?aO ?aB ?aS ?aL ?_
            (case aP => exact rfl)
            (case aB => exact zib_)
            (case aF => exact zbe_)
            (case aO => exact (zr HO_5.out))
            (case aS => exact (below_size zib_))
            (case aL => have := LMc17.out; omega)
            intro v205 w24 ho hb hg hat
            rw [← Ny204.out] at ho; have n_ := z (blk_grown (g := gb192) (o := .cells #[.int .i64 a0_0, .slice (some ad199) l0_1.length c0_1, .slice A0_2 l0_2.length c0_2] 49 (0, 0)) (zb BK192.out) hg (Kd.R_ne HO_5.out BK192.out (by decide))) <| z (blk_grown (g := gb200) (o := .cells #[.int .i64 ((rd_T57 l0_1 x14_1).f0), .int .i64 ((rd_T57 l0_1 x14_1).f1), .int .i64 ((rd_T57 l0_1 x14_1).f2)] 57 (0, 0)) (zb BK200.out) hg (Kd.R_ne HO_5.out BK200.out (by decide))) <| z (hb) <| z1 (ho)
            clear BK192 BK200 HB HO_5; obtain ⟨BK192, BK200, HB, HO206⟩ := n_; clear ho hb hg hat
            refine hK.out _ _ ?_
            clear hK K
            refine norm_ (a' := ?_) ?_ ?_
            rotate_left
            ·show Act.put _ (some 33) _ = _
             simp only [Act.put, sI, s0, sS, i64_w, i32_w]
             rfl
            refine py_ 16 5 HT_.out ?_
            refine done_ (done_of HT_.out (by kernel_rfl)) ?_
            (try go_wp2)
            go_roundg k1
            case measure => have := HK1.out; omega
            case rel => exact ⟨(y204), (wrap64 (x14_1 + 1)), zd_, H', ⟨zbd_⟩, ⟨zr HO206.out⟩, ⟨zb BK192.out⟩, ⟨zib_⟩⟩
           ·rw [if_neg c17] at H
            exact absurd H (by simp)
          ·rw [if_neg c15] at H
           exact absurd H (by simp)
         ·rw [if_neg c14] at H
          exact absurd H (by simp)
        ·rw [if_neg c13] at H
         exact absurd H (by simp)
       ·rw [if_neg c12] at H
        exact absurd H (by simp)
      ·rw [if_neg c11] at H
       exact absurd H (by simp)
     ·rw [if_neg c10] at H
      exact absurd H (by simp)
    ·rw [if_neg c9] at H
     have c9b0 := decide_eq_false c9; clear c9; obtain rfl := Option.some.inj H
     go_wp2
     go_ret
     exact ⟨_, zf_, by refine zr ?_; exact HO_5.out, zej_⟩
 ·rw [if_neg c3] at H
  exact absurd H (by simp)
def impl_bitList.l0 : Nat → Int → List Int → Int → Int → Option (List Int)
 | 0, _, _, _, _ => none
 | k + 1, x0, x5, x10, x11 => if x11 < x10 then (if 0 ≤ x11 then (if x11 < (x5.length : Int) then (impl_bitList.l0 k x0 (x5.set (x11 : Int).toNat (Go.bits .and .i64 (shr .i64 x0 x11) 1)) x10 (wrap64 (x11 + 1))) else (none)) else (none)) else (some x5)
def impl_bitList.f (k : Nat) (a0 : Int) (a1 : Int) : Option (List Int) := if 0 ≤ a1 then (if (a1 : Int).toNat ≤ 35184372088832 then ((some (List.replicate (a1 : Int).toNat 0 : List Int)).bind fun y207 => (impl_bitList.l0 k a0 y207 (y207.length : Int) 0)) else (none)) else (none)
theorem impl_bitList.calls (k : Nat) (a0 : Int) (a1 : Int) (r : List Int) (w : World) (h : impl_bitList.f k a0 a1 = some r) :
  Calls Try.prog 176 #[.int .i64 a0, .int .i64 a1] w fun e w' => ∃ v0_ : Value, e = .returned (v0_) ∧ Kd.R (Kd.int .i64) 3 w' w.heap.size (fun _ => True) v0_ r ∧ Below w.heap.size w w' := by
 have HB := aM (Below.refl w.heap.size w)
 have H : (if 0 ≤ a1 then (if (a1 : Int).toNat ≤ 35184372088832 then ((some (List.replicate (a1 : Int).toNat 0 : List Int)).bind fun y207 => (impl_bitList.l0 k a0 y207 (y207.length : Int) 0)) else (none)) else (none)) = some r := h
 clear h
 by_cases c3 : 0 ≤ a1
 ·rw [if_pos c3] at H
  have c3b0 := eq_true c3; have c3b1 := decide_eq_true c3; clear c3
  by_cases c4 : (a1 : Int).toNat ≤ 35184372088832
  ·rw [if_pos c4] at H
   have c4b0 := eq_true c4; have c4b1 := decide_eq_true c4; clear c4; obtain ⟨y207, hy207⟩ : ∃ y_ : List Int, y_ = (List.replicate (a1 : Int).toNat 0) := ⟨_, rfl⟩; replace H : (impl_bitList.l0 k a0 y207 (y207.length : Int) 0) = some r := by first | (rw [hy207]; with_reducible exact H) | (have H2_ := (oS _ _).symm.trans H; rw [hy207]; with_reducible exact H2_) | (have H2_ := (oS _ _).symm.trans H; with_reducible exact H2_) | with_reducible exact H | (rw [hy207]; exact H) | exact H
   have Ny207 := aM hy207; clear hy207; have H' := aM H; clear H
   go_enter Try.func176, Try.ntmps176
   go_wp2_with (first | ((with_reducible refine gate_dst (N := 8) rfl ?_); refine Kd.R_make (Kd.int .i64) _ 3 rfl (N := 8) rfl 24 _ _ rfl a1 rfl rfl Try.underlying24 (.int .i64 0) 8 info3 rfl (by decide) (by omega) 0 (ok := fun _ => True) (okp := fun _ => True) rfl (fun _ hk => hk) trivial (of_decide_eq_true za_) (Nat.le_trans (Nat.mul_le_mul_right _ (of_decide_eq_true za_ : a1.toNat ≤ 35184372088832)) (by omega)) (Below.refl _ _) (Nat.le_refl _) ?_; intro v208 w5 ho6 hb hg_ hnew_; clear hg_ hnew_; (first | rw [← Ny207.out] at ho6 | (simp only [Int.reduceToNat] at ho6; rw [← Ny207.out] at ho6)); have n_ := z (Kd.R_lower ho6 (below_size zb_)) <| z1 (below_step zb_ hb); clear HB; obtain ⟨HO209, HB⟩ := n_; clear hb ho6; obtain ⟨Ao7, co7, eo7⟩ := Kd.R_slice HO209.out; subst eo7))
   go_loopg [11] k (fun kq v11 w' => ∃ (x5_1 : List Int) (x11_1 : Int), v11 = .int .i64 x11_1 ∧ Aside0 (impl_bitList.l0 kq a0 x5_1 (y207.length : Int) x11_1 = some r) ∧ Aside0 (kq ≤ k) ∧ Aside0 (Kd.R (Kd.int .i64) 3 w' w.heap.size (fun _ => True) (.slice Ao7 y207.length co7) x5_1) ∧ Aside0 (Below w.heap.size w w'))
   case atStart => exact ⟨(y207), (0), zd_, H', ⟨Nat.le_refl _⟩, ⟨zr HO209.out⟩, ⟨zb_⟩⟩
   case round =>
    clear H'; (try clear c3b0); (try clear c3b1); (try clear c4b0); (try clear c4b1); obtain ⟨x5_1, x11_1, rfl, HA, HK1, HO_5, HB⟩ := hrel; have hl5_1 := (Kd.R_reads' HO_5.out).1; rw [hl5_1] at HO_5; (try simp only [hl5_1])
    cases gk with
    | zero => exact absurd HA.out (by simp [impl_bitList.l0])
    | succ k1 =>
     have H := HA.out; clear HA
     simp only [impl_bitList.l0] at H
     by_cases c8 : x11_1 < (y207.length : Int)
     ·rw [if_pos c8] at H
      have c8b0 := decide_eq_true c8; (try (have c8z0 := c8b0; rw [hl5_1] at c8z0)); clear c8
      by_cases c9 : 0 ≤ x11_1
      ·rw [if_pos c9] at H
       have c9b0 := eq_true c9; have c9b1 := decide_eq_true c9; clear c9; obtain ⟨ji10, hji10⟩ : ∃ j_ : Int, (shr .i64 a0 x11_1) = j_ := ⟨_, rfl⟩; replace H : (if x11_1 < (x5_1.length : Int) then (impl_bitList.l0 k1 a0 (x5_1.set (x11_1 : Int).toNat (Go.bits .and .i64 (ji10) 1)) (y207.length : Int) (wrap64 (x11_1 + 1))) else (none)) = some r := by first | (rw [hji10] at H; exact H) | (simp only [hji10] at H ⊢; exact H)
       have hji10_ : (a0 / 2 ^ min x11_1.toNat 64) = ji10 := hji10; have hji10z : x11_1 ≤ 64 → (a0 / 2 ^ x11_1.toNat) = ji10 := shr_small hji10
       by_cases c11 : x11_1 < (x5_1.length : Int)
       ·rw [if_pos c11] at H
        have c11b0 := decide_eq_true c11; (try (have c11z0 := c11b0; rw [hl5_1] at c11z0)); clear c11; obtain ⟨y210, hy210⟩ : ∃ y_ : List Int, y_ = (x5_1.set (x11_1 : Int).toNat (Go.bits .and .i64 (ji10) 1)) := ⟨_, rfl⟩; replace H : (impl_bitList.l0 k1 a0 y210 (y207.length : Int) (wrap64 (x11_1 + 1))) = some r := by first | (rw [hy210]; with_reducible exact H) | (have H2_ := (oS _ _).symm.trans H; rw [hy210]; with_reducible exact H2_) | (have H2_ := (oS _ _).symm.trans H; with_reducible exact H2_) | with_reducible exact H | (rw [hy210]; exact H) | exact H
        have Ny210 := aM hy210; clear hy210; have H' := aM H; clear H; have p12 : 0 ≤ (x11_1 : Int) := of_decide_eq_true za_; have q12 : (x11_1 : Int) < ((x5_1.length : Int) : Int) := of_decide_eq_true za_; obtain ⟨go12, co12, eo12, gb12, gl12, cl12, HG12⟩ := Kd.R_form HO_5.out (by omega); (first | cases eo12 | (injection eo12 with ea_ en_ ec_; (first | subst ea_ | (injection ea_ with ea_; subst ea_)); subst ec_; clear en_)); have GB12 := aM gb12; have GG12 := aM HG12; clear gb12 gl12 HG12; obtain ⟨hx12_0, hf12_0⟩ := Kd.R_celln 0 HO_5.out (x11_1 : Int) p12 q12; replace p12 := eq_true p12; replace q12 := eq_true q12; have HP13 := Kd.R_putg HO_5.out (x11_1 : Int) (Go.bits .and .i64 (ji10) 1)
        go_wp2_with (first | ((with_reducible refine gate_store (t := 3) (p := 20) rfl ?_); refine store_event (t := 3) (p := 20) (v := ?vo_w14) (w1 := (wr.setCell ⟨go12, (x11_1 : Int).toNat, none⟩ (.int .i64 (Go.bits .and .i64 (ji10) 1)))) ?hg ?ho ?hn ?hr ?_; (case ho => rfl); (case hg => rfl); (case hn => rfl); (case hr => exact zc_); intro w14 hw; have hg : wr.grownBy w14 (some go12) := (by rw [hw]; exact HP13.2); have hp_ : Kd.R (Kd.int .i64) 3 w14 w.heap.size (fun _ => True) (.slice (some ⟨go12, 0, none⟩) x5_1.length co7) y210 := (by rw [hw, Ny210.out]; exact HP13.1); clear HP13; have n_ := z (hp_) <| z1 ((by rw [hw]; exact below_set (HB.out) GB12.out : Below w.heap.size w w14)); clear HO_5 HB; obtain ⟨HO_5, HB⟩ := n_; clear hg hw hp_))
        (try simp only [← hl5_1])
        go_roundg k1
        case measure => have := HK1.out; omega
        case rel => exact ⟨(y210), (wrap64 (x11_1 + 1)), zd_, H', ⟨zbd_⟩, ⟨by (try simp only [hl5_1]); refine zr ?_; exact HO_5.out⟩, ⟨zb_⟩⟩
       ·rw [if_neg c11] at H
        exact absurd H (by simp)
      ·rw [if_neg c9] at H
       exact absurd H (by simp)
     ·rw [if_neg c8] at H
      have c8b0 := decide_eq_false c8; (try (have c8z0 := c8b0; rw [hl5_1] at c8z0)); clear c8; obtain rfl := Option.some.inj H
      go_wp2
      go_ret
      exact ⟨_, zf_, by refine zr ?_; exact HO_5.out, zb_⟩
  ·rw [if_neg c4] at H
   exact absurd H (by simp)
 ·rw [if_neg c3] at H
  exact absurd H (by simp)
end Go.Proofs.Ytbkighlfgaifeaa.QFnGates
