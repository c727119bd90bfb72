/- Functions of FnCrossings, each as a Lean function, with the proof that the Go code comes to its answers. -/
import Derived.Test.YtbkighlfgaifeaaSFnCrossingsx0
import Derived.Test.YtbkighlfgaifeaaSFnCrossingsx17
namespace Go.Proofs.Ytbkighlfgaifeaa.QFnCrossings
open Go.RowKit Go.Proofs.YtbkighlfgaifeaaW.PrintWords Go.Proofs.YtbkighlfgaifeaaW.PrintLast Go.Proofs.YtbkighlfgaifeaaW.PrintMore
open Go.Proofs.YtbkighlfgaifeaaW.PrintWords renaming pw_below_drewN → pN, below_drew1 → p1, below_alloc → pA
open Go.Proofs.YtbkighlfgaifeaaW.PrintWords.Kd renaming R_alloc → kA, R_drewN → kN, R_drew → kD, Q_alloc → qA, Q_drewN → qN, Q_drew → qD, C_alloc → cA, C_drewN → cN, C_drew → cD
open Go.Proofs.YtbkighlfgaifeaaW.PrintWords.Aside0 renaming mk → aM
open List renaming setIfInBounds_toArray → sI, set_cons_zero → s0, set_cons_succ → sS, map_toArray → mT, length_take → lT, length_drop → lD, map_cons → mC, map_nil → mN
open Option renaming bind_eq_some_iff → oB, bind_some → oS
attribute [local go_sem] max2_int min2_int max_two min_two max_three min_three max_four min_four
set_option maxHeartbeats 8000000
set_option maxRecDepth 100000
set_option linter.unusedVariables false
set_option linter.unusedSimpArgs false
mutual
def spec_plLevels.l0 : Nat → List Int → Int → Int → List (S57) → List Int → Option ((List (List Int)))
 | 0, _, _, _, _, _ => none
 | k + 1, x3, x4, x379000, x379001, x379002 => if x4 < x379000 then (if x3.length < 17592186044416 then (spec_plLevels.l0 k (x3 ++ [x4]) (wrap64 (x4 + 1)) x379000 x379001 x379002) else (none)) else ((spec_ciDepths.f k x379000 x379001 x379002).bind fun t385 => (spec_plLevels.l1 k (([x3] : List (List Int))) t385 (t385.length : Int) 0 x379000 x379001 x379002))
def spec_plLevels.l1 : Nat → List (List Int) → List Int → Int → Int → Int → List (S57) → List Int → Option ((List (List Int)))
 | 0, _, _, _, _, _, _, _ => none
 | k + 1, x5, x21, x22, x23, x379000, x379001, x379002 => if x23 < x22 then (if 0 ≤ x23 then (if x23 < (x21.length : Int) then (spec_plLevels.l2 k x5 x23 (rd x21 x23) x21 x22 x23 x379000 x379001 x379002) else (none)) else (none)) else (some x5)
def spec_plLevels.l2 : Nat → List (List Int) → Int → Int → List Int → Int → Int → Int → List (S57) → List Int → Option ((List (List Int)))
 | 0, _, _, _, _, _, _, _, _, _ => none
 | k + 1, x5, x6, x7, x21, x22, x23, x379000, x379001, x379002 => if (x5.length : Int) ≤ x7 then (if x5.length < 5864062014805 then (spec_plLevels.l2 k (x5 ++ [[]]) x6 x7 x21 x22 x23 x379000 x379001 x379002) else (none)) else (if 0 ≤ x7 then (if x7 < (x5.length : Int) then (if (rd_L2 x5 x7).length < 17592186044416 then (spec_plLevels.l1 k (x5.set (x7 : Int).toNat ((rd_L2 x5 x7) ++ [wrap64 (x379000 + x6)])) x21 x22 (wrap64 (x23 + 1)) x379000 x379001 x379002) else (none)) else (none)) else (none))
end
def spec_plLevels.f (k : Nat) (a0_0 : Int) (l0_1 : List (S57)) (l0_2 : List Int) : Option ((List (List Int))) := spec_plLevels.l0 k ([] : List Int) 0 a0_0 l0_1 l0_2
def spec_plLevels.T12 : Bool × List (List Nat × List Nat) := (true, [([], []), ([], []), ([], []), ([], []), ([2, 3], [2, 3]), ([4], [4]), ([], []), ([6], [6]), ([], []), ([7, 8], [7, 8]), ([9], [9]), ([5, 10], [5, 10]), ([0, 1, 0, 1, 2, 3, 4, 5, 6, 7, 8, 9, 10, 11], [0, 1]), ([12, 11, 11, 0, 1, 2, 3, 4, 5, 6, 7, 8, 9, 10, 11], [11, 12])])
def spec_plLevels.B12 : List Nat := [0, 0, 0, 0, 12, 28, 0, 64, 0, 448, 960, 2044, 4095, 8191]
theorem spec_plLevels.tab12 : rtab .any (opsOf Try.f157 12) = spec_plLevels.T12 := by kernel_rfl
theorem spec_plLevels.bits12 : waitsOk spec_plLevels.T12.2 spec_plLevels.B12 = true := by kernel_rfl
theorem spec_plLevels.calls (k : Nat) (a0_0 : Int) (A0_1 : Option Addr) (c0_1 : Nat) (l0_1 : List (S57)) (A0_2 : Option Addr) (c0_2 : Nat) (l0_2 : List Int) (r : List (List Int)) (w : World) (hr0_1 : Kd.C k57 w A0_1 l0_1.length l0_1) (hc0_1 : l0_1.length ≤ c0_1) (hr0_2 : Kd.C (Kd.int .i64) w A0_2 l0_2.length l0_2) (hc0_2 : l0_2.length ≤ c0_2) (h : spec_plLevels.f k a0_0 l0_1 l0_2 = some r) :
  Calls Try.prog 157 #[.agg #[.int .i64 a0_0, .slice A0_1 l0_1.length c0_1, .slice A0_2 l0_2.length c0_2]] w fun e w' => ∃ v0_ : Value, e = .returned (v0_) ∧ Kd.S (Kd.slice 3 (Kd.int .i64)) 24 w' w.heap.size (fun _ => True) v0_ r ∧ Below w.heap.size w w' := by
 have hu49 := Try.underlying49
 have HR0_1 := aM hr0_1
 have HC0_1 := aM hc0_1
 clear hr0_1 hc0_1
 have HR0_2 := aM hr0_2
 have HC0_2 := aM hc0_2
 clear hr0_2 hc0_2
 have HB := aM (Below.refl w.heap.size w)
 have H : (spec_plLevels.l0 k ([] : List Int) 0 a0_0 l0_1 l0_2) = some r := h
 clear h
 have H' := aM H
 clear H
 go_enter Try.func157, Try.ntmps157
 go_wp2_with (first | ((with_reducible refine gate_dst (N := 1) rfl ?_); refine box_event ?hg (N := 1) ?hd (cs := #[.int .i64 a0_0, .slice A0_1 l0_1.length c0_1, .slice A0_2 l0_2.length c0_2]) (t := 49) ?hr ?_; (case hd => rfl); (case hg => rfl); (case hr => exact ze_); intro gb378 hg w2 hbox hb; have n_ := z (below_step zc_ hb) <| z (hbox) <| z ((by rw [hg]; exact (below_size zc_) : w.heap.size ≤ gb378)) <| z1 ((by rw [hg]; exact (below_size zc_) : w.heap.size ≤ gb378)); clear HB; obtain ⟨HB, BK378, GW378, GE378⟩ := n_; clear hb hbox hg))
 go_loopg [3, 4] k (fun kq v3 v4 w' => ∃ (x3_1 : List Int) (x4_1 : Int), v4 = .int .i64 x4_1 ∧ Aside0 (spec_plLevels.l0 kq x3_1 x4_1 a0_0 l0_1 l0_2 = some r) ∧ Aside0 (kq ≤ k) ∧ Aside0 (Kd.R (Kd.int .i64) 3 w' w.heap.size (fun _ => True) v3 x3_1) ∧ Aside0 (w'.heap[gb378]? = some (.cells #[.int .i64 a0_0, (.slice A0_1 l0_1.length c0_1), (.slice A0_2 l0_2.length c0_2)] 49 (0, 0))) ∧ Aside0 (Below w.heap.size w w'))
 case atStart => exact ⟨(([] : List Int)), (0), zb_, H', ⟨Nat.le_refl _⟩, ⟨by first | exact Kd.R_nil _ _ _ _ _ | exact Kd.N_nil _ _ _ _ _ | exact Kd.V_nil _ _ _ _ _ | exact Kd.Q_nil _ _ _ _ _ | exact Kd.S_nil _ _ _ _ _⟩, ⟨zb BK378.out⟩, ⟨zcj_⟩⟩
 case round =>
  clear H'; obtain ⟨x3_1, x4_1, rfl, HA, HK1, HO_3, BK378, HB⟩ := hrel
  cases gk with
  | zero => exact absurd HA.out (by simp [spec_plLevels.l0])
  | succ k1 =>
   have H := HA.out; clear HA
   simp only [spec_plLevels.l0] at H
   by_cases c3 : x4_1 < a0_0
   ·rw [if_pos c3] at H
    have c3b0 := decide_eq_true c3; clear c3
    by_cases c4 : x3_1.length < 17592186044416
    ·rw [if_pos c4] at H
     have LMc4 := aM c4; clear c4; obtain ⟨y379, hy379⟩ : ∃ y_ : List Int, y_ = (x3_1 ++ [x4_1]) := ⟨_, rfl⟩; replace H : (spec_plLevels.l0 k1 y379 (wrap64 (x4_1 + 1)) a0_0 l0_1 l0_2) = some r := by first | (rw [hy379]; with_reducible exact H) | (have H2_ := (oS _ _).symm.trans H; rw [hy379]; with_reducible exact H2_) | (have H2_ := (oS _ _).symm.trans H; with_reducible exact H2_) | with_reducible exact H | (rw [hy379]; exact H) | exact H
     have Ny379 := aM hy379; clear hy379; have H' := aM H; clear H; have hcz5_0 : wr.cell? ⟨gb378, 0, none⟩ = some (.int .i64 a0_0) := (blk_cell BK378.out 0).trans rfl; have hcz5_1 : wr.cell? ⟨gb378, 1, none⟩ = some (.slice A0_1 l0_1.length c0_1) := (blk_cell BK378.out 1).trans rfl; have hcz5_2 : wr.cell? ⟨gb378, 2, none⟩ = some (.slice A0_2 l0_2.length c0_2) := (blk_cell BK378.out 2).trans rfl; have hfz5_0 := blk_frozen BK378.out 0; have hfz5_1 := blk_frozen BK378.out 1; have hfz5_2 := blk_frozen BK378.out 2
     go_wp2_with (first | ((with_reducible refine gate_builtin (b := .append) (xs := #[.tmp 14, .tmp 16]) rfl ?_); at_builtin; refine Kd.R_append (Kd.int .i64) (w0 := w) w.heap.size rfl (.tmp 14) (.tmp 16) 24 3 (.int .i64 0) 8 rfl Try.underlying24 info3 rfl (by decide) (by omega) u3 x3_1 x4_1 [.int .i64 x4_1] (fun _ => True) (fun _ => False) rfl rfl ?aP (fun _ hk => hk.elim) ?aF ?aO ?aB ?aS ?aL ?_; (case aP => exact rfl); (case aB => exact zgj_); (case aF => exact zda_); (case aO => exact (zr HO_3.out)); (case aS => exact zha_); (case aL => have := LMc4.out; omega); intro v380 w6 ho hb hg hat; rw [← Ny379.out] at ho; have n_ := z (blk_grown (g := gb378) (o := .cells #[.int .i64 a0_0, .slice A0_1 l0_1.length c0_1, .slice A0_2 l0_2.length c0_2] 49 (0, 0)) (zb BK378.out) hg (Kd.R_ne HO_3.out BK378.out (by decide))) <| z (hb) <| z1 (ho); clear BK378 HB HO_3; obtain ⟨BK378, HB, HO381⟩ := n_; clear ho hb hg hat))
     go_roundg k1
     case measure => have := HK1.out; omega
     case rel => exact ⟨(y379), (wrap64 (x4_1 + 1)), zb_, H', ⟨zbd_⟩, ⟨zr HO381.out⟩, ⟨zb BK378.out⟩, ⟨zcj_⟩⟩
    ·rw [if_neg c4] at H
     exact absurd H (by simp)
   ·rw [if_neg c3] at H
    have c3b0 := decide_eq_false c3; clear c3; obtain ⟨y382, hy382⟩ : ∃ y_ : List (List Int), y_ = (([x3_1] : List (List Int))) := ⟨_, rfl⟩; replace H : ((spec_ciDepths.f k1 a0_0 l0_1 l0_2).bind fun t385 => (spec_plLevels.l1 k1 y382 t385 (t385.length : Int) 0 a0_0 l0_1 l0_2)) = some r := by first | (rw [hy382]; with_reducible exact H) | (have H2_ := (oS _ _).symm.trans H; rw [hy382]; with_reducible exact H2_) | (have H2_ := (oS _ _).symm.trans H; with_reducible exact H2_) | with_reducible exact H | (rw [hy382]; exact H) | exact H
    have Ny382 := aM hy382; clear hy382; replace H := oB.mp H; obtain ⟨t385, A70, H⟩ := H; replace H : (spec_plLevels.l1 k1 y382 t385 (t385.length : Int) 0 a0_0 l0_1 l0_2) = some r := H; have A7 := aM A70; clear A70; have H' := aM H; clear H; have hcz8_0 : wr.cell? ⟨gb378, 0, none⟩ = some (.int .i64 a0_0) := (blk_cell BK378.out 0).trans rfl; have hcz8_1 : wr.cell? ⟨gb378, 1, none⟩ = some (.slice A0_1 l0_1.length c0_1) := (blk_cell BK378.out 1).trans rfl; have hcz8_2 : wr.cell? ⟨gb378, 2, none⟩ = some (.slice A0_2 l0_2.length c0_2) := (blk_cell BK378.out 2).trans rfl; have hfz8_0 := blk_frozen BK378.out 0; have hfz8_1 := blk_frozen BK378.out 1; have hfz8_2 := blk_frozen BK378.out 2; obtain ⟨Ao9, co9, eo9⟩ := Kd.R_slice HO_3.out; subst eo9
    go_wp2_with (first | ((with_reducible refine gate_dst (N := 19) rfl ?_); refine S_lit1_ (Kd.slice 3 (Kd.int .i64)) _ 24 ?hg (N := 19) ?hd (x := x3_1) (inner := [.slice Ao9 x3_1.length co9]) ?hr ⟨_, rfl, (HO_3.out)⟩ zcj_ (below_size zcj_) ?_; (case hd => rfl); (case hg => rfl); (case hr => exact ze_); intro v383 w10 ho11 hb hg_ hnew_; clear hg_ hnew_; (first | rw [← Ny382.out] at ho11 | (simp only [Int.reduceToNat] at ho11; rw [← Ny382.out] at ho11)); have n_ := z (ho11 (fun _ => True) (fun _ _ => trivial) trivial) <| z (blk_below (zb BK378.out) hb) <| z1 (below_step zcj_ hb); clear BK378 HB HO_3; obtain ⟨HO384, BK378, HB⟩ := n_; clear hb ho11; have hcz12_0 : w10.cell? ⟨gb378, 0, none⟩ = some (.int .i64 a0_0) := (blk_cell BK378.out 0).trans rfl; have hcz12_1 : w10.cell? ⟨gb378, 1, none⟩ = some (.slice A0_1 l0_1.length c0_1) := (blk_cell BK378.out 1).trans rfl; have hcz12_2 : w10.cell? ⟨gb378, 2, none⟩ = some (.slice A0_2 l0_2.length c0_2) := (blk_cell BK378.out 2).trans rfl; have hfz12_0 := blk_frozen BK378.out 0; have hfz12_1 := blk_frozen BK378.out 1; have hfz12_2 := blk_frozen BK378.out 2) | ((with_reducible refine gate_callee (f := 120) rfl ?_); refine goesL_ (some 21) rfl rfl Try.func120 (by kernel_rfl) rfl #[.agg #[.int .i64 a0_0, .slice A0_1 l0_1.length c0_1, .slice A0_2 l0_2.length c0_2]] rfl zd_ ?_; (with_reducible refine (spec_ciDepths.calls k1 a0_0 _ _ l0_1 _ _ l0_2 t385 _ ?side1 ?side2 ?side3 ?side4 A7.out).mono ?_); (case side1 => exact zbg_); (case side2 => exact HC0_1.out); (case side3 => exact zbh_); (case side4 => exact HC0_2.out); rintro e w13 ⟨v386, rfl, ho0, hb⟩; refine ⟨_, rfl, ?_⟩; have n_ := z (Kd.S_elder' (zs HO384.out) (Kd.Q_base ho0) hb) <| z (Kd.Q_lower ho0 (below_size zcj_)) <| z (blk_below (zb BK378.out) hb) <| z1 (below_step zcj_ hb); clear HO384 BK378 HB; obtain ⟨HO384, HO387, BK378, HB⟩ := n_; clear hb; (try clear ho0); obtain ⟨Ao14, co14, eo14, _⟩ := Kd.Q_slice HO387.out; subst eo14))
    go_loopg [5, 23] k1 (fun kq v5 v23 w' => ∃ (x5_2 : List (List Int)) (x23_2 : Int), v23 = .int .i64 x23_2 ∧ Aside0 (spec_plLevels.l1 kq x5_2 t385 (t385.length : Int) x23_2 a0_0 l0_1 l0_2 = some r) ∧ Aside0 (kq ≤ k1) ∧ Aside0 (Kd.S (Kd.slice 3 (Kd.int .i64)) 24 w' w.heap.size (fun k_ => some k_ ≠ ((.slice Ao14 t385.length co14) : Value).ownBlock) v5 x5_2) ∧ Aside0 (Kd.Q (Kd.int .i64) 3 w' w.heap.size (fun _ => True) (.slice Ao14 t385.length co14) t385) ∧ Aside0 (w'.heap[gb378]? = some (.cells #[.int .i64 a0_0, (.slice A0_1 l0_1.length c0_1), (.slice A0_2 l0_2.length c0_2)] 49 (0, 0))) ∧ Aside0 (Below w.heap.size w w'))
    case atStart => exact ⟨(y382), (0), zb_, H', ⟨Nat.le_refl _⟩, ⟨by refine zs ?_; exact Kd.S_mono HO384.out (fun _ hk => hk.2)⟩, ⟨zq HO387.out⟩, ⟨zb BK378.out⟩, ⟨zcj_⟩⟩
    case round =>
     clear H'; (try clear c3b0); (try clear hcz12_0); (try clear hcz12_1); (try clear hcz12_2); (try clear hcz8_0); (try clear hcz8_1); (try clear hcz8_2); (try clear hfz12_0); (try clear hfz12_1); (try clear hfz12_2); (try clear hfz8_0); (try clear hfz8_1); (try clear hfz8_2); obtain ⟨x5_2, x23_2, rfl, HA, HK2, HO_5, HO_21, BK378, HB⟩ := hrel
     cases gk with
     | zero => exact absurd HA.out (by simp [spec_plLevels.l1])
     | succ k2 =>
      have H := HA.out; clear HA
      simp only [spec_plLevels.l1] at H
      by_cases c15 : x23_2 < (t385.length : Int)
      ·rw [if_pos c15] at H
       have c15b0 := decide_eq_true c15; clear c15
       by_cases c16 : 0 ≤ x23_2
       ·rw [if_pos c16] at H
        have c16b0 := decide_eq_true c16; clear c16
        by_cases c17 : x23_2 < (t385.length : Int)
        ·rw [if_pos c17] at H
         have c17b0 := decide_eq_true c17; clear c17; have H' := aM H; clear H; have p388 : 0 ≤ (x23_2 : Int) := of_decide_eq_true za_; have q388 : x23_2 < (t385.length : Int) := of_decide_eq_true za_; obtain ⟨ad388, e388, hx388_0⟩ := Kd.at_int (Kd.Q_reads' HO_21.out).2.2 x23_2 p388 q388
         cases e388
         replace p388 := eq_true p388; replace q388 := eq_true q388
         go_wp2
         go_loopg [5] k2 (fun kq v5 w' => ∃ (x5_3 : List (List Int)), Aside0 (spec_plLevels.l2 kq x5_3 x23_2 (rd t385 x23_2) t385 (t385.length : Int) x23_2 a0_0 l0_1 l0_2 = some r) ∧ Aside0 (kq ≤ k2) ∧ Aside0 (Kd.S (Kd.slice 3 (Kd.int .i64)) 24 w' w.heap.size (fun k_ => some k_ ≠ ((.slice (some ad388) t385.length co14) : Value).ownBlock) v5 x5_3) ∧ Aside0 (Kd.Q (Kd.int .i64) 3 w' w.heap.size (fun _ => True) (.slice (some ad388) t385.length co14) t385) ∧ Aside0 (w'.heap[gb378]? = some (.cells #[.int .i64 a0_0, (.slice A0_1 l0_1.length c0_1), (.slice A0_2 l0_2.length c0_2)] 49 (0, 0))) ∧ Aside0 (Below w.heap.size w w'))
         case atStart => exact ⟨(x5_2), H', ⟨Nat.le_refl _⟩, ⟨zs HO_5.out⟩, ⟨zq HO_21.out⟩, ⟨zb BK378.out⟩, ⟨zcj_⟩⟩
         case round =>
          clear H'; (try clear c15b0); (try clear c16b0); (try clear c17b0); (try clear hx388_0); (try clear p388); (try clear q388); obtain ⟨x5_3, HA, HK3, HO_5, HO_21, BK378, HB⟩ := hrel
          cases gk with
          | zero => exact absurd HA.out (by simp [spec_plLevels.l2])
          | succ k3 =>
           have H := HA.out; clear HA
           simp only [spec_plLevels.l2] at H
           by_cases c18 : (x5_3.length : Int) ≤ (rd t385 x23_2)
           ·rw [if_pos c18] at H
            have c18b0 := decide_eq_true c18; clear c18
            by_cases c19 : x5_3.length < 5864062014805
            ·rw [if_pos c19] at H
             have LMc19 := aM c19; clear c19; obtain ⟨y389, hy389⟩ : ∃ y_ : List (List Int), y_ = (x5_3 ++ [[]]) := ⟨_, rfl⟩; replace H : (spec_plLevels.l2 k3 y389 x23_2 (rd t385 x23_2) t385 (t385.length : Int) x23_2 a0_0 l0_1 l0_2) = some r := by first | (rw [hy389]; with_reducible exact H) | (have H2_ := (oS _ _).symm.trans H; rw [hy389]; with_reducible exact H2_) | (have H2_ := (oS _ _).symm.trans H; with_reducible exact H2_) | with_reducible exact H | (rw [hy389]; exact H) | exact H
             have Ny389 := aM hy389; clear hy389; have H' := aM H; clear H; obtain ⟨Ao20, co20, eo20⟩ := Kd.S_slice HO_5.out; subst eo20
             go_wp2_with (first | ((with_reducible refine gate_builtin (b := .append) (xs := #[.tmp 32, .tmp 33]) rfl ?_); at_builtin; refine Kd.S_append (Kd.slice 3 (Kd.int .i64)) (w0 := w) w.heap.size rfl (.tmp 32) (.tmp 33) 52 24 (.slice none 0 0) 24 rfl Try.underlying52 info24 rfl (by decide) (by omega) (.slice Ao20 x5_3.length co20) x5_3 [] [.slice none 0 0] (fun k_ => some k_ ≠ (.slice (some ad388) t385.length co14 : Value).ownBlock) (fun _ => False) rfl rfl ?aP (fun _ hk => hk.elim) ?aF ?aO ?aB ?aS ?aL ?_; (case aP => exact ⟨_, rfl, Kd.R_nil _ _ _ _ _⟩); (case aB => exact zgj_); (case aF => exact (fun k_ hk => Kd.fresh' (Kd.Q_lt (zq HO_21.out)) k_ hk)); (case aO => exact (by refine zs ?_; exact Kd.S_mono HO_5.out (fun k_ hk => ⟨hk, fun e_ => e_⟩))); (case aS => exact zha_); (case aL => have := LMc19.out; omega); intro v390 w21 ho hb hg hat; rw [← Ny389.out] at ho; have n_ := z (Kd.Q_over' (zq HO_21.out) (Kd.S_typed (zs HO_5.out)) (by decide) hg) <| z (blk_grown (g := gb378) (o := .cells #[.int .i64 a0_0, .slice A0_1 l0_1.length c0_1, .slice A0_2 l0_2.length c0_2] 49 (0, 0)) (zb BK378.out) hg (Kd.S_ne HO_5.out BK378.out (by decide))) <| z (hb) <| z1 (ho); clear HO_21 BK378 HB HO_5; obtain ⟨HO_21, BK378, HB, HO391⟩ := n_; clear ho hb hg hat))
             go_roundg k3
             case measure => have := HK1.out; have := HK2.out; have := HK3.out; omega
             case rel => exact ⟨(y389), H', ⟨zcd_⟩, ⟨zs HO391.out⟩, ⟨zq HO_21.out⟩, ⟨zb BK378.out⟩, ⟨zcj_⟩⟩
            ·rw [if_neg c19] at H
             exact absurd H (by simp)
           ·rw [if_neg c18] at H
            have c18b0 := decide_eq_false c18; clear c18
            by_cases c22 : 0 ≤ (rd t385 x23_2)
            ·rw [if_pos c22] at H
             have c22b0 := decide_eq_true c22; clear c22
             by_cases c23 : (rd t385 x23_2) < (x5_3.length : Int)
             ·rw [if_pos c23] at H
              have c23b0 := decide_eq_true c23; clear c23
              by_cases c24 : (rd_L2 x5_3 (rd t385 x23_2)).length < 17592186044416
              ·rw [if_pos c24] at H
               have LMc24 := aM c24; clear c24; obtain ⟨y393, hy393⟩ : ∃ y_ : List Int, y_ = ((rd_L2 x5_3 (rd t385 x23_2)) ++ [wrap64 (a0_0 + x23_2)]) := ⟨_, rfl⟩; replace H : (spec_plLevels.l1 k3 (x5_3.set ((rd t385 x23_2) : Int).toNat y393) t385 (t385.length : Int) (wrap64 (x23_2 + 1)) a0_0 l0_1 l0_2) = some r := by first | (rw [hy393]; with_reducible exact H) | (have H2_ := (oS _ _).symm.trans H; rw [hy393]; with_reducible exact H2_) | (have H2_ := (oS _ _).symm.trans H; with_reducible exact H2_) | with_reducible exact H | (rw [hy393]; exact H) | exact H
               have Ny393 := aM hy393; clear hy393; obtain ⟨y396, hy396⟩ : ∃ y_ : List (List Int), y_ = (x5_3.set ((rd t385 x23_2) : Int).toNat y393) := ⟨_, rfl⟩; replace H : (spec_plLevels.l1 k3 y396 t385 (t385.length : Int) (wrap64 (x23_2 + 1)) a0_0 l0_1 l0_2) = some r := by first | (rw [hy396]; with_reducible exact H) | (have H2_ := (oS _ _).symm.trans H; rw [hy396]; with_reducible exact H2_) | (have H2_ := (oS _ _).symm.trans H; with_reducible exact H2_) | with_reducible exact H | (rw [hy396]; exact H) | exact H
               have Ny396 := aM hy396; clear hy396; have H' := aM H; clear H; obtain ⟨Ao26, co26, eo26⟩ := Kd.S_slice HO_5.out; subst eo26; (try go_wp2); have n_ := z (Kd.S_drew HO_5.out) <| z (qD HO_21.out) <| z (blk_drew BK378.out) <| z1 (p1 HB.out)
               clear HO_5 HO_21 BK378 HB; obtain ⟨HO_5, HO_21, BK378, HB⟩ := n_; have p392 : 0 ≤ ((rd t385 x23_2) : Int) := of_decide_eq_true za_; have q392 : (rd t385 x23_2) < (x5_3.length : Int) := of_decide_eq_true za_; obtain ⟨ad392, A392_0, c392_0, e392, hx392_0, hl392_0, hi392_0⟩ := at_L2 (Kd.S_reads' HO_5.out).2.2 (rd t385 x23_2) p392 q392
               cases e392
               obtain ⟨ce392, hce392, hMe392, hcc392⟩ := Kd.S_get HO_5.out [] (rd t385 x23_2) p392 (by first | exact q392 | exact of_decide_eq_true za_ | (have e_ := (Kd.S_reads' HO_5.out).1; omega)); obtain ⟨ve392_0, rfl, ge392_0⟩ := hMe392; have hv392_0 := hcc392 0 _ rfl; rw [Nat.add_zero, show ((Kd.slice 3 (Kd.int .i64))).sz = 1 from rfl, Nat.mul_one] at hv392_0; replace hv392_0 := Option.some.inj (hv392_0.symm.trans hx392_0); rw [hv392_0] at ge392_0; have HL392_0 := aM (show Kd.R (Kd.int .i64) 3 _ _ _ _ (rd_L2 x5_3 (rd t385 x23_2)) from ge392_0); clear hv392_0 ge392_0; have HX392_0 := aM hx392_0; clear hcc392 hce392; have HR392_0 := aM hi392_0; have HC392_0 := aM hl392_0; clear hi392_0 hl392_0; replace p392 := eq_true p392; replace q392 := eq_true q392; obtain ⟨go28, co28, eo28, gb28, gl28, cl28, HG28⟩ := Kd.S_form HO_5.out (by have h_ : ((rd t385 x23_2) : Int) < ((x5_3.length : Int) : Int) := of_decide_eq_true za_; have h2_ : 0 ≤ ((rd t385 x23_2) : Int) := (of_decide_eq_true za_); omega); (first | cases eo28 | (injection eo28 with ea_ en_ ec_; (first | subst ea_ | (injection ea_ with ea_; subst ea_)); subst ec_; clear en_)); have GB28 := aM gb28; have GG28 := aM HG28; clear gb28 gl28 HG28; (first | simp only [add_plain] at hx392_0 | skip); obtain ⟨oki28, ce28, hcl28, hM28, hcc28, _, _, hH28⟩ := Kd.S_elem HO_5.out [] ((rd t385 x23_2) : Int) (of_decide_eq_true za_) (by have h_ : ((rd t385 x23_2) : Int) < ((x5_3.length : Int) : Int) := of_decide_eq_true za_; first | exact h_ | (have e_ := (Kd.S_reads' HO_5.out).1; omega) | simpa using h_); obtain ⟨ve28_0, rfl, ge28_0⟩ := hM28; have hv28 := hcc28 0 _ rfl; have hX28 := HX392_0.out; (try simp only [add_plain] at hX28); (try simp only [Nat.add_zero] at hv28); (try rw [show ((Kd.slice 3 (Kd.int .i64))).sz = 1 from rfl, Nat.mul_one] at hv28); replace hv28 := Option.some.inj (hv28.symm.trans hX28); subst hv28; clear hX28 hcc28 hcl28; have UU28 := aM (show Kd.R (Kd.int .i64) 3 _ w.heap.size oki28 (.slice A392_0 (rd_L2 x5_3 (rd t385 x23_2)).length c392_0) (rd_L2 x5_3 (rd t385 x23_2)) from ge28_0); have HH28 := aM hH28; have HN28 := aM (Kd.S_reads' HO_5.out).1; clear hH28 ge28_0
               refine start_ (n := 14) (S := fun w' => w'.cell? ⟨gb378, 0, none⟩ = some (.int .i64 a0_0) ∧ w'.cell? ⟨gb378, 1, none⟩ = some (.slice A0_1 l0_1.length c0_1) ∧ w'.cell? ⟨gb378, 2, none⟩ = some (.slice A0_2 l0_2.length c0_2) ∧ w'.cell? ⟨go28, ((rd t385 x23_2)).toNat, none⟩ = some (.slice A392_0 (rd_L2 x5_3 (rd t385 x23_2)).length c392_0)) (ds := [13]) #[fi,fi,fi,fi,fi,fi,fi,fi,fi,fi,fi,fi,fi,fi] (by kernel_rfl) rfl rfl ⟨(blk_cell BK378.out 0).trans rfl, (blk_cell BK378.out 1).trans rfl, (blk_cell BK378.out 2).trans rfl, hx392_0⟩ (fun hHeld => ?_); refine with_tabW spec_plLevels.tab12 spec_plLevels.bits12 (fun HT_ HW_ => ?_)
               generalize wr.drew = w27 at HO_5 HO_21 BK378 HB GG28 HH28 HL392_0 HR392_0 HX392_0 UU28 hx392_0 hHeld ⊢; refine py_ 0 35 HT_.out ?_; refine py_ 1 36 HT_.out ?_; refine py_ 2 37 HT_.out ?_; refine py_ 3 38 HT_.out ?_; refine py_ 4 39 HT_.out ?_; refine py_ 6 41 HT_.out ?_; refine py_ 8 43 HT_.out ?_
               refine take_ (i := 5) (N := some 40) (v := ?_) (a' := ?_) #[ti,ti,ti,ti,ti,ti,ti,fi,ti,fi,fi,fi,fi,fi] rfl rfl (take_ofW HT_.out HW_.out (by kernel_rfl)) (fun _ _ _ h => h) (Or.inl ⟨by rfl, ?_⟩) hHeld ?_ ?_
               rotate_left
               ·rintro w' ⟨s0, s1, s2, s3⟩
                go_simp
                with_reducible rfl
               rotate_left
               ·simp only [Act.put, sI, s0, sS, i64_w, i32_w]
                rfl
               refine take_ (i := 7) (N := some 42) (v := ?_) (a' := ?_) #[ti,ti,ti,ti,ti,ti,ti,ti,ti,fi,fi,fi,fi,fi] rfl rfl (take_ofW HT_.out HW_.out (by kernel_rfl)) (fun _ _ _ h => h) (Or.inl ⟨by rfl, ?_⟩) hHeld ?_ ?_
               rotate_left
               ·rintro w' ⟨s0, s1, s2, s3⟩
                go_simp
                with_reducible rfl
               rotate_left
               ·simp only [Act.put, sI, s0, sS, i64_w, i32_w]
                rfl
               refine py_ 9 44 HT_.out ?_
               refine one_ (i := 10) (N := some 45) #[ti,ti,ti,ti,ti,ti,ti,ti,ti,ti,ti,fi,fi,fi] rfl rfl (one_of HT_.out (by kernel_rfl)) (by decide) (fun K hK => ?_)
               refine value_ (w1 := ?_) (v := ?_) (by rfl) rfl ?_ ?_
               rotate_left 2
               ·go_simp
                constructor
                ·rfl
                ·rfl
               refine hK.out _ _ ⟨(blk_cell (blk_alloc BK378.out _) 0).trans rfl, (blk_cell (blk_alloc BK378.out _) 1).trans rfl, (blk_cell (blk_alloc BK378.out _) 2).trans rfl, (World.cell?_alloc_lt _ _ _ (World.block_lt_of_cell? _ _ (hHeld.2.2.2))).trans (hHeld.2.2.2)⟩ (fun hHeld => ?_)
               clear hK K
               refine norm_ (a' := ?_) ?_ ?_
               rotate_left
               ·show Act.put _ (some 45) _ = _
                simp only [Act.put, sI, s0, sS, i64_w, i32_w]
                rfl
               refine one_ (i := 11) (N := some 46) #[ti,ti,ti,ti,ti,ti,ti,ti,ti,ti,ti,ti,fi,fi] rfl rfl (one_of HT_.out (by kernel_rfl)) (by decide) (fun K hK => ?_)
               refine Kd.R_append_step (Kd.int .i64) (w0 := w) w.heap.size (by rfl) (.tmp 40) (.tmp 45) 24 3 (.int .i64 0) 8 rfl Try.underlying24 info3 rfl (by decide) (by omega) (.slice A392_0 (rd_L2 x5_3 (rd t385 x23_2)).length c392_0) (rd_L2 x5_3 (rd t385 x23_2)) (wrap64 (a0_0 + x23_2)) [.int .i64 (wrap64 (a0_0 + x23_2))] (fun k_ => oki28 k_ ∨ ((fun k_ => some k_ ≠ (.slice (some ad388) t385.length co14 : Value).ownBlock)) k_ ∧ w27.heap.size ≤ k_) (fun _ => False) rfl rfl ?aP (fun _ hk => hk.elim) ?aF ?aO ?aB ?aS ?aL ?_
               (case aP => exact rfl)
               (case aB => exact zgj_)
               (case aF => exact (fun k_ hk => .inr ⟨Kd.fresh' (Kd.Q_lt (zq HO_21.out)) k_ hk, hk⟩))
               (case aO => exact (by refine zr ?_; exact Kd.R_mono UU28.out (fun _ hk => .inl hk)))
               (case aS => exact zha_)
               (case aL => have := LMc24.out; omega)
               intro v394 w29 ho hb hg hat
               (first | have HS3_ := cell_grown hg (hHeld.2.2.2) (by first | (rw [add_block]; exact (fun e_ => ((HL392_0.out.1 _ e_.symm).2) rfl)) | (show some (Addr.add _ _).block ≠ _; rw [add_block]; exact (fun e_ => ((HL392_0.out.1 _ e_.symm).2) rfl)) | exact (fun e_ => ((HL392_0.out.1 _ e_.symm).2) rfl)) | have HS3_ := cell_grown hg (cell_unalloc (hHeld.2.2.2) (by first | (rw [add_block]; exact Kd.S_lt HO_5.out _ rfl) | (show (Addr.add _ _).block < _; rw [add_block]; exact Kd.S_lt HO_5.out _ rfl) | exact Kd.S_lt HO_5.out _ rfl)) (by first | (rw [add_block]; exact (fun e_ => ((HL392_0.out.1 _ e_.symm).2) rfl)) | (show some (Addr.add _ _).block ≠ _; rw [add_block]; exact (fun e_ => ((HL392_0.out.1 _ e_.symm).2) rfl)) | exact (fun e_ => ((HL392_0.out.1 _ e_.symm).2) rfl))); rw [← Ny393.out] at ho; have n_ := z (Kd.Q_grown2 (zq HO_21.out) rfl hg (fun k_ e_ => (HL392_0.out.1 k_ e_).1)) <| z (blk_grown (g := gb378) (o := .cells #[.int .i64 a0_0, .slice A0_1 l0_1.length c0_1, .slice A0_2 l0_2.length c0_2] 49 (0, 0)) (zb BK378.out) hg (Kd.R_ne HL392_0.out BK378.out (by decide))) <| z (hb) <| z (Kd.H_grown (Kd.H_widen (by repeat (first | exact HH28.out | refine Kd.H_alloc ?_ _ | refine Kd.H_drewN ?_ _ | refine Kd.H_drew ?_))) hg (fun k_ e_ => .inl (UU28.out.1 k_ e_))) <| z1 (ho)
               clear HO_21 BK378 HB HH28 HO_5 UU28 HL392_0; obtain ⟨HO_21, BK378, HB, HH28, HO395⟩ := n_; clear ho hb hg hat; have p25 : 0 ≤ ((rd t385 x23_2) : Int) := of_decide_eq_true za_; have q25 : ((rd t385 x23_2) : Int) < ((x5_3.length : Int) : Int) := of_decide_eq_true za_; replace p25 := eq_true p25; replace q25 := eq_true q25; obtain ⟨Ao32, co32, eo32⟩ := Kd.R_slice HO395.out; (first | subst eo32 | (injection eo32 with f1_ f2_ f3_; have f4_ := f1_.symm; have f5_ := f3_.symm; clear f1_ f2_ f3_; subst f4_; subst f5_)); obtain ⟨_, _, hraw30, _, _, hcc30, _⟩ := Kd.H_raw HH28.out (of_decide_eq_true za_) (by have h_ : ((rd t385 x23_2) : Int) < ((x5_3.length : Int) : Int) := of_decide_eq_true za_; first | exact h_ | (have e_ := (HN28.out); omega) | simpa using h_); obtain ⟨_, hfr30⟩ := Kd.H_at HH28.out (of_decide_eq_true za_) (by have h_ : ((rd t385 x23_2) : Int) < ((x5_3.length : Int) : Int) := of_decide_eq_true za_; first | exact h_ | (have e_ := (HN28.out); omega) | simpa using h_); have hx30_0 := hcc30 0 _ rfl; have hf30_0 := hfr30 0; (try simp only [Nat.add_zero] at hx30_0 hf30_0); (try rw [show ((Kd.slice 3 (Kd.int .i64))).sz = 1 from rfl, Nat.mul_one] at hx30_0); (try rw [show ((Kd.slice 3 (Kd.int .i64))).sz = 1 from rfl, Nat.mul_one] at hf30_0); have HP30 := Kd.S_seg0 HH28.out (of_decide_eq_true za_) (by have h_ : ((rd t385 x23_2) : Int) < ((x5_3.length : Int) : Int) := of_decide_eq_true za_; first | exact h_ | (have e_ := (HN28.out); omega) | simpa using h_) (seg := [.slice Ao32 y393.length co32]) (j := 0) (show 1 ≤ 1 from by decide) (x' := y393) (Kd.M_row HO395.out) (fun _ hk => hk); (try simp only [show ((Kd.slice 3 (Kd.int .i64))).sz = 1 from rfl, Nat.mul_one, Nat.add_zero] at HP30); clear hcc30 hfr30; have HNB378_go28 := aM (show gb378 ≠ go28 from by have h_ := Kd.R_ne hraw30 BK378.out (by decide); intro e_; exact h_ (by rw [e_]; rfl)); have HS30 := HP30.1; rw [← Ny396.out] at HS30; have HQ30 := aM HS30; obtain ⟨_, hgg30⟩ := Kd.R_typed hraw30 go28 rfl; have GG30_ := aM hgg30; clear HP30 HS30 hgg30
               refine hK.out _ _ ⟨(blk_cell BK378.out 0).trans rfl, (blk_cell BK378.out 1).trans rfl, (blk_cell BK378.out 2).trans rfl, HS3_⟩ (fun hHeld => ?_)
               clear hK K
               refine norm_ (a' := ?_) ?_ ?_
               rotate_left
               ·show Act.put _ (some 46) _ = _
                simp only [Act.put, sI, s0, sS, i64_w, i32_w]
                rfl
               refine py_ 12 47 HT_.out ?_
               refine last_ (i := 13) (N := none) #[ti,ti,ti,ti,ti,ti,ti,ti,ti,ti,ti,ti,ti,ti] rfl rfl (one_of HT_.out (by kernel_rfl)) (by decide) (fun K hK => ?_)
               refine skip_ (w1 := ?_) (by rfl) rfl ?_ ?_
               rotate_left
               ·go_simp
                rfl
               refine hK.out _ _ ?_
               clear hK K
               refine done_ (done_of HT_.out (by kernel_rfl)) ?_
               (try go_wp2)
               go_roundg k3
               case measure => have := HK1.out; have := HK2.out; have := HK3.out; omega
               case rel => exact ⟨(y396), (wrap64 (x23_2 + 1)), zb_, H', ⟨zcd_⟩, ⟨zs HQ30.out⟩, ⟨by refine zq ?_; exact Kd.Q_mono (Kd.Q_far (p := ⟨go28, ((rd t385 x23_2) : Int).toNat, none⟩) (Kd.Q_types HO_21.out GG30_.out (by decide)) (fun _ hk => hk.2) (.slice Ao32 y393.length co32)) (fun _ hk => trivial)⟩, ⟨by refine zb ?_; refine blk_far ?_ HNB378_go28.out _; refine zb ?_; exact BK378.out⟩, ⟨by repeat (first | (with_reducible first | exact HB.out | apply pA | apply pN | apply p1 | refine below_set ?_ GB28.out | refine below_set ?_ GE378.out) | exact HB.out)⟩⟩
              ·rw [if_neg c24] at H
               exact absurd H (by simp)
             ·rw [if_neg c23] at H
              exact absurd H (by simp)
            ·rw [if_neg c22] at H
             exact absurd H (by simp)
        ·rw [if_neg c17] at H
         exact absurd H (by simp)
       ·rw [if_neg c16] at H
        exact absurd H (by simp)
      ·rw [if_neg c15] at H
       have c15b0 := decide_eq_false c15; clear c15; obtain rfl := Option.some.inj H
       go_wp2
       go_ret
       exact ⟨_, zg_, by refine zs ?_; exact Kd.S_mono HO_5.out (fun _ hk => trivial), zcj_⟩
def spec_plPlace.l0 : Nat → Int → List Int → Int → Int → Option (Int)
 | 0, _, _, _, _ => none
 | k + 1, x1, x7, x8, x9 => if x9 < x8 then (if 0 ≤ x9 then (if x9 < (x7.length : Int) then (if (rd x7 x9) = x1 then (some x9) else (spec_plPlace.l0 k x1 x7 x8 (wrap64 (x9 + 1)))) else (none)) else (none)) else (some (-1))
def spec_plPlace.f (k : Nat) (l0 : List Int) (a1 : Int) : Option (Int) := spec_plPlace.l0 k a1 l0 (l0.length : Int) 0
theorem spec_plPlace.calls (k : Nat) (A0 : Option Addr) (c0 : Nat) (l0 : List Int) (a1 : Int) (r : Int) (w : World) (hr0 : Kd.C (Kd.int .i64) w A0 l0.length l0) (hc0 : l0.length ≤ c0) (h : spec_plPlace.f k l0 a1 = some r) :
  Calls Try.prog 158 #[.slice A0 l0.length c0, .int .i64 a1] w fun e w' => e = .returned (.int .i64 r) ∧ Drawn0 w w' := by
 have HR0 := aM hr0
 have HC0 := aM hc0
 clear hr0 hc0
 have H : (spec_plPlace.l0 k a1 l0 (l0.length : Int) 0) = some r := h
 clear h
 have H' := aM H
 clear H
 go_enter Try.func158, Try.ntmps158
 go_wp2
 go_loopg [9] k (fun kq v9 w' => ∃ (x9_1 : Int), v9 = .int .i64 x9_1 ∧ Aside0 (spec_plPlace.l0 kq a1 l0 (l0.length : Int) x9_1 = some r) ∧ Aside0 (kq ≤ k) ∧ Drawn0 w w')
 case atStart => exact ⟨(0), zb_, H', ⟨Nat.le_refl _⟩, zf_⟩
 case round =>
  clear H'; obtain ⟨x9_1, rfl, HA, HK1, ⟨m1, rfl⟩⟩ := hrel
  cases gk with
  | zero => exact absurd HA.out (by simp [spec_plPlace.l0])
  | succ k1 =>
   have H := HA.out; clear HA
   simp only [spec_plPlace.l0] at H
   by_cases c3 : x9_1 < (l0.length : Int)
   ·rw [if_pos c3] at H
    have c3b0 := decide_eq_true c3; clear c3
    by_cases c4 : 0 ≤ x9_1
    ·rw [if_pos c4] at H
     have c4b0 := decide_eq_true c4; clear c4
     by_cases c5 : x9_1 < (l0.length : Int)
     ·rw [if_pos c5] at H
      have c5b0 := decide_eq_true c5; clear c5
      by_cases c6 : (rd l0 x9_1) = a1
      ·rw [if_pos c6] at H
       have c6b0 := beq_iff_eq.mpr c6; have c6b1 := bne_eq_false_iff_eq.mpr c6; clear c6; obtain rfl := Option.some.inj H; have p397 : 0 ≤ (x9_1 : Int) := of_decide_eq_true za_; have q397 : x9_1 < (l0.length : Int) := of_decide_eq_true za_; obtain ⟨ad397, e397, hx397_0⟩ := Kd.at_int HR0.out x9_1 p397 q397
       cases e397
       replace p397 := eq_true p397; replace q397 := eq_true q397
       go_wp2
       go_ret
       exact ⟨zb_, zf_⟩
      ·rw [if_neg c6] at H
       have c6b0 := beq_eq_false_iff_ne.mpr c6; have c6b1 := bne_iff_ne.mpr c6; have H' := aM H; clear H; have p397 : 0 ≤ (x9_1 : Int) := of_decide_eq_true za_; have q397 : x9_1 < (l0.length : Int) := of_decide_eq_true za_; obtain ⟨ad397, e397, hx397_0⟩ := Kd.at_int HR0.out x9_1 p397 q397
       cases e397
       replace p397 := eq_true p397; replace q397 := eq_true q397
       go_wp2
       go_roundg k1
       case measure => have := HK1.out; omega
       case rel => exact ⟨(wrap64 (x9_1 + 1)), zb_, H', ⟨zbd_⟩, zf_⟩
     ·rw [if_neg c5] at H
      exact absurd H (by simp)
    ·rw [if_neg c4] at H
     exact absurd H (by simp)
   ·rw [if_neg c3] at H
    have c3b0 := decide_eq_false c3; clear c3; obtain rfl := Option.some.inj H
    go_wp2
    go_ret
    exact ⟨zb_, zf_⟩
end Go.Proofs.Ytbkighlfgaifeaa.QFnCrossings
