/- Functions of the law FnTracks, each as a Lean function, and the proofs that the Go code comes to their answers. Made by wip/gen/slim.py. Conditions: those of each theorem. -/
import Derived.Test.YtbkighlfgaifeaaSFnTracksx0
import Derived.Test.YtbkighlfgaifeaaSFnTracksx1
namespace Go.Proofs.Ytbkighlfgaifeaa.QFnTracks
open Go.RowKit Go.Proofs.YtbkighlfgaifeaaW.PrintWords Go.Proofs.YtbkighlfgaifeaaW.PrintLast Go.Proofs.YtbkighlfgaifeaaW.PrintMore
open Go.Proofs.YtbkighlfgaifeaaW.PrintWords renaming pw_below_drewN → pN, below_drew1 → p1, below_alloc → pA
open Go.Proofs.YtbkighlfgaifeaaW.PrintWords.Kd renaming R_alloc → kA, R_drewN → kN, R_drew → kD, Q_alloc → qA, Q_drewN → qN, Q_drew → qD, C_alloc → cA, C_drewN → cN, C_drew → cD
open Go.Proofs.YtbkighlfgaifeaaW.PrintWords.Aside0 renaming mk → aM
open List renaming setIfInBounds_toArray → sI, set_cons_zero → s0, set_cons_succ → sS, map_toArray → mT, length_take → lT, length_drop → lD, map_cons → mC, map_nil → mN
open Option renaming bind_eq_some_iff → oB, bind_some → oS
attribute [local go_sem] max2_int min2_int max_two min_two max_three min_three max_four min_four
set_option maxHeartbeats 8000000
set_option maxRecDepth 100000
set_option linter.unusedVariables false
set_option linter.unusedSimpArgs false
mutual
def spec_LeftEdge.l0 : Nat → List (S32) → List Int → List Int → List Int → Int → Int → Option (List Int × Bool)
 | 0, _, _, _, _, _, _ => none
 | k + 1, x0, x4, x5, x19, x20, x21 => if x21 < x20 then (if 0 ≤ x21 then (if x21 < (x19.length : Int) then (spec_LeftEdge.l1 k x0 x4 x5 x21 (rd x19 x21) 0 0 x19 x20 x21) else (none)) else (none)) else (some (x4, true))
def spec_LeftEdge.l1 : Nat → List (S32) → List Int → List Int → Int → Int → Int → Int → List Int → Int → Int → Option (List Int × Bool)
 | 0, _, _, _, _, _, _, _, _, _, _ => none
 | k + 1, x0, x4, x5, x6, x7, x8, x9, x19, x20, x21 => if x9 < x6 then (if 0 ≤ x9 then (if x9 < (x5.length : Int) then (if 0 ≤ (rd x5 x9) then (if (rd x5 x9) < (x4.length : Int) then (if (rd x4 (rd x5 x9)) = x8 then (if (rd x5 x9) < (x0.length : Int) then (if 0 ≤ x7 then (if x7 < (x0.length : Int) then ((spec_rtMeet.f ((rd_T32 x0 (rd x5 x9)).f0) ((rd_T32 x0 (rd x5 x9)).f1) ((rd_T32 x0 x7).f0) ((rd_T32 x0 x7).f1)).bind fun t126 => (if t126 = true then (spec_LeftEdge.l1 k x0 x4 x5 x6 x7 (wrap64 (x8 + 1)) ((-1) + 1) x19 x20 x21) else (spec_LeftEdge.l1 k x0 x4 x5 x6 x7 x8 (wrap64 (x9 + 1)) x19 x20 x21))) else (none)) else (none)) else (none)) else (spec_LeftEdge.l1 k x0 x4 x5 x6 x7 x8 (wrap64 (x9 + 1)) x19 x20 x21)) else (none)) else (none)) else (none)) else (none)) else (if 0 ≤ x7 then (if x7 < (x4.length : Int) then (spec_LeftEdge.l0 k x0 (x4.set (x7 : Int).toNat x8) x5 x19 x20 (wrap64 (x21 + 1))) else (none)) else (none))
end
def spec_LeftEdge.f (k : Nat) (l0 : List (S32)) : Option (List Int × Bool) := (spec_rtGood.f k l0).bind fun t114 => (if t114 = true then (if 0 ≤ (l0.length : Int) then (if ((l0.length : Int) : Int).toNat ≤ 35184372088832 then ((spec_rtOrder.f k l0).bind fun t118 => (spec_LeftEdge.l0 k l0 (List.replicate ((l0.length : Int) : Int).toNat 0) t118 t118 (t118.length : Int) 0)) else (none)) else (none)) else (some (([] : List Int), false)))
def spec_LeftEdge.T13 : Bool × List (List Nat × List Nat) := (true, [([], []), ([], []), ([0, 1], [0, 1]), ([2], [2]), ([], []), ([3, 4], [3, 4]), ([5], [5]), ([6], [6]), ([6], [6]), ([7, 8, 6], [6, 7, 8]), ([9, 6], [6, 9]), ([6], [6]), ([6], [6]), ([11, 12, 6], [6, 11, 12]), ([13, 6], [6, 13]), ([10, 14, 6, 6], [6, 10, 14]), ([6, 15], [6, 15])])
def spec_LeftEdge.B13 : List Nat := [0, 0, 3, 7, 0, 31, 63, 127, 127, 511, 1023, 127, 127, 6271, 14463, 32767, 65535]
theorem spec_LeftEdge.tab13 : rtab .any (opsOf Try.f76 13) = spec_LeftEdge.T13 := by kernel_rfl
theorem spec_LeftEdge.bits13 : waitsOk spec_LeftEdge.T13.2 spec_LeftEdge.B13 = true := by kernel_rfl
theorem spec_LeftEdge.calls (k : Nat) (A0 : Option Addr) (c0 : Nat) (l0 : List (S32)) (r1 : List Int) (r2 : Bool) (w : World) (hr0 : Kd.C k32 w A0 l0.length l0) (hc0 : l0.length ≤ c0) (h : spec_LeftEdge.f k l0 = some (r1, r2)) :
  Calls Try.prog 76 #[.slice A0 l0.length c0] w fun e w' => ∃ v0_ : Value, e = .returned (.tuple #[v0_, .bool r2]) ∧ Kd.R (Kd.int .i64) 3 w' w.heap.size (fun _ => True) v0_ r1 ∧ Below w.heap.size w w' := by
 have hu32 := Try.underlying32
 have HR0 := aM hr0
 have HC0 := aM hc0
 clear hr0 hc0
 have HB := aM (Below.refl w.heap.size w)
 have H : ((spec_rtGood.f k l0).bind fun t114 => (if t114 = true then (if 0 ≤ (l0.length : Int) then (if ((l0.length : Int) : Int).toNat ≤ 35184372088832 then ((spec_rtOrder.f k l0).bind fun t118 => (spec_LeftEdge.l0 k l0 (List.replicate ((l0.length : Int) : Int).toNat 0) t118 t118 (t118.length : Int) 0)) else (none)) else (none)) else (some (([] : List Int), false)))) = some (r1, r2) := h
 clear h
 replace H := oB.mp H
 obtain ⟨t114, A20, H⟩ := H
 replace H : (if t114 = true then (if 0 ≤ (l0.length : Int) then (if ((l0.length : Int) : Int).toNat ≤ 35184372088832 then ((spec_rtOrder.f k l0).bind fun t118 => (spec_LeftEdge.l0 k l0 (List.replicate ((l0.length : Int) : Int).toNat 0) t118 t118 (t118.length : Int) 0)) else (none)) else (none)) else (some (([] : List Int), false))) = some (r1, r2) := H
 have A2 := aM A20
 clear A20
 by_cases c3 : t114 = true
 ·subst c3
  have H1 : (if 0 ≤ (l0.length : Int) then (if ((l0.length : Int) : Int).toNat ≤ 35184372088832 then ((spec_rtOrder.f k l0).bind fun t118 => (spec_LeftEdge.l0 k l0 (List.replicate ((l0.length : Int) : Int).toNat 0) t118 t118 (t118.length : Int) 0)) else (none)) else (none)) = some (r1, r2) := by rw [if_pos rfl] at H; exact H
  clear H
  have H := H1
  clear H1
  by_cases c4 : 0 ≤ (l0.length : Int)
  ·rw [if_pos c4] at H
   have c4b0 := eq_true c4
   have c4b1 : decide (0 ≤ (l0.length : Int)) = true := decide_eq_true c4
   clear c4
   by_cases c5 : ((l0.length : Int) : Int).toNat ≤ 35184372088832
   ·rw [if_pos c5] at H
    have c5b0 := eq_true c5
    have c5b1 : decide (((l0.length : Int) : Int).toNat ≤ 35184372088832) = true := decide_eq_true c5
    clear c5
    obtain ⟨y115, hy115⟩ : ∃ y_ : List Int, y_ = (List.replicate ((l0.length : Int) : Int).toNat 0) := ⟨_, rfl⟩
    replace H : ((spec_rtOrder.f k l0).bind fun t118 => (spec_LeftEdge.l0 k l0 y115 t118 t118 (t118.length : Int) 0)) = some (r1, r2) := by first | (rw [hy115]; with_reducible exact H) | (have H2_ := (oS _ _).symm.trans H; rw [hy115]; with_reducible exact H2_) | (have H2_ := (oS _ _).symm.trans H; with_reducible exact H2_) | with_reducible exact H | (rw [hy115]; exact H) | exact H
    have Ny115 := aM hy115
    clear hy115
    replace H := oB.mp H
    obtain ⟨t118, A60, H⟩ := H
    replace H : (spec_LeftEdge.l0 k l0 y115 t118 t118 (t118.length : Int) 0) = some (r1, r2) := H
    have A6 := aM A60
    clear A60
    have H' := aM H
    clear H
    go_enter Try.func76, Try.ntmps76
    go_wp2_with (first | ((with_reducible refine gate_callee (f := 162) rfl ?_); refine goesL_ (some 12) rfl rfl Try.func162 (by kernel_rfl) rfl #[.slice A0 l0.length c0] rfl zd_ ?_; (with_reducible refine (spec_rtGood.calls k _ _ l0 true _ ?side1 ?side2 A2.out).mono ?_); (case side1 => exact zbh_); (case side2 => exact HC0.out); rintro e w7 ⟨rfl, hb⟩; refine ⟨_, rfl, ?_⟩; have n0_ := aM (below_step za_ hb); clear HB; have HB := n0_; clear n0_; (try clear hb)) | ((with_reducible refine gate_dst (N := 16) rfl ?_); refine Kd.R_make (Kd.int .i64) _ 3 rfl (N := 16) rfl 24 _ _ rfl (l0.length : Int) rfl rfl Try.underlying24 (.int .i64 0) 8 info3 rfl (by decide) (by omega) 0 (ok := fun _ => True) (okp := fun _ => True) rfl (fun _ hk => hk) trivial (of_decide_eq_true zb_) (Nat.le_trans (Nat.mul_le_mul_right _ (of_decide_eq_true zb_ : (l0.length : Int).toNat ≤ 35184372088832)) (by omega)) (Below.refl _ _) (Nat.le_refl _) ?_; intro v116 w8 ho9 hb hg_ hnew_; clear hg_ hnew_; (first | rw [← Ny115.out] at ho9 | (simp only [Int.reduceToNat] at ho9; rw [← Ny115.out] at ho9)); have n_ := z (Kd.R_lower ho9 (below_size za_)) <| z1 (below_step za_ hb); clear HB; obtain ⟨HO117, HB⟩ := n_; clear hb ho9) | ((with_reducible refine gate_callee (f := 163) rfl ?_); refine goesL_ (some 18) rfl rfl Try.func163 (by kernel_rfl) rfl #[.slice A0 l0.length c0] rfl zd_ ?_; (with_reducible refine (spec_rtOrder.calls k _ _ l0 t118 _ ?side1 ?side2 A6.out).mono ?_); (case side1 => exact zbe_); (case side2 => exact HC0.out); rintro e w10 ⟨v119, rfl, ho0, hb⟩; refine ⟨_, rfl, ?_⟩; have n_ := z (Kd.R_elder' (zr HO117.out) (Kd.R_base ho0) hb) <| z (Kd.R_lower (Kd.R_new' ho0 (Kd.R_lt (zr HO117.out))) (below_size za_)) <| z1 (below_step za_ hb); clear HO117 HB; obtain ⟨HO117, HO120, HB⟩ := n_; (try clear hb); (try clear ho0); obtain ⟨Ao11, co11, eo11⟩ := Kd.R_slice HO120.out; subst eo11))
    go_loopg [21] k (fun kq v21 w' => ∃ (x4_1 : List Int) (x21_1 : Int), v21 = .int .i64 x21_1 ∧ Aside0 (spec_LeftEdge.l0 kq l0 x4_1 t118 t118 (t118.length : Int) x21_1 = some (r1, r2)) ∧ Aside0 (kq ≤ k) ∧ Aside0 (Kd.R (Kd.int .i64) 3 w' w.heap.size (fun k_ => some k_ ≠ ((.slice Ao11 t118.length co11) : Value).ownBlock ∧ some k_ ≠ ((.slice Ao11 t118.length co11) : Value).ownBlock) v116 x4_1) ∧ Aside0 (Kd.R (Kd.int .i64) 3 w' w.heap.size (fun k_ => some k_ ≠ (v116 : Value).ownBlock) (.slice Ao11 t118.length co11) t118) ∧ Aside0 (Kd.R (Kd.int .i64) 3 w' w.heap.size (fun k_ => some k_ ≠ (v116 : Value).ownBlock) (.slice Ao11 t118.length co11) t118) ∧ Aside0 (Below w.heap.size w w'))
    case atStart => exact ⟨(y115), (0), zc_, H', ⟨Nat.le_refl _⟩, ⟨by refine zr ?_; exact Kd.R_mono HO117.out (fun _ hk => ⟨hk.2, hk.2⟩)⟩, ⟨by refine zr ?_; exact Kd.R_mono HO120.out (fun _ hk => hk.2)⟩, ⟨by refine zr ?_; exact Kd.R_mono HO120.out (fun _ hk => hk.2)⟩, ⟨za_⟩⟩
    case round =>
     clear H'
     try clear c1
     try clear p2
     try clear c3
     try clear c4
     try clear c4b0
     try clear c4b1
     try clear c5
     try clear c5b0
     try clear c5b1
     try clear c7
     obtain ⟨x4_1, x21_1, rfl, HA, HK1, HO_4, HO_5, HO_19, HB⟩ := hrel
     cases gk with
     | zero => exact absurd HA.out (by simp [spec_LeftEdge.l0])
     | succ k1 =>
      have H := HA.out
      clear HA
      simp only [spec_LeftEdge.l0] at H
      by_cases c12 : x21_1 < (t118.length : Int)
      ·rw [if_pos c12] at H
       have c12b0 : decide (x21_1 < (t118.length : Int)) = true := decide_eq_true c12
       clear c12
       by_cases c13 : 0 ≤ x21_1
       ·rw [if_pos c13] at H
        have c13b0 : decide (0 ≤ x21_1) = true := decide_eq_true c13
        clear c13
        by_cases c14 : x21_1 < (t118.length : Int)
        ·rw [if_pos c14] at H
         have c14b0 : decide (x21_1 < (t118.length : Int)) = true := decide_eq_true c14
         clear c14
         have H' := aM H
         clear H
         have p121 : 0 ≤ (x21_1 : Int) := of_decide_eq_true zb_
         have q121 : x21_1 < (t118.length : Int) := of_decide_eq_true zb_
         obtain ⟨ad121, e121, hx121_0⟩ := Kd.at_int (Kd.R_reads' HO_19.out).2.2 x21_1 p121 q121
         cases e121
         replace p121 := eq_true p121
         replace q121 := eq_true q121
         go_wp2
         go_loopg [8, 9] k1 (fun kq v8 v9 w' => ∃ (x8_2 : Int) (x9_2 : Int), v8 = .int .i64 x8_2 ∧ v9 = .int .i64 x9_2 ∧ Aside0 (spec_LeftEdge.l1 kq l0 x4_1 t118 x21_1 (rd t118 x21_1) x8_2 x9_2 t118 (t118.length : Int) x21_1 = some (r1, r2)) ∧ Aside0 (kq ≤ k1) ∧ Aside0 (Kd.R (Kd.int .i64) 3 w' w.heap.size (fun k_ => some k_ ≠ ((.slice (some ad121) t118.length co11) : Value).ownBlock ∧ some k_ ≠ ((.slice (some ad121) t118.length co11) : Value).ownBlock) v116 x4_1) ∧ Aside0 (Kd.R (Kd.int .i64) 3 w' w.heap.size (fun k_ => some k_ ≠ (v116 : Value).ownBlock) (.slice (some ad121) t118.length co11) t118) ∧ Aside0 (Kd.R (Kd.int .i64) 3 w' w.heap.size (fun k_ => some k_ ≠ (v116 : Value).ownBlock) (.slice (some ad121) t118.length co11) t118) ∧ Aside0 (Below w.heap.size w w'))
         case atStart => exact ⟨(0), (0), zc_, zc_, H', ⟨Nat.le_refl _⟩, ⟨zr HO_4.out⟩, ⟨zr HO_5.out⟩, ⟨zr HO_19.out⟩, ⟨za_⟩⟩
         case round =>
          clear H'
          try clear c1
          try clear p1
          try clear q1
          try clear hx1
          try clear p2
          try clear c3
          try clear c4
          try clear c4b0
          try clear c4b1
          try clear c5
          try clear c5b0
          try clear c5b1
          try clear c7
          try clear c12
          try clear c12b0
          try clear p12
          try clear q12
          try clear hx12
          try clear c13
          try clear c13b0
          try clear c14
          try clear c14b0
          try clear hx121_0
          try clear p121
          try clear p2
          try clear q121
          obtain ⟨x8_2, x9_2, rfl, rfl, HA, HK2, HO_4, HO_5, HO_19, HB⟩ := hrel
          cases gk with
          | zero => exact absurd HA.out (by simp [spec_LeftEdge.l1])
          | succ k2 =>
           have H := HA.out
           clear HA
           simp only [spec_LeftEdge.l1] at H
           by_cases c15 : x9_2 < x21_1
           ·rw [if_pos c15] at H
            have c15b0 : decide (x9_2 < x21_1) = true := decide_eq_true c15
            clear c15
            by_cases c16 : 0 ≤ x9_2
            ·rw [if_pos c16] at H
             have c16b0 : decide (0 ≤ x9_2) = true := decide_eq_true c16
             clear c16
             by_cases c17 : x9_2 < (t118.length : Int)
             ·rw [if_pos c17] at H
              have c17b0 : decide (x9_2 < (t118.length : Int)) = true := decide_eq_true c17
              clear c17
              by_cases c18 : 0 ≤ (rd t118 x9_2)
              ·rw [if_pos c18] at H
               have c18b0 : decide (0 ≤ (rd t118 x9_2)) = true := decide_eq_true c18
               clear c18
               by_cases c19 : (rd t118 x9_2) < (x4_1.length : Int)
               ·rw [if_pos c19] at H
                have c19b0 : decide ((rd t118 x9_2) < (x4_1.length : Int)) = true := decide_eq_true c19
                clear c19
                by_cases c20 : (rd x4_1 (rd t118 x9_2)) = x8_2
                ·rw [if_pos c20] at H
                 have c20b0 : ((rd x4_1 (rd t118 x9_2)) == x8_2) = true := beq_iff_eq.mpr c20
                 have c20b1 : ((rd x4_1 (rd t118 x9_2)) != x8_2) = false := bne_eq_false_iff_eq.mpr c20
                 clear c20
                 by_cases c21 : (rd t118 x9_2) < (l0.length : Int)
                 ·rw [if_pos c21] at H
                  have c21b0 : decide ((rd t118 x9_2) < (l0.length : Int)) = true := decide_eq_true c21
                  clear c21
                  by_cases c22 : 0 ≤ (rd t118 x21_1)
                  ·rw [if_pos c22] at H
                   have c22b0 : decide (0 ≤ (rd t118 x21_1)) = true := decide_eq_true c22
                   clear c22
                   by_cases c23 : (rd t118 x21_1) < (l0.length : Int)
                   ·rw [if_pos c23] at H
                    have c23b0 : decide ((rd t118 x21_1) < (l0.length : Int)) = true := decide_eq_true c23
                    clear c23
                    replace H := oB.mp H
                    obtain ⟨t126, A240, H⟩ := H
                    replace H : (if t126 = true then (spec_LeftEdge.l1 k2 l0 x4_1 t118 x21_1 (rd t118 x21_1) (wrap64 (x8_2 + 1)) ((-1) + 1) t118 (t118.length : Int) x21_1) else (spec_LeftEdge.l1 k2 l0 x4_1 t118 x21_1 (rd t118 x21_1) x8_2 (wrap64 (x9_2 + 1)) t118 (t118.length : Int) x21_1)) = some (r1, r2) := H
                    have A24 := aM A240
                    clear A240
                    by_cases c25 : t126 = true
                    ·subst c25
                     have H1 : (spec_LeftEdge.l1 k2 l0 x4_1 t118 x21_1 (rd t118 x21_1) (wrap64 (x8_2 + 1)) ((-1) + 1) t118 (t118.length : Int) x21_1) = some (r1, r2) := by rw [if_pos rfl] at H; exact H
                     clear H
                     have H := H1
                     clear H1
                     have H' := aM H
                     clear H
                     have p122 : 0 ≤ (x9_2 : Int) := of_decide_eq_true zb_
                     have q122 : x9_2 < (t118.length : Int) := of_decide_eq_true zb_
                     obtain ⟨ad122, e122, hx122_0⟩ := Kd.at_int (Kd.R_reads' HO_5.out).2.2 x9_2 p122 q122
                     obtain rfl : ad121 = ad122 := (by injection e122)
                     replace p122 := eq_true p122
                     replace q122 := eq_true q122
                     try go_wp2
                     have n_ := z (kD HO_4.out) <| z (kD HO_5.out) <| z (kD HO_19.out) <| z1 (p1 HB.out)
                     clear HO_4 HO_5 HO_19 HB
                     obtain ⟨HO_4, HO_5, HO_19, HB⟩ := n_
                     obtain ⟨Ao27, co27, eo27⟩ := Kd.R_slice HO_4.out
                     (first | subst eo27 | (injection eo27 with f1_ f2_ f3_; have f4_ := f1_.symm; have f5_ := f3_.symm; clear f1_ f2_ f3_; subst f4_; subst f5_))
                     have p123 : 0 ≤ ((rd t118 x9_2) : Int) := of_decide_eq_true zb_
                     have q123 : (rd t118 x9_2) < (x4_1.length : Int) := of_decide_eq_true zb_
                     obtain ⟨ad123, e123, hx123_0⟩ := Kd.at_int (Kd.R_reads' HO_4.out).2.2 (rd t118 x9_2) p123 q123
                     cases e123
                     replace p123 := eq_true p123
                     replace q123 := eq_true q123
                     have p124 : 0 ≤ ((rd t118 x9_2) : Int) := of_decide_eq_true zb_
                     have q124 : (rd t118 x9_2) < (l0.length : Int) := of_decide_eq_true zb_
                     obtain ⟨ad124, e124, hx124_0, hx124_1⟩ := at_T32 HR0.out (rd t118 x9_2) p124 q124
                     have hw124_1 := hx124_1
                     have hw124_0 := hx124_0
                     cases e124
                     (try (replace hx124_0 := (HB.out.cell (World.block_lt_of_cell? w _ hx124_0)).trans hx124_0))
                     (try (replace hx124_1 := (HB.out.cell (World.block_lt_of_cell? w _ hx124_1)).trans hx124_1))
                     replace p124 := eq_true p124
                     replace q124 := eq_true q124
                     have p125 : 0 ≤ ((rd t118 x21_1) : Int) := of_decide_eq_true zb_
                     have q125 : (rd t118 x21_1) < (l0.length : Int) := of_decide_eq_true zb_
                     obtain ⟨ad125, e125, hx125_0, hx125_1⟩ := at_T32 HR0.out (rd t118 x21_1) p125 q125
                     have hw125_1 := hx125_1
                     have hw125_0 := hx125_0
                     obtain rfl : ad124 = ad125 := (by injection e125)
                     (try (replace hx125_0 := (HB.out.cell (World.block_lt_of_cell? w _ hx125_0)).trans hx125_0))
                     (try (replace hx125_1 := (HB.out.cell (World.block_lt_of_cell? w _ hx125_1)).trans hx125_1))
                     replace p125 := eq_true p125
                     replace q125 := eq_true q125
                     refine start_ (n := 17) (S := fun w' => w'.cell? (ad123.add ((rd t118 x9_2)).toNat) = some (.int .i64 (rd x4_1 (rd t118 x9_2))) ∧ w'.cell? (ad124.add (((rd t118 x9_2)).toNat * 2)) = some (.int .i64 ((rd_T32 l0 (rd t118 x9_2)).f0)) ∧ w'.cell? ⟨(ad124.add (((rd t118 x9_2)).toNat * 2)).block, (ad124.add (((rd t118 x9_2)).toNat * 2)).off + 1, none⟩ = some (.int .i64 ((rd_T32 l0 (rd t118 x9_2)).f1)) ∧ w'.cell? (ad124.add (((rd t118 x21_1)).toNat * 2)) = some (.int .i64 ((rd_T32 l0 (rd t118 x21_1)).f0)) ∧ w'.cell? ⟨(ad124.add (((rd t118 x21_1)).toNat * 2)).block, (ad124.add (((rd t118 x21_1)).toNat * 2)).off + 1, none⟩ = some (.int .i64 ((rd_T32 l0 (rd t118 x21_1)).f1))) (ds := []) #[fi,fi,fi,fi,fi,fi,fi,fi,fi,fi,fi,fi,fi,fi,fi,fi,fi] (by kernel_rfl) rfl rfl ⟨hx123_0, ((HB.out.cell (World.block_lt_of_cell? w _ hw124_0)).trans hw124_0), ((HB.out.cell (World.block_lt_of_cell? w _ hw124_1)).trans hw124_1), ((HB.out.cell (World.block_lt_of_cell? w _ hw125_0)).trans hw125_0), ((HB.out.cell (World.block_lt_of_cell? w _ hw125_1)).trans hw125_1)⟩ (fun hHeld => ?_); refine with_tabW spec_LeftEdge.tab13 spec_LeftEdge.bits13 (fun HT_ HW_ => ?_)
                     generalize wr.drew = w26 at HO_4 HO_5 HO_19 HB hx123_0 hx124_0 hx124_1 hx125_0 hx125_1 hHeld ⊢
                     refine py_ 0 35 HT_.out ?_
                     refine py_ 1 36 HT_.out ?_
                     refine py_ 2 37 HT_.out ?_
                     refine py_ 4 39 HT_.out ?_
                     refine take_ (i := 3) (N := some 38) (v := ?_) (a' := ?_) #[ti,ti,ti,ti,ti,fi,fi,fi,fi,fi,fi,fi,fi,fi,fi,fi,fi] rfl rfl (take_ofW HT_.out HW_.out (by kernel_rfl)) (fun _ _ _ h => h) (Or.inl ⟨by rfl, ?_⟩) hHeld ?_ ?_
                     rotate_left
                     ·rintro w' ⟨s0, s1, s2, s3, s4⟩
                      go_simp
                      with_reducible rfl
                     rotate_left
                     ·simp only [Act.put, sI, s0, sS, i64_w, i32_w]
                      rfl
                     refine py_ 5 40 HT_.out ?_
                     refine py_ 6 41 HT_.out ?_
                     refine py_ 7 42 HT_.out ?_
                     refine py_ 8 43 HT_.out ?_
                     refine py_ 9 44 HT_.out ?_
                     refine py_ 11 46 HT_.out ?_
                     refine py_ 12 47 HT_.out ?_
                     refine py_ 13 48 HT_.out ?_
                     refine take_ (i := 10) (N := some 45) (v := ?_) (a' := ?_) #[ti,ti,ti,ti,ti,ti,ti,ti,ti,ti,ti,ti,ti,ti,fi,fi,fi] rfl rfl (take_ofW HT_.out HW_.out (by kernel_rfl)) (fun _ _ _ h => h) (Or.inl ⟨by rfl, ?_⟩) hHeld ?_ ?_
                     rotate_left
                     ·rintro w' ⟨s0, s1, s2, s3, s4⟩
                      go_simp
                      with_reducible rfl
                     rotate_left
                     ·simp only [Act.put, sI, s0, sS, i64_w, i32_w]
                      rfl
                     refine take_ (i := 14) (N := some 49) (v := ?_) (a' := ?_) #[ti,ti,ti,ti,ti,ti,ti,ti,ti,ti,ti,ti,ti,ti,ti,fi,fi] rfl rfl (take_ofW HT_.out HW_.out (by kernel_rfl)) (fun _ _ _ h => h) (Or.inl ⟨by rfl, ?_⟩) hHeld ?_ ?_
                     rotate_left
                     ·rintro w' ⟨s0, s1, s2, s3, s4⟩
                      go_simp
                      with_reducible rfl
                     rotate_left
                     ·simp only [Act.put, sI, s0, sS, i64_w, i32_w]
                      rfl
                     refine one_ (i := 15) (N := some 50) #[ti,ti,ti,ti,ti,ti,ti,ti,ti,ti,ti,ti,ti,ti,ti,ti,fi] rfl rfl (one_of HT_.out (by kernel_rfl)) (by decide) (fun K hK => ?_)
                     refine goes_ Try.func114 (by kernel_rfl) rfl #[.agg #[.int .i64 ((rd_T32 l0 (rd t118 x9_2)).f0), .int .i64 ((rd_T32 l0 (rd t118 x9_2)).f1)], .agg #[.int .i64 ((rd_T32 l0 (rd t118 x21_1)).f0), .int .i64 ((rd_T32 l0 (rd t118 x21_1)).f1)]] (by rfl) rfl rfl zd_ ?_
                     with_reducible refine (spec_rtMeet.calls ((rd_T32 l0 (rd t118 x9_2)).f0) ((rd_T32 l0 (rd t118 x9_2)).f1) ((rd_T32 l0 (rd t118 x21_1)).f0) ((rd_T32 l0 (rd t118 x21_1)).f1) true _ A24.out).mono ?_
                     rintro e w28 ⟨rfl, hb⟩
                     have HS0_ := (hb.cell (World.block_lt_of_cell? _ _ (hHeld.1))).trans (hHeld.1)
                     refine ⟨_, rfl, ?_⟩
                     have n_ := z (Kd.R_below (zr HO_4.out) hb) <| z (Kd.R_below (zr HO_5.out) hb) <| z (Kd.R_below (zr HO_19.out) hb) <| z1 (below_step za_ hb)
                     clear HO_4 HO_5 HO_19 HB
                     obtain ⟨HO_4, HO_5, HO_19, HB⟩ := n_
                     (try clear hb)
                     (try clear hb2)
                     (try clear hk)
                     (try clear hi)
                     refine hK.out _ _ ⟨HS0_, ((HB.out.cell (World.block_lt_of_cell? w _ hw124_0)).trans hw124_0), ((HB.out.cell (World.block_lt_of_cell? w _ hw124_1)).trans hw124_1), ((HB.out.cell (World.block_lt_of_cell? w _ hw125_0)).trans hw125_0), ((HB.out.cell (World.block_lt_of_cell? w _ hw125_1)).trans hw125_1)⟩ (fun hHeld => ?_)
                     clear hK K
                     refine norm_ (a' := ?_) ?_ ?_
                     rotate_left
                     ·show Act.put _ (some 50) _ = _
                      simp only [Act.put, sI, s0, sS, i64_w, i32_w]
                      rfl
                     refine py_ 16 51 HT_.out ?_
                     refine done_ (done_of HT_.out (by kernel_rfl)) ?_
                     try go_wp2
                     go_roundg k2
                     case measure => have := HK1.out; have := HK2.out; omega
                     case rel => exact ⟨(wrap64 (x8_2 + 1)), ((-1) + 1), zc_, zc_, H', ⟨zbi_⟩, ⟨zr HO_4.out⟩, ⟨zr HO_5.out⟩, ⟨zr HO_19.out⟩, ⟨za_⟩⟩
                    ·replace c25 := Bool.eq_false_iff.mpr c25
                     subst c25
                     have H1 : (spec_LeftEdge.l1 k2 l0 x4_1 t118 x21_1 (rd t118 x21_1) x8_2 (wrap64 (x9_2 + 1)) t118 (t118.length : Int) x21_1) = some (r1, r2) := by rw [if_neg (show ¬ (false = true) by decide)] at H; exact H
                     clear H
                     have H := H1
                     clear H1
                     have H' := aM H
                     clear H
                     have p122 : 0 ≤ (x9_2 : Int) := of_decide_eq_true zb_
                     have q122 : x9_2 < (t118.length : Int) := of_decide_eq_true zb_
                     obtain ⟨ad122, e122, hx122_0⟩ := Kd.at_int (Kd.R_reads' HO_5.out).2.2 x9_2 p122 q122
                     obtain rfl : ad121 = ad122 := (by injection e122)
                     replace p122 := eq_true p122
                     replace q122 := eq_true q122
                     try go_wp2
                     have n_ := z (kD HO_4.out) <| z (kD HO_5.out) <| z (kD HO_19.out) <| z1 (p1 HB.out)
                     clear HO_4 HO_5 HO_19 HB
                     obtain ⟨HO_4, HO_5, HO_19, HB⟩ := n_
                     obtain ⟨Ao30, co30, eo30⟩ := Kd.R_slice HO_4.out
                     (first | subst eo30 | (injection eo30 with f1_ f2_ f3_; have f4_ := f1_.symm; have f5_ := f3_.symm; clear f1_ f2_ f3_; subst f4_; subst f5_))
                     have p123 : 0 ≤ ((rd t118 x9_2) : Int) := of_decide_eq_true zb_
                     have q123 : (rd t118 x9_2) < (x4_1.length : Int) := of_decide_eq_true zb_
                     obtain ⟨ad123, e123, hx123_0⟩ := Kd.at_int (Kd.R_reads' HO_4.out).2.2 (rd t118 x9_2) p123 q123
                     cases e123
                     replace p123 := eq_true p123
                     replace q123 := eq_true q123
                     have p124 : 0 ≤ ((rd t118 x9_2) : Int) := of_decide_eq_true zb_
                     have q124 : (rd t118 x9_2) < (l0.length : Int) := of_decide_eq_true zb_
                     obtain ⟨ad124, e124, hx124_0, hx124_1⟩ := at_T32 HR0.out (rd t118 x9_2) p124 q124
                     have hw124_1 := hx124_1
                     have hw124_0 := hx124_0
                     cases e124
                     (try (replace hx124_0 := (HB.out.cell (World.block_lt_of_cell? w _ hx124_0)).trans hx124_0))
                     (try (replace hx124_1 := (HB.out.cell (World.block_lt_of_cell? w _ hx124_1)).trans hx124_1))
                     replace p124 := eq_true p124
                     replace q124 := eq_true q124
                     have p125 : 0 ≤ ((rd t118 x21_1) : Int) := of_decide_eq_true zb_
                     have q125 : (rd t118 x21_1) < (l0.length : Int) := of_decide_eq_true zb_
                     obtain ⟨ad125, e125, hx125_0, hx125_1⟩ := at_T32 HR0.out (rd t118 x21_1) p125 q125
                     have hw125_1 := hx125_1
                     have hw125_0 := hx125_0
                     obtain rfl : ad124 = ad125 := (by injection e125)
                     (try (replace hx125_0 := (HB.out.cell (World.block_lt_of_cell? w _ hx125_0)).trans hx125_0))
                     (try (replace hx125_1 := (HB.out.cell (World.block_lt_of_cell? w _ hx125_1)).trans hx125_1))
                     replace p125 := eq_true p125
                     replace q125 := eq_true q125
                     refine start_ (n := 17) (S := fun w' => w'.cell? (ad123.add ((rd t118 x9_2)).toNat) = some (.int .i64 (rd x4_1 (rd t118 x9_2))) ∧ w'.cell? (ad124.add (((rd t118 x9_2)).toNat * 2)) = some (.int .i64 ((rd_T32 l0 (rd t118 x9_2)).f0)) ∧ w'.cell? ⟨(ad124.add (((rd t118 x9_2)).toNat * 2)).block, (ad124.add (((rd t118 x9_2)).toNat * 2)).off + 1, none⟩ = some (.int .i64 ((rd_T32 l0 (rd t118 x9_2)).f1)) ∧ w'.cell? (ad124.add (((rd t118 x21_1)).toNat * 2)) = some (.int .i64 ((rd_T32 l0 (rd t118 x21_1)).f0)) ∧ w'.cell? ⟨(ad124.add (((rd t118 x21_1)).toNat * 2)).block, (ad124.add (((rd t118 x21_1)).toNat * 2)).off + 1, none⟩ = some (.int .i64 ((rd_T32 l0 (rd t118 x21_1)).f1))) (ds := []) #[fi,fi,fi,fi,fi,fi,fi,fi,fi,fi,fi,fi,fi,fi,fi,fi,fi] (by kernel_rfl) rfl rfl ⟨hx123_0, ((HB.out.cell (World.block_lt_of_cell? w _ hw124_0)).trans hw124_0), ((HB.out.cell (World.block_lt_of_cell? w _ hw124_1)).trans hw124_1), ((HB.out.cell (World.block_lt_of_cell? w _ hw125_0)).trans hw125_0), ((HB.out.cell (World.block_lt_of_cell? w _ hw125_1)).trans hw125_1)⟩ (fun hHeld => ?_); refine with_tabW spec_LeftEdge.tab13 spec_LeftEdge.bits13 (fun HT_ HW_ => ?_)
                     generalize wr.drew = w29 at HO_4 HO_5 HO_19 HB hx123_0 hx124_0 hx124_1 hx125_0 hx125_1 hHeld ⊢
                     refine py_ 0 35 HT_.out ?_
                     refine py_ 1 36 HT_.out ?_
                     refine py_ 2 37 HT_.out ?_
                     refine py_ 4 39 HT_.out ?_
                     refine take_ (i := 3) (N := some 38) (v := ?_) (a' := ?_) #[ti,ti,ti,ti,ti,fi,fi,fi,fi,fi,fi,fi,fi,fi,fi,fi,fi] rfl rfl (take_ofW HT_.out HW_.out (by kernel_rfl)) (fun _ _ _ h => h) (Or.inl ⟨by rfl, ?_⟩) hHeld ?_ ?_
                     rotate_left
                     ·rintro w' ⟨s0, s1, s2, s3, s4⟩
                      go_simp
                      with_reducible rfl
                     rotate_left
                     ·simp only [Act.put, sI, s0, sS, i64_w, i32_w]
                      rfl
                     refine py_ 5 40 HT_.out ?_
                     refine py_ 6 41 HT_.out ?_
                     refine py_ 7 42 HT_.out ?_
                     refine py_ 8 43 HT_.out ?_
                     refine py_ 9 44 HT_.out ?_
                     refine py_ 11 46 HT_.out ?_
                     refine py_ 12 47 HT_.out ?_
                     refine py_ 13 48 HT_.out ?_
                     refine take_ (i := 10) (N := some 45) (v := ?_) (a' := ?_) #[ti,ti,ti,ti,ti,ti,ti,ti,ti,ti,ti,ti,ti,ti,fi,fi,fi] rfl rfl (take_ofW HT_.out HW_.out (by kernel_rfl)) (fun _ _ _ h => h) (Or.inl ⟨by rfl, ?_⟩) hHeld ?_ ?_
                     rotate_left
                     ·rintro w' ⟨s0, s1, s2, s3, s4⟩
                      go_simp
                      with_reducible rfl
                     rotate_left
                     ·simp only [Act.put, sI, s0, sS, i64_w, i32_w]
                      rfl
                     refine take_ (i := 14) (N := some 49) (v := ?_) (a' := ?_) #[ti,ti,ti,ti,ti,ti,ti,ti,ti,ti,ti,ti,ti,ti,ti,fi,fi] rfl rfl (take_ofW HT_.out HW_.out (by kernel_rfl)) (fun _ _ _ h => h) (Or.inl ⟨by rfl, ?_⟩) hHeld ?_ ?_
                     rotate_left
                     ·rintro w' ⟨s0, s1, s2, s3, s4⟩
                      go_simp
                      with_reducible rfl
                     rotate_left
                     ·simp only [Act.put, sI, s0, sS, i64_w, i32_w]
                      rfl
                     refine one_ (i := 15) (N := some 50) #[ti,ti,ti,ti,ti,ti,ti,ti,ti,ti,ti,ti,ti,ti,ti,ti,fi] rfl rfl (one_of HT_.out (by kernel_rfl)) (by decide) (fun K hK => ?_)
                     refine goes_ Try.func114 (by kernel_rfl) rfl #[.agg #[.int .i64 ((rd_T32 l0 (rd t118 x9_2)).f0), .int .i64 ((rd_T32 l0 (rd t118 x9_2)).f1)], .agg #[.int .i64 ((rd_T32 l0 (rd t118 x21_1)).f0), .int .i64 ((rd_T32 l0 (rd t118 x21_1)).f1)]] (by rfl) rfl rfl zd_ ?_
                     with_reducible refine (spec_rtMeet.calls ((rd_T32 l0 (rd t118 x9_2)).f0) ((rd_T32 l0 (rd t118 x9_2)).f1) ((rd_T32 l0 (rd t118 x21_1)).f0) ((rd_T32 l0 (rd t118 x21_1)).f1) false _ A24.out).mono ?_
                     rintro e w31 ⟨rfl, hb⟩
                     have HS0_ := (hb.cell (World.block_lt_of_cell? _ _ (hHeld.1))).trans (hHeld.1)
                     refine ⟨_, rfl, ?_⟩
                     have n_ := z (Kd.R_below (zr HO_4.out) hb) <| z (Kd.R_below (zr HO_5.out) hb) <| z (Kd.R_below (zr HO_19.out) hb) <| z1 (below_step za_ hb)
                     clear HO_4 HO_5 HO_19 HB
                     obtain ⟨HO_4, HO_5, HO_19, HB⟩ := n_
                     (try clear hb)
                     (try clear hb2)
                     (try clear hk)
                     (try clear hi)
                     refine hK.out _ _ ⟨HS0_, ((HB.out.cell (World.block_lt_of_cell? w _ hw124_0)).trans hw124_0), ((HB.out.cell (World.block_lt_of_cell? w _ hw124_1)).trans hw124_1), ((HB.out.cell (World.block_lt_of_cell? w _ hw125_0)).trans hw125_0), ((HB.out.cell (World.block_lt_of_cell? w _ hw125_1)).trans hw125_1)⟩ (fun hHeld => ?_)
                     clear hK K
                     refine norm_ (a' := ?_) ?_ ?_
                     rotate_left
                     ·show Act.put _ (some 50) _ = _
                      simp only [Act.put, sI, s0, sS, i64_w, i32_w]
                      rfl
                     refine py_ 16 51 HT_.out ?_
                     refine done_ (done_of HT_.out (by kernel_rfl)) ?_
                     try go_wp2
                     go_roundg k2
                     case measure => have := HK1.out; have := HK2.out; omega
                     case rel => exact ⟨(x8_2), (wrap64 (x9_2 + 1)), zc_, zc_, H', ⟨zbi_⟩, ⟨zr HO_4.out⟩, ⟨zr HO_5.out⟩, ⟨zr HO_19.out⟩, ⟨za_⟩⟩
                   ·rw [if_neg c23] at H
                    exact absurd H (by simp)
                  ·rw [if_neg c22] at H
                   exact absurd H (by simp)
                 ·rw [if_neg c21] at H
                  exact absurd H (by simp)
                ·rw [if_neg c20] at H
                 have c20b0 : ((rd x4_1 (rd t118 x9_2)) == x8_2) = false := beq_eq_false_iff_ne.mpr c20
                 have c20b1 : ((rd x4_1 (rd t118 x9_2)) != x8_2) = true := bne_iff_ne.mpr c20
                 have H' := aM H
                 clear H
                 have p122 : 0 ≤ (x9_2 : Int) := of_decide_eq_true zb_
                 have q122 : x9_2 < (t118.length : Int) := of_decide_eq_true zb_
                 obtain ⟨ad122, e122, hx122_0⟩ := Kd.at_int (Kd.R_reads' HO_5.out).2.2 x9_2 p122 q122
                 obtain rfl : ad121 = ad122 := (by injection e122)
                 replace p122 := eq_true p122
                 replace q122 := eq_true q122
                 try go_wp2
                 have n_ := z (kD HO_4.out) <| z (kD HO_5.out) <| z (kD HO_19.out) <| z1 (p1 HB.out)
                 clear HO_4 HO_5 HO_19 HB
                 obtain ⟨HO_4, HO_5, HO_19, HB⟩ := n_
                 obtain ⟨Ao33, co33, eo33⟩ := Kd.R_slice HO_4.out
                 (first | subst eo33 | (injection eo33 with f1_ f2_ f3_; have f4_ := f1_.symm; have f5_ := f3_.symm; clear f1_ f2_ f3_; subst f4_; subst f5_))
                 have p123 : 0 ≤ ((rd t118 x9_2) : Int) := of_decide_eq_true zb_
                 have q123 : (rd t118 x9_2) < (x4_1.length : Int) := of_decide_eq_true zb_
                 obtain ⟨ad123, e123, hx123_0⟩ := Kd.at_int (Kd.R_reads' HO_4.out).2.2 (rd t118 x9_2) p123 q123
                 cases e123
                 replace p123 := eq_true p123
                 replace q123 := eq_true q123
                 refine start_ (n := 17) (S := fun w' => w'.cell? (ad123.add ((rd t118 x9_2)).toNat) = some (.int .i64 (rd x4_1 (rd t118 x9_2)))) (ds := []) #[fi,fi,fi,fi,fi,fi,fi,fi,fi,fi,fi,fi,fi,fi,fi,fi,fi] (by kernel_rfl) rfl rfl (hx123_0) (fun hHeld => ?_); refine with_tabW spec_LeftEdge.tab13 spec_LeftEdge.bits13 (fun HT_ HW_ => ?_)
                 generalize wr.drew = w32 at HO_4 HO_5 HO_19 HB hx123_0 hHeld ⊢
                 refine py_ 0 35 HT_.out ?_
                 refine py_ 1 36 HT_.out ?_
                 refine py_ 2 37 HT_.out ?_
                 refine py_ 4 39 HT_.out ?_
                 refine take_ (i := 3) (N := some 38) (v := ?_) (a' := ?_) #[ti,ti,ti,ti,ti,fi,fi,fi,fi,fi,fi,fi,fi,fi,fi,fi,fi] rfl rfl (take_ofW HT_.out HW_.out (by kernel_rfl)) (fun _ _ _ h => h) (Or.inl ⟨by rfl, ?_⟩) hHeld ?_ ?_
                 rotate_left
                 ·intro w' s0
                  go_simp
                  with_reducible rfl
                 rotate_left
                 ·simp only [Act.put, sI, s0, sS, i64_w, i32_w]
                  rfl
                 refine py_ 5 40 HT_.out ?_
                 refine py_ 6 41 HT_.out ?_
                 refine pure_ (i := 7) (N := some 42) (v := undef) (a' := ?_) #[ti,ti,ti,ti,ti,ti,ti,ti,fi,fi,fi,fi,fi,fi,fi,fi,fi] rfl rfl (any_of HT_.out (by kernel_rfl)) (fun _ _ _ h => h) (Or.inr ⟨by rfl, rfl⟩) ?_ ?_
                 rotate_left
                 ·simp only [Act.put, sI, s0, sS, i64_w, i32_w]
                  rfl
                 refine pure_ (i := 8) (N := some 43) (v := undef) (a' := ?_) #[ti,ti,ti,ti,ti,ti,ti,ti,ti,fi,fi,fi,fi,fi,fi,fi,fi] rfl rfl (any_of HT_.out (by kernel_rfl)) (fun _ _ _ h => h) (Or.inr ⟨by rfl, rfl⟩) ?_ ?_
                 rotate_left
                 ·simp only [Act.put, sI, s0, sS, i64_w, i32_w]
                  rfl
                 refine pure_ (i := 9) (N := some 44) (v := undef) (a' := ?_) #[ti,ti,ti,ti,ti,ti,ti,ti,ti,ti,fi,fi,fi,fi,fi,fi,fi] rfl rfl (any_of HT_.out (by kernel_rfl)) (fun _ _ _ h => h) (Or.inr ⟨by rfl, rfl⟩) ?_ ?_
                 rotate_left
                 ·simp only [Act.put, sI, s0, sS, i64_w, i32_w]
                  rfl
                 refine pure_ (i := 10) (N := some 45) (v := undef) (a' := ?_) #[ti,ti,ti,ti,ti,ti,ti,ti,ti,ti,ti,fi,fi,fi,fi,fi,fi] rfl rfl (any_of HT_.out (by kernel_rfl)) (fun _ _ _ h => h) (Or.inr ⟨by rfl, rfl⟩) ?_ ?_
                 rotate_left
                 ·simp only [Act.put, sI, s0, sS, i64_w, i32_w]
                  rfl
                 refine pure_ (i := 11) (N := some 46) (v := undef) (a' := ?_) #[ti,ti,ti,ti,ti,ti,ti,ti,ti,ti,ti,ti,fi,fi,fi,fi,fi] rfl rfl (any_of HT_.out (by kernel_rfl)) (fun _ _ _ h => h) (Or.inr ⟨by rfl, rfl⟩) ?_ ?_
                 rotate_left
                 ·simp only [Act.put, sI, s0, sS, i64_w, i32_w]
                  rfl
                 refine pure_ (i := 12) (N := some 47) (v := undef) (a' := ?_) #[ti,ti,ti,ti,ti,ti,ti,ti,ti,ti,ti,ti,ti,fi,fi,fi,fi] rfl rfl (any_of HT_.out (by kernel_rfl)) (fun _ _ _ h => h) (Or.inr ⟨by rfl, rfl⟩) ?_ ?_
                 rotate_left
                 ·simp only [Act.put, sI, s0, sS, i64_w, i32_w]
                  rfl
                 refine pure_ (i := 13) (N := some 48) (v := undef) (a' := ?_) #[ti,ti,ti,ti,ti,ti,ti,ti,ti,ti,ti,ti,ti,ti,fi,fi,fi] rfl rfl (any_of HT_.out (by kernel_rfl)) (fun _ _ _ h => h) (Or.inr ⟨by rfl, rfl⟩) ?_ ?_
                 rotate_left
                 ·simp only [Act.put, sI, s0, sS, i64_w, i32_w]
                  rfl
                 refine pure_ (i := 14) (N := some 49) (v := undef) (a' := ?_) #[ti,ti,ti,ti,ti,ti,ti,ti,ti,ti,ti,ti,ti,ti,ti,fi,fi] rfl rfl (any_of HT_.out (by kernel_rfl)) (fun _ _ _ h => h) (Or.inr ⟨by rfl, rfl⟩) ?_ ?_
                 rotate_left
                 ·simp only [Act.put, sI, s0, sS, i64_w, i32_w]
                  rfl
                 refine pure_ (i := 15) (N := some 50) (v := undef) (a' := ?_) #[ti,ti,ti,ti,ti,ti,ti,ti,ti,ti,ti,ti,ti,ti,ti,ti,fi] rfl rfl (any_of HT_.out (by kernel_rfl)) (fun _ _ _ h => h) (Or.inr ⟨by rfl, rfl⟩) ?_ ?_
                 rotate_left
                 ·simp only [Act.put, sI, s0, sS, i64_w, i32_w]
                  rfl
                 refine py_ 16 51 HT_.out ?_
                 refine done_ (done_of HT_.out (by kernel_rfl)) ?_
                 try go_wp2
                 go_roundg k2
                 case measure => have := HK1.out; have := HK2.out; omega
                 case rel => exact ⟨(x8_2), (wrap64 (x9_2 + 1)), zc_, zc_, H', ⟨zbi_⟩, ⟨zr HO_4.out⟩, ⟨zr HO_5.out⟩, ⟨zr HO_19.out⟩, ⟨za_⟩⟩
               ·rw [if_neg c19] at H
                exact absurd H (by simp)
              ·rw [if_neg c18] at H
               exact absurd H (by simp)
             ·rw [if_neg c17] at H
              exact absurd H (by simp)
            ·rw [if_neg c16] at H
             exact absurd H (by simp)
           ·rw [if_neg c15] at H
            have c15b0 : decide (x9_2 < x21_1) = false := decide_eq_false c15
            clear c15
            by_cases c34 : 0 ≤ (rd t118 x21_1)
            ·rw [if_pos c34] at H
             have c34b0 : decide (0 ≤ (rd t118 x21_1)) = true := decide_eq_true c34
             clear c34
             by_cases c35 : (rd t118 x21_1) < (x4_1.length : Int)
             ·rw [if_pos c35] at H
              have c35b0 : decide ((rd t118 x21_1) < (x4_1.length : Int)) = true := decide_eq_true c35
              clear c35
              obtain ⟨y127, hy127⟩ : ∃ y_ : List Int, y_ = (x4_1.set ((rd t118 x21_1) : Int).toNat x8_2) := ⟨_, rfl⟩
              replace H : (spec_LeftEdge.l0 k2 l0 y127 t118 t118 (t118.length : Int) (wrap64 (x21_1 + 1))) = some (r1, r2) := by first | (rw [hy127]; with_reducible exact H) | (have H2_ := (oS _ _).symm.trans H; rw [hy127]; with_reducible exact H2_) | (have H2_ := (oS _ _).symm.trans H; with_reducible exact H2_) | with_reducible exact H | (rw [hy127]; exact H) | exact H
              have Ny127 := aM hy127
              clear hy127
              have H' := aM H
              clear H
              have p36 : 0 ≤ ((rd t118 x21_1) : Int) := of_decide_eq_true zb_
              have q36 : ((rd t118 x21_1) : Int) < ((x4_1.length : Int) : Int) := of_decide_eq_true zb_
              obtain ⟨go36, co36, eo36, gb36, gl36, cl36, HG36⟩ := Kd.R_form HO_4.out (by omega)
              (first | cases eo36 | (injection eo36 with ea_ en_ ec_; (first | subst ea_ | (injection ea_ with ea_; subst ea_)); subst ec_; clear en_))
              have GB36 := aM gb36
              have GG36 := aM HG36
              clear gb36 gl36 HG36
              obtain ⟨hx36_0, hf36_0⟩ := Kd.R_celln 0 HO_4.out ((rd t118 x21_1) : Int) p36 q36
              replace p36 := eq_true p36
              replace q36 := eq_true q36
              have HP37 := Kd.R_putg HO_4.out ((rd t118 x21_1) : Int) x8_2
              go_wp2_with (first | ((with_reducible refine gate_store (t := 3) (p := 57) rfl ?_); refine store_event (t := 3) (p := 57) (v := ?vo_w38) (w1 := (wr.setCell ⟨go36, ((rd t118 x21_1) : Int).toNat, none⟩ (.int .i64 x8_2))) ?hg ?ho ?hn ?hr ?_; (case ho => rfl); (case hg => rfl); (case hn => rfl); (case hr => exact zf_); intro w38 hw; have hg : wr.grownBy w38 (some go36) := (by rw [hw]; exact HP37.2); have hp_ : Kd.R (Kd.int .i64) 3 w38 w.heap.size (fun k_ => some k_ ≠ (.slice (some ad121) t118.length co11 : Value).ownBlock ∧ some k_ ≠ (.slice (some ad121) t118.length co11 : Value).ownBlock) (.slice (some ⟨go36, 0, none⟩) x4_1.length co36) y127 := (by rw [hw, Ny127.out]; exact HP37.1); clear HP37; have n_ := z (hp_) <| z (Kd.R_after (v := (.slice (some ⟨go36, 0, none⟩) x4_1.length co36)) (v1 := (.slice (some ⟨go36, 0, none⟩) x4_1.length co36)) (ok := (fun _ => True)) (by refine zr ?_; exact Kd.R_mono HO_5.out (fun _ hk => ⟨trivial, hk⟩)) hg (.inl rfl)) <| z (Kd.R_after (v := (.slice (some ⟨go36, 0, none⟩) x4_1.length co36)) (v1 := (.slice (some ⟨go36, 0, none⟩) x4_1.length co36)) (ok := (fun _ => True)) (by refine zr ?_; exact Kd.R_mono HO_19.out (fun _ hk => ⟨trivial, hk⟩)) hg (.inl rfl)) <| z1 ((by rw [hw]; exact below_set (HB.out) GB36.out : Below w.heap.size w w38)); clear HO_4 HO_5 HO_19 HB; obtain ⟨HO_4, HO_5, HO_19, HB⟩ := n_; clear hg hw hp_))
              go_roundg k2
              case measure => have := HK1.out; have := HK2.out; omega
              case rel => exact ⟨(y127), (wrap64 (x21_1 + 1)), zc_, H', ⟨zbi_⟩, ⟨zr HO_4.out⟩, ⟨by refine zr ?_; exact Kd.R_mono HO_5.out (fun _ hk => hk.2)⟩, ⟨by refine zr ?_; exact Kd.R_mono HO_19.out (fun _ hk => hk.2)⟩, ⟨za_⟩⟩
             ·rw [if_neg c35] at H
              exact absurd H (by simp)
            ·rw [if_neg c34] at H
             exact absurd H (by simp)
        ·rw [if_neg c14] at H
         exact absurd H (by simp)
       ·rw [if_neg c13] at H
        exact absurd H (by simp)
      ·rw [if_neg c12] at H
       have c12b0 : decide (x21_1 < (t118.length : Int)) = false := decide_eq_false c12
       clear c12
       simp only [Option.some.injEq, Prod.mk.injEq] at H
       obtain ⟨rfl, rfl⟩ := H
       go_wp2
       go_ret2
       exact ⟨_, zg_, by refine zr ?_; exact Kd.R_mono HO_4.out (fun _ hk => trivial), za_⟩
   ·rw [if_neg c5] at H
    exact absurd H (by simp)
  ·rw [if_neg c4] at H
   exact absurd H (by simp)
 ·replace c3 := Bool.eq_false_iff.mpr c3
  subst c3
  have H1 : (some (([] : List Int), false)) = some (r1, r2) := by rw [if_neg (show ¬ (false = true) by decide)] at H; exact H
  clear H
  have H := H1
  clear H1
  simp only [Option.some.injEq, Prod.mk.injEq] at H
  obtain ⟨rfl, rfl⟩ := H
  go_enter Try.func76, Try.ntmps76
  go_wp2_with (first | ((with_reducible refine gate_callee (f := 162) rfl ?_); refine goesL_ (some 12) rfl rfl Try.func162 (by kernel_rfl) rfl #[.slice A0 l0.length c0] rfl zd_ ?_; (with_reducible refine (spec_rtGood.calls k _ _ l0 false _ ?side1 ?side2 A2.out).mono ?_); (case side1 => exact zbh_); (case side2 => exact HC0.out); rintro e w39 ⟨rfl, hb⟩; refine ⟨_, rfl, ?_⟩; have n0_ := aM (below_step za_ hb); clear HB; have HB := n0_; clear n0_; (try clear hb)))
  go_ret2
  exact ⟨_, zg_, zch_, za_⟩
end Go.Proofs.Ytbkighlfgaifeaa.QFnTracks
