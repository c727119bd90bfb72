/- Functions of FnLevels, each as a Lean function, with the proof that the Go code comes to its answers. -/
import Derived.Test.YtlnhpkjioppbiaaSFnLevelsx1
import Derived.Test.YtlnhpkjioppbiaaSFnLevelsx15
import Derived.Test.YtlnhpkjioppbiaaSFnLevelsx19
namespace Go.Proofs.Ytlnhpkjioppbiaa.QFnLevels
open Go.RowKit Go.Proofs.YtlnhpkjioppbiaaW.PrintWords Go.Proofs.YtlnhpkjioppbiaaW.PrintLast Go.Proofs.YtlnhpkjioppbiaaW.PrintMore
open Go.Proofs.YtlnhpkjioppbiaaW.PrintWords renaming pw_below_drewN → pN, below_drew1 → p1, below_alloc → pA
open Go.Proofs.YtlnhpkjioppbiaaW.PrintWords.Kd renaming R_alloc → kA, R_drewN → kN, R_drew → kD, Q_alloc → qA, Q_drewN → qN, Q_drew → qD, C_alloc → cA, C_drewN → cN, C_drew → cD
open Go.Proofs.YtlnhpkjioppbiaaW.PrintWords.Aside0 renaming mk → aM
open List renaming setIfInBounds_toArray → sI, set_cons_zero → s0, set_cons_succ → sS, map_toArray → mT, length_take → lT, length_drop → lD, map_cons → mC, map_nil → mN
open Option renaming bind_eq_some_iff → oB, bind_some → oS
attribute [local go_sem] max2_int min2_int max_two min_two max_three min_three max_four min_four
set_option maxHeartbeats 8000000
set_option maxRecDepth 100000
set_option linter.unusedVariables false
set_option linter.unusedSimpArgs false
open Option renaming bind_some → oS
mutual
def spec_SwappedOrder.l0 : Nat → Int → List (List Int) → List Int → Int → Option (List Int × Bool)
 | 0, _, _, _, _ => none
 | k + 1, x1, x6, x7, x8 => if x8 < x1 then (if x7.length < 17592186044416 then (spec_SwappedOrder.l0 k x1 x6 (x7 ++ [x8]) (wrap64 (x8 + 1))) else (none)) else (spec_SwappedOrder.l1 k x1 x6 x7 true)
def spec_SwappedOrder.l1 : Nat → Int → List (List Int) → List Int → Bool → Option (List Int × Bool)
 | 0, _, _, _, _ => none
 | k + 1, x1, x6, x7, x9 => if x9 = true then (spec_SwappedOrder.l2 k x1 x6 x7 false 1) else ((spec_plOrder.f k x7).bind fun t387 => (some (t387, true)))
def spec_SwappedOrder.l2 : Nat → Int → List (List Int) → List Int → Bool → Int → Option (List Int × Bool)
 | 0, _, _, _, _, _ => none
 | k + 1, x1, x6, x7, x9, x10 => if x10 < x1 then (if 0 ≤ (wrap64 (x10 - 1)) then (if (wrap64 (x10 - 1)) < (x7.length : Int) then (if 0 ≤ x10 then (if x10 < (x7.length : Int) then (if 0 ≤ (rd x7 x10) then (if (rd x7 x10) < (x6.length : Int) then (if 0 ≤ (rd x7 (wrap64 (x10 - 1))) then (if (rd x7 (wrap64 (x10 - 1))) < ((rd_L4 x6 (rd x7 x10)).length : Int) then (if (rd x7 (wrap64 (x10 - 1))) < (x6.length : Int) then (if (rd x7 x10) < ((rd_L4 x6 (rd x7 (wrap64 (x10 - 1)))).length : Int) then (if (rd (rd_L4 x6 (rd x7 x10)) (rd x7 (wrap64 (x10 - 1)))) < (rd (rd_L4 x6 (rd x7 (wrap64 (x10 - 1)))) (rd x7 x10)) then (spec_SwappedOrder.l2 k x1 x6 ((x7.set ((wrap64 (x10 - 1)) : Int).toNat (rd x7 x10)).set (x10 : Int).toNat (rd x7 (wrap64 (x10 - 1)))) true (wrap64 (x10 + 1))) else (spec_SwappedOrder.l2 k x1 x6 x7 x9 (wrap64 (x10 + 1)))) else (none)) else (none)) else (none)) else (none)) else (none)) else (none)) else (none)) else (none)) else (none)) else (none)) else (spec_SwappedOrder.l1 k x1 x6 x7 x9)
end
def spec_SwappedOrder.f (k : Nat) (l0 : List (List Int)) (a1 : Int) : Option (List Int × Bool) := (spec_plWires.f k l0 a1).bind fun t380 => (if t380 = true then ((spec_plTable.f k l0 a1).bind fun t381 => (spec_SwappedOrder.l0 k a1 t381 ([] : List Int) 0)) else (some (([] : List Int), false)))
theorem spec_SwappedOrder.calls (k : Nat) (A0 : Option Addr) (c0 : Nat) (l0 : List (List Int)) (a1 : Int) (r1 : List Int) (r2 : Bool) (w : World) (hr0 : Kd.C (Kd.slice 3 (Kd.int .i64)) w A0 l0.length l0) (hc0 : l0.length ≤ c0) (h : spec_SwappedOrder.f k l0 a1 = some (r1, r2)) :
  Calls Try.prog 45 #[.slice A0 l0.length c0, .int .i64 a1] w fun e w' => ∃ v0_ : Value, e = .returned (.tuple #[v0_, .bool r2]) ∧ Kd.R (Kd.int .i64) 3 w' w.heap.size (fun _ => True) v0_ r1 ∧ Below w.heap.size w w' := by
 have HR0 := aM hr0
 have HC0 := aM hc0
 clear hr0 hc0
 have HB := aM (Below.refl w.heap.size w)
 have H : ((spec_plWires.f k l0 a1).bind fun t380 => (if t380 = true then ((spec_plTable.f k l0 a1).bind fun t381 => (spec_SwappedOrder.l0 k a1 t381 ([] : List Int) 0)) else (some (([] : List Int), false)))) = some (r1, r2) := h
 clear h
 replace H := oB.mp H
 obtain ⟨t380, A30, H⟩ := H
 replace H : (if t380 = true then ((spec_plTable.f k l0 a1).bind fun t381 => (spec_SwappedOrder.l0 k a1 t381 ([] : List Int) 0)) else (some (([] : List Int), false))) = some (r1, r2) := H
 have A3 := aM A30
 clear A30
 by_cases c4 : t380 = true
 ·subst c4
  have H1 : ((spec_plTable.f k l0 a1).bind fun t381 => (spec_SwappedOrder.l0 k a1 t381 ([] : List Int) 0)) = some (r1, r2) := by rw [if_pos rfl] at H; exact H
  clear H; have H := H1; clear H1; replace H := oB.mp H; obtain ⟨t381, A50, H⟩ := H; replace H : (spec_SwappedOrder.l0 k a1 t381 ([] : List Int) 0) = some (r1, r2) := H; have A5 := aM A50; clear A50; have H' := aM H; clear H
  go_enter Try.func45, Try.ntmps45
  go_wp2_with (first | (go_at_call 91; (with_reducible refine (spec_plWires.calls k _ _ l0 a1 true _ ?side1 ?side2 A3.out).mono ?_); (case side1 => exact zi_); (case side2 => exact HC0.out); rintro e w' ⟨rfl, ⟨nd, rfl⟩⟩; (try exact q3d_)) | (go_at_call 92; (with_reducible refine (spec_plTable.calls k _ _ l0 a1 t381 _ ?side1 ?side2 A5.out).mono ?_); (case side1 => exact zi_); (case side2 => exact HC0.out); rintro e w6 ⟨v382, rfl, ho0, hb⟩; have n_ := z (Kd.S_lower ho0 (below_size zb_)) <| z1 (below_step zb_ hb); clear HB; obtain ⟨HO383, HB⟩ := n_; clear hb; (try clear ho0)))
  repeat (go_quiet (first | (go_at_call 91; (with_reducible refine (spec_plWires.calls k _ _ l0 a1 true _ ?side1 ?side2 A3.out).mono ?_); (case side1 => exact zi_); (case side2 => exact HC0.out); rintro e w' ⟨rfl, ⟨nd, rfl⟩⟩; (try exact q3d_)) | (go_at_call 92; (with_reducible refine (spec_plTable.calls k _ _ l0 a1 t381 _ ?side1 ?side2 A5.out).mono ?_); (case side1 => exact zi_); (case side2 => exact HC0.out); rintro e w6 ⟨v382, rfl, ho0, hb⟩; have n_ := z (Kd.S_lower ho0 (below_size zb_)) <| z1 (below_step zb_ hb); clear HB; obtain ⟨HO383, HB⟩ := n_; clear hb; (try clear ho0))); try go_wp2_with (first | (go_at_call 91; (with_reducible refine (spec_plWires.calls k _ _ l0 a1 true _ ?side1 ?side2 A3.out).mono ?_); (case side1 => exact zi_); (case side2 => exact HC0.out); rintro e w' ⟨rfl, ⟨nd, rfl⟩⟩; (try exact q3d_)) | (go_at_call 92; (with_reducible refine (spec_plTable.calls k _ _ l0 a1 t381 _ ?side1 ?side2 A5.out).mono ?_); (case side1 => exact zi_); (case side2 => exact HC0.out); rintro e w6 ⟨v382, rfl, ho0, hb⟩; have n_ := z (Kd.S_lower ho0 (below_size zb_)) <| z1 (below_step zb_ hb); clear HB; obtain ⟨HO383, HB⟩ := n_; clear hb; (try clear ho0))))
  go_loopg [7, 8] k (fun kq v7 v8 w' => ∃ (x7_1 : List Int) (x8_1 : Int), v8 = .int .i64 x8_1 ∧ Aside0 (spec_SwappedOrder.l0 kq a1 t381 x7_1 x8_1 = some (r1, r2)) ∧ Aside0 (kq ≤ k) ∧ Aside0 (Kd.S (Kd.slice 3 (Kd.int .i64)) 39 w' w.heap.size (fun k_ => some k_ ≠ (v7 : Value).ownBlock) v382 t381) ∧ Aside0 (Kd.R (Kd.int .i64) 3 w' w.heap.size (fun _ => True) v7 x7_1) ∧ Aside0 (Below w.heap.size w w'))
  case atStart => exact ⟨(([] : List Int)), (0), zc_, H', ⟨Nat.le_refl _⟩, ⟨by refine zs ?_; exact Kd.S_mono HO383.out (fun _ hk => (by simp [Value.ownBlock]))⟩, ⟨zed_⟩, ⟨zb_⟩⟩
  case round =>
   clear H'; obtain ⟨x7_1, x8_1, rfl, HA, HK1, HO_6, HO_7, HB⟩ := hrel
   cases gk with
   | zero => exact absurd HA.out (by simp [spec_SwappedOrder.l0])
   | succ k1 =>
    have H := HA.out; clear HA
    simp only [spec_SwappedOrder.l0] at H
    by_cases c7 : x8_1 < a1
    ·rw [if_pos c7] at H
     have c7b0 := decide_eq_true c7; clear c7
     by_cases c8 : x7_1.length < 17592186044416
     ·rw [if_pos c8] at H
      have LMc8 := aM c8; clear c8; obtain ⟨y384, hy384⟩ : ∃ y_ : List Int, y_ = (x7_1 ++ [x8_1]) := ⟨_, rfl⟩; replace H : (spec_SwappedOrder.l0 k1 a1 t381 y384 (wrap64 (x8_1 + 1))) = some (r1, r2) := q3y_ hy384 H
      have Ny384 := aM hy384; clear hy384; have H' := aM H; clear H
      go_wp2_with (first | ((with_reducible refine gate_builtin (b := .append) (xs := #[.tmp 25, .tmp 27]) rfl ?_); at_builtin; refine Kd.R_append (Kd.int .i64) (w0 := w) w.heap.size rfl (.tmp 25) (.tmp 27) 39 3 (.int .i64 0) 8 rfl Try.underlying39 info3 rfl (by decide) (by omega) u7 x7_1 x8_1 [.int .i64 x8_1] (fun _ => True) (fun _ => False) rfl rfl ?aP (fun _ hk => hk.elim) ?aF ?aO ?aB ?aS ?aL ?_; (case aP => exact rfl); (case aB => exact zde_); (case aF => exact zcd_); (case aO => exact (zr HO_7.out)); (case aS => exact zdf_); (case aL => have := LMc8.out; omega); intro v385 w9 ho hb hg hat; rw [← Ny384.out] at ho; have n_ := z (Kd.S_after (ok := (fun _ => True)) zcj_ hg hat) <| z (hb) <| z1 (ho); clear HO_6 HB HO_7; obtain ⟨HO_6, HB, HO386⟩ := n_; clear ho hb hg hat))
      repeat (go_quiet (first | ((with_reducible refine gate_builtin (b := .append) (xs := #[.tmp 25, .tmp 27]) rfl ?_); at_builtin; refine Kd.R_append (Kd.int .i64) (w0 := w) w.heap.size rfl (.tmp 25) (.tmp 27) 39 3 (.int .i64 0) 8 rfl Try.underlying39 info3 rfl (by decide) (by omega) u7 x7_1 x8_1 [.int .i64 x8_1] (fun _ => True) (fun _ => False) rfl rfl ?aP (fun _ hk => hk.elim) ?aF ?aO ?aB ?aS ?aL ?_; (case aP => exact rfl); (case aB => exact zde_); (case aF => exact zcd_); (case aO => exact (zr HO_7.out)); (case aS => exact zdf_); (case aL => have := LMc8.out; omega); intro v385 w9 ho hb hg hat; rw [← Ny384.out] at ho; have n_ := z (Kd.S_after (ok := (fun _ => True)) zcj_ hg hat) <| z (hb) <| z1 (ho); clear HO_6 HB HO_7; obtain ⟨HO_6, HB, HO386⟩ := n_; clear ho hb hg hat)); try go_wp2_with (first | ((with_reducible refine gate_builtin (b := .append) (xs := #[.tmp 25, .tmp 27]) rfl ?_); at_builtin; refine Kd.R_append (Kd.int .i64) (w0 := w) w.heap.size rfl (.tmp 25) (.tmp 27) 39 3 (.int .i64 0) 8 rfl Try.underlying39 info3 rfl (by decide) (by omega) u7 x7_1 x8_1 [.int .i64 x8_1] (fun _ => True) (fun _ => False) rfl rfl ?aP (fun _ hk => hk.elim) ?aF ?aO ?aB ?aS ?aL ?_; (case aP => exact rfl); (case aB => exact zde_); (case aF => exact zcd_); (case aO => exact (zr HO_7.out)); (case aS => exact zdf_); (case aL => have := LMc8.out; omega); intro v385 w9 ho hb hg hat; rw [← Ny384.out] at ho; have n_ := z (Kd.S_after (ok := (fun _ => True)) zcj_ hg hat) <| z (hb) <| z1 (ho); clear HO_6 HB HO_7; obtain ⟨HO_6, HB, HO386⟩ := n_; clear ho hb hg hat)))
      go_roundg k1
      case measure => have := HK1.out; omega
      case rel => exact ⟨(y384), (wrap64 (x8_1 + 1)), zc_, H', ⟨zbe_⟩, ⟨zga_⟩, ⟨zr HO386.out⟩, ⟨zb_⟩⟩
     ·rw [if_neg c8] at H
      exact q3n_ H
    ·rw [if_neg c7] at H
     have c7b0 := decide_eq_false c7; clear c7; have H' := aM H; clear H
     go_wp2
     repeat (go_quiet (fail); try go_wp2)
     go_loopg [9] k1 (fun kq v9 w' => ∃ (x7_2 : List Int) (x9_2 : Bool), v9 = .bool x9_2 ∧ Aside0 (spec_SwappedOrder.l1 kq a1 t381 x7_2 x9_2 = some (r1, r2)) ∧ Aside0 (kq ≤ k1) ∧ Aside0 (Kd.S (Kd.slice 3 (Kd.int .i64)) 39 w' w.heap.size (fun k_ => some k_ ≠ (u7 : Value).ownBlock) v382 t381) ∧ Aside0 (Kd.R (Kd.int .i64) 3 w' w.heap.size (fun _ => True) u7 x7_2) ∧ Aside0 (Below w.heap.size w w'))
     case atStart => exact ⟨(x7_1), (true), zc_, H', ⟨Nat.le_refl _⟩, ⟨zs HO_6.out⟩, ⟨zr HO_7.out⟩, ⟨zb_⟩⟩
     case round =>
      clear H'; (try clear c7b0); obtain ⟨x7_2, x9_2, rfl, HA, HK2, HO_6, HO_7, HB⟩ := hrel
      cases gk with
      | zero => exact absurd HA.out (by simp [spec_SwappedOrder.l1])
      | succ k2 =>
       have H := HA.out; clear HA
       simp only [spec_SwappedOrder.l1] at H
       by_cases c10 : x9_2 = true
       ·subst c10
        have H1 : (spec_SwappedOrder.l2 k2 a1 t381 x7_2 false 1) = some (r1, r2) := by rw [if_pos rfl] at H; exact H
        clear H; have H := H1; clear H1; have H' := aM H; clear H
        go_wp2
        repeat (go_quiet (fail); try go_wp2)
        go_loopg [9, 10] k2 (fun kq v9 v10 w' => ∃ (x7_3 : List Int) (x9_3 : Bool) (x10_3 : Int), v9 = .bool x9_3 ∧ v10 = .int .i64 x10_3 ∧ Aside0 (spec_SwappedOrder.l2 kq a1 t381 x7_3 x9_3 x10_3 = some (r1, r2)) ∧ Aside0 (kq ≤ k2) ∧ Aside0 (Kd.S (Kd.slice 3 (Kd.int .i64)) 39 w' w.heap.size (fun k_ => some k_ ≠ (u7 : Value).ownBlock) v382 t381) ∧ Aside0 (Kd.R (Kd.int .i64) 3 w' w.heap.size (fun _ => True) u7 x7_3) ∧ Aside0 (Below w.heap.size w w'))
        case atStart => exact ⟨(x7_2), (false), (1), zc_, zc_, H', ⟨Nat.le_refl _⟩, ⟨zs HO_6.out⟩, ⟨zr HO_7.out⟩, ⟨zb_⟩⟩
        case round =>
         clear H'; obtain ⟨x7_3, x9_3, x10_3, rfl, rfl, HA, HK3, HO_6, HO_7, HB⟩ := hrel
         cases gk with
         | zero => exact absurd HA.out (by simp [spec_SwappedOrder.l2])
         | succ k3 =>
          have H := HA.out; clear HA
          simp only [spec_SwappedOrder.l2] at H
          by_cases c11 : x10_3 < a1
          ·rw [if_pos c11] at H
           have c11b0 := decide_eq_true c11; clear c11; obtain ⟨ji12, hji12⟩ : ∃ j_ : Int, (wrap64 (x10_3 - 1)) = j_ := ⟨_, rfl⟩; replace H : (if 0 ≤ (ji12) then (if (ji12) < (x7_3.length : Int) then (if 0 ≤ x10_3 then (if x10_3 < (x7_3.length : Int) then (if 0 ≤ (rd x7_3 x10_3) then (if (rd x7_3 x10_3) < (t381.length : Int) then (if 0 ≤ (rd x7_3 (ji12)) then (if (rd x7_3 (ji12)) < ((rd_L4 t381 (rd x7_3 x10_3)).length : Int) then (if (rd x7_3 (ji12)) < (t381.length : Int) then (if (rd x7_3 x10_3) < ((rd_L4 t381 (rd x7_3 (ji12))).length : Int) then (if (rd (rd_L4 t381 (rd x7_3 x10_3)) (rd x7_3 (ji12))) < (rd (rd_L4 t381 (rd x7_3 (ji12))) (rd x7_3 x10_3)) then (spec_SwappedOrder.l2 k3 a1 t381 ((x7_3.set ((ji12) : Int).toNat (rd x7_3 x10_3)).set (x10_3 : Int).toNat (rd x7_3 (ji12))) true (wrap64 (x10_3 + 1))) else (spec_SwappedOrder.l2 k3 a1 t381 x7_3 x9_3 (wrap64 (x10_3 + 1)))) else (none)) else (none)) else (none)) else (none)) else (none)) else (none)) else (none)) else (none)) else (none)) else (none)) = some (r1, r2) := by first | (rw [hji12] at H; exact H) | (simp only [hji12] at H ⊢; exact H)
           have hji12w : (IntKind.i64.wrap (x10_3 - 1)) = ji12 := (i64_w _).trans hji12
           by_cases c13 : 0 ≤ (ji12)
           ·rw [if_pos c13] at H
            have c13b0 := decide_eq_true c13; clear c13
            by_cases c14 : (ji12) < (x7_3.length : Int)
            ·rw [if_pos c14] at H
             have c14b0 := decide_eq_true c14; clear c14
             by_cases c15 : 0 ≤ x10_3
             ·rw [if_pos c15] at H
              have c15b0 := decide_eq_true c15; clear c15
              by_cases c16 : x10_3 < (x7_3.length : Int)
              ·rw [if_pos c16] at H
               have c16b0 := decide_eq_true c16; clear c16
               by_cases c17 : 0 ≤ (rd x7_3 x10_3)
               ·rw [if_pos c17] at H
                have c17b0 := decide_eq_true c17; clear c17
                by_cases c18 : (rd x7_3 x10_3) < (t381.length : Int)
                ·rw [if_pos c18] at H
                 have c18b0 := decide_eq_true c18; clear c18
                 by_cases c19 : 0 ≤ (rd x7_3 (ji12))
                 ·rw [if_pos c19] at H
                  have c19b0 := decide_eq_true c19; clear c19
                  by_cases c20 : (rd x7_3 (ji12)) < ((rd_L4 t381 (rd x7_3 x10_3)).length : Int)
                  ·rw [if_pos c20] at H
                   have c20b0 := decide_eq_true c20; clear c20
                   by_cases c21 : (rd x7_3 (ji12)) < (t381.length : Int)
                   ·rw [if_pos c21] at H
                    have c21b0 := decide_eq_true c21; clear c21
                    by_cases c22 : (rd x7_3 x10_3) < ((rd_L4 t381 (rd x7_3 (ji12))).length : Int)
                    ·rw [if_pos c22] at H
                     have c22b0 := decide_eq_true c22; clear c22
                     by_cases c23 : (rd (rd_L4 t381 (rd x7_3 x10_3)) (rd x7_3 (ji12))) < (rd (rd_L4 t381 (rd x7_3 (ji12))) (rd x7_3 x10_3))
                     ·rw [if_pos c23] at H
                      have c23b0 := decide_eq_true c23; clear c23; obtain ⟨y396, hy396⟩ : ∃ y_ : List Int, y_ = (x7_3.set ((ji12) : Int).toNat (rd x7_3 x10_3)) := ⟨_, rfl⟩; replace H : (spec_SwappedOrder.l2 k3 a1 t381 (y396.set (x10_3 : Int).toNat (rd x7_3 (ji12))) true (wrap64 (x10_3 + 1))) = some (r1, r2) := q3y_ hy396 H
                      have Ny396 := aM hy396; clear hy396; obtain ⟨y397, hy397⟩ : ∃ y_ : List Int, y_ = (y396.set (x10_3 : Int).toNat (rd x7_3 (ji12))) := ⟨_, rfl⟩; replace H : (spec_SwappedOrder.l2 k3 a1 t381 y397 true (wrap64 (x10_3 + 1))) = some (r1, r2) := q3y_ hy397 H
                      have Ny397 := aM hy397; clear hy397; have H' := aM H; clear H; obtain ⟨Ao26, co26, eo26⟩ := Kd.R_slice HO_7.out; subst eo26; have p390 : 0 ≤ ((ji12) : Int) := of_decide_eq_true za_; have q390 : (ji12) < (x7_3.length : Int) := of_decide_eq_true za_; obtain ⟨ad390, e390, hx390_0⟩ := Kd.at_int (Kd.R_reads' HO_7.out).2.2 (ji12) p390 q390
                      cases e390
                      replace p390 := eq_true p390; replace q390 := eq_true q390; have p391 : 0 ≤ (x10_3 : Int) := of_decide_eq_true za_; have q391 : x10_3 < (x7_3.length : Int) := of_decide_eq_true za_; obtain ⟨ad391, e391, hx391_0⟩ := Kd.at_int (Kd.R_reads' HO_7.out).2.2 x10_3 p391 q391; obtain rfl : ad390 = ad391 := (by injection e391); replace p391 := eq_true p391; replace q391 := eq_true q391; obtain ⟨Ao27, co27, eo27⟩ := Kd.S_slice HO_6.out; subst eo27; have p392 : 0 ≤ ((rd x7_3 x10_3) : Int) := of_decide_eq_true za_; have q392 : (rd x7_3 x10_3) < (t381.length : Int) := of_decide_eq_true za_; obtain ⟨ad392, A392_0, c392_0, e392, hx392_0, hl392_0, hi392_0⟩ := at_L4 (Kd.S_reads' HO_6.out).2.2 (rd x7_3 x10_3) p392 q392
                      cases e392
                      obtain ⟨ce392, hce392, hMe392, hcc392⟩ := Kd.S_get HO_6.out [] (rd x7_3 x10_3) p392 (by first | exact q392 | exact of_decide_eq_true za_ | (have e_ := (Kd.S_reads' HO_6.out).1; omega)); obtain ⟨ve392_0, rfl, ge392_0⟩ := hMe392; have hv392_0 := hcc392 0 _ rfl; rw [Nat.add_zero, show ((Kd.slice 3 (Kd.int .i64))).sz = 1 from rfl, Nat.mul_one] at hv392_0; replace hv392_0 := Option.some.inj (hv392_0.symm.trans hx392_0); rw [hv392_0] at ge392_0; have HL392_0 := aM (show Kd.R (Kd.int .i64) 3 _ _ _ _ (rd_L4 t381 (rd x7_3 x10_3)) from ge392_0); clear hv392_0 ge392_0 hcc392 hce392; have HR392_0 := aM hi392_0; have HC392_0 := aM hl392_0; clear hi392_0 hl392_0; replace p392 := eq_true p392; replace q392 := eq_true q392; have p393 : 0 ≤ ((rd x7_3 (ji12)) : Int) := of_decide_eq_true za_; have q393 : (rd x7_3 (ji12)) < ((rd_L4 t381 (rd x7_3 x10_3)).length : Int) := of_decide_eq_true za_; obtain ⟨ad393, e393, hx393_0⟩ := Kd.at_int (by repeat (first | (with_reducible exact HR392_0.out) | (with_reducible refine cA ?_ _) | (with_reducible refine cN ?_ _) | (with_reducible refine cD ?_) | exact HR392_0.out)) (rd x7_3 (ji12)) p393 q393
                      cases e393
                      replace p393 := eq_true p393; replace q393 := eq_true q393; have p394 : 0 ≤ ((rd x7_3 (ji12)) : Int) := of_decide_eq_true za_; have q394 : (rd x7_3 (ji12)) < (t381.length : Int) := of_decide_eq_true za_; obtain ⟨ad394, A394_0, c394_0, e394, hx394_0, hl394_0, hi394_0⟩ := at_L4 (Kd.S_reads' HO_6.out).2.2 (rd x7_3 (ji12)) p394 q394; obtain rfl : ad392 = ad394 := (by injection e394); obtain ⟨ce394, hce394, hMe394, hcc394⟩ := Kd.S_get HO_6.out [] (rd x7_3 (ji12)) p394 (by first | exact q394 | exact of_decide_eq_true za_ | (have e_ := (Kd.S_reads' HO_6.out).1; omega)); obtain ⟨ve394_0, rfl, ge394_0⟩ := hMe394; have hv394_0 := hcc394 0 _ rfl; rw [Nat.add_zero, show ((Kd.slice 3 (Kd.int .i64))).sz = 1 from rfl, Nat.mul_one] at hv394_0; replace hv394_0 := Option.some.inj (hv394_0.symm.trans hx394_0); rw [hv394_0] at ge394_0; have HL394_0 := aM (show Kd.R (Kd.int .i64) 3 _ _ _ _ (rd_L4 t381 (rd x7_3 (ji12))) from ge394_0); clear hv394_0 ge394_0 hcc394 hce394; have HR394_0 := aM hi394_0; have HC394_0 := aM hl394_0; clear hi394_0 hl394_0; replace p394 := eq_true p394; replace q394 := eq_true q394; have p395 : 0 ≤ ((rd x7_3 x10_3) : Int) := of_decide_eq_true za_; have q395 : (rd x7_3 x10_3) < ((rd_L4 t381 (rd x7_3 (ji12))).length : Int) := of_decide_eq_true za_; obtain ⟨ad395, e395, hx395_0⟩ := Kd.at_int (by repeat (first | (with_reducible exact HR394_0.out) | (with_reducible refine cA ?_ _) | (with_reducible refine cN ?_ _) | (with_reducible refine cD ?_) | exact HR394_0.out)) (rd x7_3 x10_3) p395 q395
                      cases e395
                      replace p395 := eq_true p395; replace q395 := eq_true q395; have p24 : 0 ≤ ((ji12) : Int) := of_decide_eq_true za_; have q24 : ((ji12) : Int) < ((x7_3.length : Int) : Int) := of_decide_eq_true za_; obtain ⟨go24, co24, eo24, gb24, gl24, cl24, HG24⟩ := Kd.R_form HO_7.out (by omega); (first | cases eo24 | (injection eo24 with ea_ en_ ec_; (first | subst ea_ | (injection ea_ with ea_; subst ea_)); subst ec_; clear en_)); have GB24 := aM gb24; have GG24 := aM HG24; clear gb24 gl24 HG24; (first | simp only [add_plain] at hx390_0 | skip); (first | simp only [add_plain] at hx391_0 | skip); obtain ⟨hx24_0, hf24_0⟩ := Kd.R_celln 0 HO_7.out ((ji12) : Int) p24 q24; replace p24 := eq_true p24; replace q24 := eq_true q24; have HP28 := Kd.R_putg HO_7.out ((ji12) : Int) (rd x7_3 x10_3)
                      go_wp2_with (first | ((with_reducible refine gate_store (t := 3) (p := 63) rfl ?_); (try (rw [drewN_self wr]; generalize hq_ : World.drewN wr _ = wr; have n_ := z (Kd.S_at hq_ HO_6.out) <| z (Kd.R_at hq_ HO_7.out) <| z (Kd.R_at hq_ HL392_0.out) <| z (Kd.R_at hq_ HL394_0.out) <| z1 (below_at hq_ HB.out); clear hq_ HO_6 HO_7 HL392_0 HL394_0 HB; obtain ⟨HO_6, HO_7, HL392_0, HL394_0, HB⟩ := n_; (try (obtain ⟨hx24_0z, hf24_0z⟩ := Kd.R_celln 0 HO_7.out ((ji12) : Int) (of_eq_true p24) (of_eq_true q24))); (try (have HP28 := Kd.R_putg HO_7.out ((ji12) : Int) (rd x7_3 x10_3))))); refine store_event (t := 3) (p := 63) (v := ?vo_w29) (w1 := (wr.setCell ⟨go24, ((ji12) : Int).toNat, none⟩ (.int .i64 (rd x7_3 x10_3)))) ?hg ?ho ?hn ?hr ?_; (case ho => rfl); (case hg => rfl); (case hn => rfl); (case hr => exact zd_); intro w29 hw; have hg : wr.grownBy w29 (some go24) := (by rw [hw]; exact HP28.2); have hp_ : Kd.R (Kd.int .i64) 3 w29 w.heap.size (fun _ => True) (.slice (some ⟨go24, 0, none⟩) x7_3.length co26) y396 := (by rw [hw, Ny396.out]; exact HP28.1); clear HP28; have n_ := z (Kd.S_after (v := (.slice (some ⟨go24, 0, none⟩) x7_3.length co26)) (v1 := (.slice (some ⟨go24, 0, none⟩) x7_3.length co26)) (ok := (fun _ => True)) zcj_ hg (.inl rfl)) <| z (hp_) <| z (Kd.R_after (v := (.slice (some ⟨go24, 0, none⟩) x7_3.length co26)) (v1 := (.slice (some ⟨go24, 0, none⟩) x7_3.length co26)) (ok := (fun k_ => some k_ ≠ (.slice (some ad392) t381.length co27 : Value).ownBlock)) (by refine zr ?_; exact Kd.R_mono HL392_0.out (fun _ hk => ⟨hk.2, hk.1⟩)) hg (.inl rfl)) <| z (Kd.R_after (v := (.slice (some ⟨go24, 0, none⟩) x7_3.length co26)) (v1 := (.slice (some ⟨go24, 0, none⟩) x7_3.length co26)) (ok := (fun k_ => some k_ ≠ (.slice (some ad392) t381.length co27 : Value).ownBlock)) (by refine zr ?_; exact Kd.R_mono HL394_0.out (fun _ hk => ⟨hk.2, hk.1⟩)) hg (.inl rfl)) <| z1 ((by rw [hw]; exact below_set (HB.out) GB24.out : Below w.heap.size w w29)); clear HO_6 HO_7 HL392_0 HL394_0 HB; obtain ⟨HO_6, HO_7, HL392_0, HL394_0, HB⟩ := n_; clear hg hw hp_; have p25 : 0 ≤ (x10_3 : Int) := of_decide_eq_true za_; have q25 : (x10_3 : Int) < ((x7_3.length : Int) : Int) := of_decide_eq_true za_; obtain ⟨hx25_0, hf25_0⟩ := Kd.R_celln 0 HO_7.out (x10_3 : Int) p25 q25; replace p25 := eq_true p25; replace q25 := eq_true q25; obtain ⟨hy30_, hz30_⟩ := Kd.R_celln 0 HO_7.out (x10_3 : Int) (of_decide_eq_true za_) (of_decide_eq_true za_); have HP30 := Kd.R_putg HO_7.out (x10_3 : Int) (rd x7_3 (ji12))) | ((with_reducible refine gate_store (t := 3) (p := 67) rfl ?_); (try (rw [drewN_self w29]; generalize hq_ : World.drewN w29 _ = w29; have n_ := z (Kd.S_at hq_ HO_6.out) <| z (Kd.R_at hq_ HO_7.out) <| z (Kd.R_at hq_ HL392_0.out) <| z (Kd.R_at hq_ HL394_0.out) <| z1 (below_at hq_ HB.out); clear hq_ HO_6 HO_7 HL392_0 HL394_0 HB; obtain ⟨HO_6, HO_7, HL392_0, HL394_0, HB⟩ := n_; (try (obtain ⟨hy30_, hz30_⟩ := Kd.R_celln 0 HO_7.out (x10_3 : Int) (of_decide_eq_true za_) (of_decide_eq_true za_))); (try (have HP30 := Kd.R_putg HO_7.out (x10_3 : Int) (rd x7_3 (ji12)))))); refine store_event (t := 3) (p := 67) (v := ?vo_w31) (w1 := (w29.setCell ⟨go24, (x10_3 : Int).toNat, none⟩ (.int .i64 (rd x7_3 (ji12))))) ?hg ?ho ?hn ?hr ?_; (case ho => rfl); (case hg => rfl); (case hn => rfl); (case hr => exact zd_); intro w31 hw; have hg : w29.grownBy w31 (some go24) := (by rw [hw]; exact HP30.2); have hp_ : Kd.R (Kd.int .i64) 3 w31 w.heap.size (fun _ => True) (.slice (some ⟨go24, 0, none⟩) x7_3.length co26) y397 := (by rw [hw, Ny397.out]; exact HP30.1); clear HP30; have n_ := z (Kd.S_after (v := (.slice (some ⟨go24, 0, none⟩) x7_3.length co26)) (v1 := (.slice (some ⟨go24, 0, none⟩) x7_3.length co26)) (ok := (fun _ => True)) (zs HO_6.out) hg (.inl rfl)) <| z (hp_) <| z (Kd.R_after (v := (.slice (some ⟨go24, 0, none⟩) x7_3.length co26)) (v1 := (.slice (some ⟨go24, 0, none⟩) x7_3.length co26)) (ok := (fun k_ => some k_ ≠ (.slice (some ad392) t381.length co27 : Value).ownBlock)) (zr HL392_0.out) hg (.inl rfl)) <| z (Kd.R_after (v := (.slice (some ⟨go24, 0, none⟩) x7_3.length co26)) (v1 := (.slice (some ⟨go24, 0, none⟩) x7_3.length co26)) (ok := (fun k_ => some k_ ≠ (.slice (some ad392) t381.length co27 : Value).ownBlock)) (zr HL394_0.out) hg (.inl rfl)) <| z1 ((by rw [hw]; exact below_set (HB.out) GB24.out : Below w.heap.size w w31)); clear HO_6 HO_7 HL392_0 HL394_0 HB; obtain ⟨HO_6, HO_7, HL392_0, HL394_0, HB⟩ := n_; clear hg hw hp_))
                      repeat (go_quiet (first | ((with_reducible refine gate_store (t := 3) (p := 63) rfl ?_); (try (rw [drewN_self wr]; generalize hq_ : World.drewN wr _ = wr; have n_ := z (Kd.S_at hq_ HO_6.out) <| z (Kd.R_at hq_ HO_7.out) <| z (Kd.R_at hq_ HL392_0.out) <| z (Kd.R_at hq_ HL394_0.out) <| z1 (below_at hq_ HB.out); clear hq_ HO_6 HO_7 HL392_0 HL394_0 HB; obtain ⟨HO_6, HO_7, HL392_0, HL394_0, HB⟩ := n_; (try (obtain ⟨hx24_0z, hf24_0z⟩ := Kd.R_celln 0 HO_7.out ((ji12) : Int) (of_eq_true p24) (of_eq_true q24))); (try (have HP28 := Kd.R_putg HO_7.out ((ji12) : Int) (rd x7_3 x10_3))))); refine store_event (t := 3) (p := 63) (v := ?vo_w29) (w1 := (wr.setCell ⟨go24, ((ji12) : Int).toNat, none⟩ (.int .i64 (rd x7_3 x10_3)))) ?hg ?ho ?hn ?hr ?_; (case ho => rfl); (case hg => rfl); (case hn => rfl); (case hr => exact zd_); intro w29 hw; have hg : wr.grownBy w29 (some go24) := (by rw [hw]; exact HP28.2); have hp_ : Kd.R (Kd.int .i64) 3 w29 w.heap.size (fun _ => True) (.slice (some ⟨go24, 0, none⟩) x7_3.length co26) y396 := (by rw [hw, Ny396.out]; exact HP28.1); clear HP28; have n_ := z (Kd.S_after (v := (.slice (some ⟨go24, 0, none⟩) x7_3.length co26)) (v1 := (.slice (some ⟨go24, 0, none⟩) x7_3.length co26)) (ok := (fun _ => True)) zcj_ hg (.inl rfl)) <| z (hp_) <| z (Kd.R_after (v := (.slice (some ⟨go24, 0, none⟩) x7_3.length co26)) (v1 := (.slice (some ⟨go24, 0, none⟩) x7_3.length co26)) (ok := (fun k_ => some k_ ≠ (.slice (some ad392) t381.length co27 : Value).ownBlock)) (by refine zr ?_; exact Kd.R_mono HL392_0.out (fun _ hk => ⟨hk.2, hk.1⟩)) hg (.inl rfl)) <| z (Kd.R_after (v := (.slice (some ⟨go24, 0, none⟩) x7_3.length co26)) (v1 := (.slice (some ⟨go24, 0, none⟩) x7_3.length co26)) (ok := (fun k_ => some k_ ≠ (.slice (some ad392) t381.length co27 : Value).ownBlock)) (by refine zr ?_; exact Kd.R_mono HL394_0.out (fun _ hk => ⟨hk.2, hk.1⟩)) hg (.inl rfl)) <| z1 ((by rw [hw]; exact below_set (HB.out) GB24.out : Below w.heap.size w w29)); clear HO_6 HO_7 HL392_0 HL394_0 HB; obtain ⟨HO_6, HO_7, HL392_0, HL394_0, HB⟩ := n_; clear hg hw hp_; have p25 : 0 ≤ (x10_3 : Int) := of_decide_eq_true za_; have q25 : (x10_3 : Int) < ((x7_3.length : Int) : Int) := of_decide_eq_true za_; obtain ⟨hx25_0, hf25_0⟩ := Kd.R_celln 0 HO_7.out (x10_3 : Int) p25 q25; replace p25 := eq_true p25; replace q25 := eq_true q25; obtain ⟨hy30_, hz30_⟩ := Kd.R_celln 0 HO_7.out (x10_3 : Int) (of_decide_eq_true za_) (of_decide_eq_true za_); have HP30 := Kd.R_putg HO_7.out (x10_3 : Int) (rd x7_3 (ji12))) | ((with_reducible refine gate_store (t := 3) (p := 67) rfl ?_); (try (rw [drewN_self w29]; generalize hq_ : World.drewN w29 _ = w29; have n_ := z (Kd.S_at hq_ HO_6.out) <| z (Kd.R_at hq_ HO_7.out) <| z (Kd.R_at hq_ HL392_0.out) <| z (Kd.R_at hq_ HL394_0.out) <| z1 (below_at hq_ HB.out); clear hq_ HO_6 HO_7 HL392_0 HL394_0 HB; obtain ⟨HO_6, HO_7, HL392_0, HL394_0, HB⟩ := n_; (try (obtain ⟨hy30_, hz30_⟩ := Kd.R_celln 0 HO_7.out (x10_3 : Int) (of_decide_eq_true za_) (of_decide_eq_true za_))); (try (have HP30 := Kd.R_putg HO_7.out (x10_3 : Int) (rd x7_3 (ji12)))))); refine store_event (t := 3) (p := 67) (v := ?vo_w31) (w1 := (w29.setCell ⟨go24, (x10_3 : Int).toNat, none⟩ (.int .i64 (rd x7_3 (ji12))))) ?hg ?ho ?hn ?hr ?_; (case ho => rfl); (case hg => rfl); (case hn => rfl); (case hr => exact zd_); intro w31 hw; have hg : w29.grownBy w31 (some go24) := (by rw [hw]; exact HP30.2); have hp_ : Kd.R (Kd.int .i64) 3 w31 w.heap.size (fun _ => True) (.slice (some ⟨go24, 0, none⟩) x7_3.length co26) y397 := (by rw [hw, Ny397.out]; exact HP30.1); clear HP30; have n_ := z (Kd.S_after (v := (.slice (some ⟨go24, 0, none⟩) x7_3.length co26)) (v1 := (.slice (some ⟨go24, 0, none⟩) x7_3.length co26)) (ok := (fun _ => True)) (zs HO_6.out) hg (.inl rfl)) <| z (hp_) <| z (Kd.R_after (v := (.slice (some ⟨go24, 0, none⟩) x7_3.length co26)) (v1 := (.slice (some ⟨go24, 0, none⟩) x7_3.length co26)) (ok := (fun k_ => some k_ ≠ (.slice (some ad392) t381.length co27 : Value).ownBlock)) (zr HL392_0.out) hg (.inl rfl)) <| z (Kd.R_after (v := (.slice (some ⟨go24, 0, none⟩) x7_3.length co26)) (v1 := (.slice (some ⟨go24, 0, none⟩) x7_3.length co26)) (ok := (fun k_ => some k_ ≠ (.slice (some ad392) t381.length co27 : Value).ownBlock)) (zr HL394_0.out) hg (.inl rfl)) <| z1 ((by rw [hw]; exact below_set (HB.out) GB24.out : Below w.heap.size w w31)); clear HO_6 HO_7 HL392_0 HL394_0 HB; obtain ⟨HO_6, HO_7, HL392_0, HL394_0, HB⟩ := n_; clear hg hw hp_)); try go_wp2_with (first | ((with_reducible refine gate_store (t := 3) (p := 63) rfl ?_); (try (rw [drewN_self wr]; generalize hq_ : World.drewN wr _ = wr; have n_ := z (Kd.S_at hq_ HO_6.out) <| z (Kd.R_at hq_ HO_7.out) <| z (Kd.R_at hq_ HL392_0.out) <| z (Kd.R_at hq_ HL394_0.out) <| z1 (below_at hq_ HB.out); clear hq_ HO_6 HO_7 HL392_0 HL394_0 HB; obtain ⟨HO_6, HO_7, HL392_0, HL394_0, HB⟩ := n_; (try (obtain ⟨hx24_0z, hf24_0z⟩ := Kd.R_celln 0 HO_7.out ((ji12) : Int) (of_eq_true p24) (of_eq_true q24))); (try (have HP28 := Kd.R_putg HO_7.out ((ji12) : Int) (rd x7_3 x10_3))))); refine store_event (t := 3) (p := 63) (v := ?vo_w29) (w1 := (wr.setCell ⟨go24, ((ji12) : Int).toNat, none⟩ (.int .i64 (rd x7_3 x10_3)))) ?hg ?ho ?hn ?hr ?_; (case ho => rfl); (case hg => rfl); (case hn => rfl); (case hr => exact zd_); intro w29 hw; have hg : wr.grownBy w29 (some go24) := (by rw [hw]; exact HP28.2); have hp_ : Kd.R (Kd.int .i64) 3 w29 w.heap.size (fun _ => True) (.slice (some ⟨go24, 0, none⟩) x7_3.length co26) y396 := (by rw [hw, Ny396.out]; exact HP28.1); clear HP28; have n_ := z (Kd.S_after (v := (.slice (some ⟨go24, 0, none⟩) x7_3.length co26)) (v1 := (.slice (some ⟨go24, 0, none⟩) x7_3.length co26)) (ok := (fun _ => True)) zcj_ hg (.inl rfl)) <| z (hp_) <| z (Kd.R_after (v := (.slice (some ⟨go24, 0, none⟩) x7_3.length co26)) (v1 := (.slice (some ⟨go24, 0, none⟩) x7_3.length co26)) (ok := (fun k_ => some k_ ≠ (.slice (some ad392) t381.length co27 : Value).ownBlock)) (by refine zr ?_; exact Kd.R_mono HL392_0.out (fun _ hk => ⟨hk.2, hk.1⟩)) hg (.inl rfl)) <| z (Kd.R_after (v := (.slice (some ⟨go24, 0, none⟩) x7_3.length co26)) (v1 := (.slice (some ⟨go24, 0, none⟩) x7_3.length co26)) (ok := (fun k_ => some k_ ≠ (.slice (some ad392) t381.length co27 : Value).ownBlock)) (by refine zr ?_; exact Kd.R_mono HL394_0.out (fun _ hk => ⟨hk.2, hk.1⟩)) hg (.inl rfl)) <| z1 ((by rw [hw]; exact below_set (HB.out) GB24.out : Below w.heap.size w w29)); clear HO_6 HO_7 HL392_0 HL394_0 HB; obtain ⟨HO_6, HO_7, HL392_0, HL394_0, HB⟩ := n_; clear hg hw hp_; have p25 : 0 ≤ (x10_3 : Int) := of_decide_eq_true za_; have q25 : (x10_3 : Int) < ((x7_3.length : Int) : Int) := of_decide_eq_true za_; obtain ⟨hx25_0, hf25_0⟩ := Kd.R_celln 0 HO_7.out (x10_3 : Int) p25 q25; replace p25 := eq_true p25; replace q25 := eq_true q25; obtain ⟨hy30_, hz30_⟩ := Kd.R_celln 0 HO_7.out (x10_3 : Int) (of_decide_eq_true za_) (of_decide_eq_true za_); have HP30 := Kd.R_putg HO_7.out (x10_3 : Int) (rd x7_3 (ji12))) | ((with_reducible refine gate_store (t := 3) (p := 67) rfl ?_); (try (rw [drewN_self w29]; generalize hq_ : World.drewN w29 _ = w29; have n_ := z (Kd.S_at hq_ HO_6.out) <| z (Kd.R_at hq_ HO_7.out) <| z (Kd.R_at hq_ HL392_0.out) <| z (Kd.R_at hq_ HL394_0.out) <| z1 (below_at hq_ HB.out); clear hq_ HO_6 HO_7 HL392_0 HL394_0 HB; obtain ⟨HO_6, HO_7, HL392_0, HL394_0, HB⟩ := n_; (try (obtain ⟨hy30_, hz30_⟩ := Kd.R_celln 0 HO_7.out (x10_3 : Int) (of_decide_eq_true za_) (of_decide_eq_true za_))); (try (have HP30 := Kd.R_putg HO_7.out (x10_3 : Int) (rd x7_3 (ji12)))))); refine store_event (t := 3) (p := 67) (v := ?vo_w31) (w1 := (w29.setCell ⟨go24, (x10_3 : Int).toNat, none⟩ (.int .i64 (rd x7_3 (ji12))))) ?hg ?ho ?hn ?hr ?_; (case ho => rfl); (case hg => rfl); (case hn => rfl); (case hr => exact zd_); intro w31 hw; have hg : w29.grownBy w31 (some go24) := (by rw [hw]; exact HP30.2); have hp_ : Kd.R (Kd.int .i64) 3 w31 w.heap.size (fun _ => True) (.slice (some ⟨go24, 0, none⟩) x7_3.length co26) y397 := (by rw [hw, Ny397.out]; exact HP30.1); clear HP30; have n_ := z (Kd.S_after (v := (.slice (some ⟨go24, 0, none⟩) x7_3.length co26)) (v1 := (.slice (some ⟨go24, 0, none⟩) x7_3.length co26)) (ok := (fun _ => True)) (zs HO_6.out) hg (.inl rfl)) <| z (hp_) <| z (Kd.R_after (v := (.slice (some ⟨go24, 0, none⟩) x7_3.length co26)) (v1 := (.slice (some ⟨go24, 0, none⟩) x7_3.length co26)) (ok := (fun k_ => some k_ ≠ (.slice (some ad392) t381.length co27 : Value).ownBlock)) (zr HL392_0.out) hg (.inl rfl)) <| z (Kd.R_after (v := (.slice (some ⟨go24, 0, none⟩) x7_3.length co26)) (v1 := (.slice (some ⟨go24, 0, none⟩) x7_3.length co26)) (ok := (fun k_ => some k_ ≠ (.slice (some ad392) t381.length co27 : Value).ownBlock)) (zr HL394_0.out) hg (.inl rfl)) <| z1 ((by rw [hw]; exact below_set (HB.out) GB24.out : Below w.heap.size w w31)); clear HO_6 HO_7 HL392_0 HL394_0 HB; obtain ⟨HO_6, HO_7, HL392_0, HL394_0, HB⟩ := n_; clear hg hw hp_)))
                      go_roundg k3
                      case measure => have := HK1.out; have := HK2.out; have := HK3.out; omega
                      case rel => exact ⟨(y397), (true), (wrap64 (x10_3 + 1)), zc_, zc_, H', ⟨zbd_⟩, ⟨zga_⟩, ⟨zr HO_7.out⟩, ⟨zb_⟩⟩
                     ·rw [if_neg c23] at H
                      have c23b0 := decide_eq_false c23; clear c23; have H' := aM H; clear H; obtain ⟨Ao32, co32, eo32⟩ := Kd.R_slice HO_7.out; subst eo32; have p390 : 0 ≤ ((ji12) : Int) := of_decide_eq_true za_; have q390 : (ji12) < (x7_3.length : Int) := of_decide_eq_true za_; obtain ⟨ad390, e390, hx390_0⟩ := Kd.at_int (Kd.R_reads' HO_7.out).2.2 (ji12) p390 q390
                      cases e390
                      replace p390 := eq_true p390; replace q390 := eq_true q390; have p391 : 0 ≤ (x10_3 : Int) := of_decide_eq_true za_; have q391 : x10_3 < (x7_3.length : Int) := of_decide_eq_true za_; obtain ⟨ad391, e391, hx391_0⟩ := Kd.at_int (Kd.R_reads' HO_7.out).2.2 x10_3 p391 q391; obtain rfl : ad390 = ad391 := (by injection e391); replace p391 := eq_true p391; replace q391 := eq_true q391; obtain ⟨Ao33, co33, eo33⟩ := Kd.S_slice HO_6.out; subst eo33; have p392 : 0 ≤ ((rd x7_3 x10_3) : Int) := of_decide_eq_true za_; have q392 : (rd x7_3 x10_3) < (t381.length : Int) := of_decide_eq_true za_; obtain ⟨ad392, A392_0, c392_0, e392, hx392_0, hl392_0, hi392_0⟩ := at_L4 (Kd.S_reads' HO_6.out).2.2 (rd x7_3 x10_3) p392 q392
                      cases e392
                      obtain ⟨ce392, hce392, hMe392, hcc392⟩ := Kd.S_get HO_6.out [] (rd x7_3 x10_3) p392 (by first | exact q392 | exact of_decide_eq_true za_ | (have e_ := (Kd.S_reads' HO_6.out).1; omega)); obtain ⟨ve392_0, rfl, ge392_0⟩ := hMe392; have hv392_0 := hcc392 0 _ rfl; rw [Nat.add_zero, show ((Kd.slice 3 (Kd.int .i64))).sz = 1 from rfl, Nat.mul_one] at hv392_0; replace hv392_0 := Option.some.inj (hv392_0.symm.trans hx392_0); rw [hv392_0] at ge392_0; have HL392_0 := aM (show Kd.R (Kd.int .i64) 3 _ _ _ _ (rd_L4 t381 (rd x7_3 x10_3)) from ge392_0); clear hv392_0 ge392_0 hcc392 hce392; have HR392_0 := aM hi392_0; have HC392_0 := aM hl392_0; clear hi392_0 hl392_0; replace p392 := eq_true p392; replace q392 := eq_true q392; have p393 : 0 ≤ ((rd x7_3 (ji12)) : Int) := of_decide_eq_true za_; have q393 : (rd x7_3 (ji12)) < ((rd_L4 t381 (rd x7_3 x10_3)).length : Int) := of_decide_eq_true za_; obtain ⟨ad393, e393, hx393_0⟩ := Kd.at_int (by repeat (first | (with_reducible exact HR392_0.out) | (with_reducible refine cA ?_ _) | (with_reducible refine cN ?_ _) | (with_reducible refine cD ?_) | exact HR392_0.out)) (rd x7_3 (ji12)) p393 q393
                      cases e393
                      replace p393 := eq_true p393; replace q393 := eq_true q393; have p394 : 0 ≤ ((rd x7_3 (ji12)) : Int) := of_decide_eq_true za_; have q394 : (rd x7_3 (ji12)) < (t381.length : Int) := of_decide_eq_true za_; obtain ⟨ad394, A394_0, c394_0, e394, hx394_0, hl394_0, hi394_0⟩ := at_L4 (Kd.S_reads' HO_6.out).2.2 (rd x7_3 (ji12)) p394 q394; obtain rfl : ad392 = ad394 := (by injection e394); obtain ⟨ce394, hce394, hMe394, hcc394⟩ := Kd.S_get HO_6.out [] (rd x7_3 (ji12)) p394 (by first | exact q394 | exact of_decide_eq_true za_ | (have e_ := (Kd.S_reads' HO_6.out).1; omega)); obtain ⟨ve394_0, rfl, ge394_0⟩ := hMe394; have hv394_0 := hcc394 0 _ rfl; rw [Nat.add_zero, show ((Kd.slice 3 (Kd.int .i64))).sz = 1 from rfl, Nat.mul_one] at hv394_0; replace hv394_0 := Option.some.inj (hv394_0.symm.trans hx394_0); rw [hv394_0] at ge394_0; have HL394_0 := aM (show Kd.R (Kd.int .i64) 3 _ _ _ _ (rd_L4 t381 (rd x7_3 (ji12))) from ge394_0); clear hv394_0 ge394_0 hcc394 hce394; have HR394_0 := aM hi394_0; have HC394_0 := aM hl394_0; clear hi394_0 hl394_0; replace p394 := eq_true p394; replace q394 := eq_true q394; have p395 : 0 ≤ ((rd x7_3 x10_3) : Int) := of_decide_eq_true za_; have q395 : (rd x7_3 x10_3) < ((rd_L4 t381 (rd x7_3 (ji12))).length : Int) := of_decide_eq_true za_; obtain ⟨ad395, e395, hx395_0⟩ := Kd.at_int (by repeat (first | (with_reducible exact HR394_0.out) | (with_reducible refine cA ?_ _) | (with_reducible refine cN ?_ _) | (with_reducible refine cD ?_) | exact HR394_0.out)) (rd x7_3 x10_3) p395 q395
                      cases e395
                      replace p395 := eq_true p395; replace q395 := eq_true q395
                      go_wp2
                      repeat (go_quiet (fail); try go_wp2)
                      go_roundg k3
                      case measure => have := HK1.out; have := HK2.out; have := HK3.out; omega
                      case rel => exact ⟨(x7_3), (x9_3), (wrap64 (x10_3 + 1)), zc_, zc_, H', ⟨zbd_⟩, ⟨zs HO_6.out⟩, ⟨zr HO_7.out⟩, ⟨zb_⟩⟩
                    ·rw [if_neg c22] at H
                     exact q3n_ H
                   ·rw [if_neg c21] at H
                    exact q3n_ H
                  ·rw [if_neg c20] at H
                   exact q3n_ H
                 ·rw [if_neg c19] at H
                  exact q3n_ H
                ·rw [if_neg c18] at H
                 exact q3n_ H
               ·rw [if_neg c17] at H
                exact q3n_ H
              ·rw [if_neg c16] at H
               exact q3n_ H
             ·rw [if_neg c15] at H
              exact q3n_ H
            ·rw [if_neg c14] at H
             exact q3n_ H
           ·rw [if_neg c13] at H
            exact q3n_ H
          ·rw [if_neg c11] at H
           have c11b0 := decide_eq_false c11; clear c11; have H' := aM H; clear H
           go_wp2
           repeat (go_quiet (fail); try go_wp2)
           go_roundg k3
           case measure => have := HK1.out; have := HK2.out; have := HK3.out; omega
           case rel => exact ⟨(x7_3), (x9_3), zc_, H', ⟨zbd_⟩, ⟨zs HO_6.out⟩, ⟨zr HO_7.out⟩, ⟨zb_⟩⟩
       ·replace c10 := Bool.eq_false_iff.mpr c10
        subst c10; have H1 : ((spec_plOrder.f k2 x7_2).bind fun t387 => (some (t387, true))) = some (r1, r2) := by rw [if_neg (show ¬ (false = true) by decide)] at H; exact H
        clear H; have H := H1; clear H1; replace H := oB.mp H; obtain ⟨t387, A340, H⟩ := H; replace H : (some (t387, true)) = some (r1, r2) := H; have A34 := aM A340; clear A340
        simp only [Option.some.injEq, Prod.mk.injEq] at H
        obtain ⟨rfl, rfl⟩ := H; obtain ⟨Ao35, co35, eo35⟩ := Kd.R_slice HO_7.out; subst eo35
        go_wp2_with (first | (go_at_call 95; (with_reducible refine (spec_plOrder.calls k2 _ _ x7_2 t387 _ ?side1 ?side2 A34.out).mono ?_); (case side1 => exact zfa_); (case side2 => exact zfb_); rintro e w36 ⟨v388, rfl, ho0, hb⟩; have n_ := z (Kd.S_elder' (zs HO_6.out) (Kd.R_base ho0) hb) <| z (Kd.R_elder' (zr HO_7.out) (Kd.R_base ho0) hb) <| z (Kd.R_lower (Kd.R_new' ho0 (Kd.R_lt (zr HO_7.out))) (below_size zb_)) <| z1 (below_step zb_ hb); clear HO_6 HO_7 HB; obtain ⟨HO_6, HO_7, HO389, HB⟩ := n_; clear hb; (try clear ho0)))
        repeat (go_quiet (first | (go_at_call 95; (with_reducible refine (spec_plOrder.calls k2 _ _ x7_2 t387 _ ?side1 ?side2 A34.out).mono ?_); (case side1 => exact zfa_); (case side2 => exact zfb_); rintro e w36 ⟨v388, rfl, ho0, hb⟩; have n_ := z (Kd.S_elder' (zs HO_6.out) (Kd.R_base ho0) hb) <| z (Kd.R_elder' (zr HO_7.out) (Kd.R_base ho0) hb) <| z (Kd.R_lower (Kd.R_new' ho0 (Kd.R_lt (zr HO_7.out))) (below_size zb_)) <| z1 (below_step zb_ hb); clear HO_6 HO_7 HB; obtain ⟨HO_6, HO_7, HO389, HB⟩ := n_; clear hb; (try clear ho0))); try go_wp2_with (first | (go_at_call 95; (with_reducible refine (spec_plOrder.calls k2 _ _ x7_2 t387 _ ?side1 ?side2 A34.out).mono ?_); (case side1 => exact zfa_); (case side2 => exact zfb_); rintro e w36 ⟨v388, rfl, ho0, hb⟩; have n_ := z (Kd.S_elder' (zs HO_6.out) (Kd.R_base ho0) hb) <| z (Kd.R_elder' (zr HO_7.out) (Kd.R_base ho0) hb) <| z (Kd.R_lower (Kd.R_new' ho0 (Kd.R_lt (zr HO_7.out))) (below_size zb_)) <| z1 (below_step zb_ hb); clear HO_6 HO_7 HB; obtain ⟨HO_6, HO_7, HO389, HB⟩ := n_; clear hb; (try clear ho0))))
        go_ret2
        exact ⟨_, zh_, by refine zr ?_; exact Kd.R_mono HO389.out (fun _ hk => trivial), zb_⟩
 ·replace c4 := Bool.eq_false_iff.mpr c4
  subst c4; have H1 : (some (([] : List Int), false)) = some (r1, r2) := by rw [if_neg (show ¬ (false = true) by decide)] at H; exact H
  clear H; have H := H1; clear H1
  simp only [Option.some.injEq, Prod.mk.injEq] at H
  obtain ⟨rfl, rfl⟩ := H
  go_enter Try.func45, Try.ntmps45
  go_wp2_with (first | (go_at_call 91; (with_reducible refine (spec_plWires.calls k _ _ l0 a1 false _ ?side1 ?side2 A3.out).mono ?_); (case side1 => exact zi_); (case side2 => exact HC0.out); rintro e w' ⟨rfl, ⟨nd, rfl⟩⟩; (try exact q3d_)))
  repeat (go_quiet (first | (go_at_call 91; (with_reducible refine (spec_plWires.calls k _ _ l0 a1 false _ ?side1 ?side2 A3.out).mono ?_); (case side1 => exact zi_); (case side2 => exact HC0.out); rintro e w' ⟨rfl, ⟨nd, rfl⟩⟩; (try exact q3d_))); try go_wp2_with (first | (go_at_call 91; (with_reducible refine (spec_plWires.calls k _ _ l0 a1 false _ ?side1 ?side2 A3.out).mono ?_); (case side1 => exact zi_); (case side2 => exact HC0.out); rintro e w' ⟨rfl, ⟨nd, rfl⟩⟩; (try exact q3d_))))
  go_ret2
  exact ⟨_, zh_, zed_, zb_⟩
def mdK (F : Int → Int) (l : List Int) (v : Int) : Nat → Nat
 | 0 => 0
 | k + 1 => if F (rd l (k : Int)) > v then mdK F l v k else k + 1
def mdIns (F : Int → Int) (l : List Int) (x : Int) : List Int := l.take (mdK F l (F x) l.length) ++ [x] ++ l.drop (mdK F l (F x) l.length)
def mdAbove (p : Int) : List (List Int) → List Int → List Int
 | [], o => o
 | w :: r, o => mdAbove p r (if rd w 1 = p then mdIns id o (rd w 0) else o)
def mdMidS (l : List (List Int)) (p : Int) : Int := if mdAbove p l [] = [] then -1 else rd (mdAbove p l []) (((mdAbove p l []).length / 2 : Nat) : Int)
def mdSort (F : Int → Int) : List Int → List Int → List Int
 | [], o => o
 | p :: r, o => mdSort F r (mdIns F o p)
theorem mdK_le (F : Int → Int) (l : List Int) (v : Int) : ∀ k, mdK F l v k ≤ k := by
 intro k
 induction k with
 | zero => exact Nat.le_refl _
 | succ k ih => rw [mdK]; split <;> omega
theorem mdIns_length (F : Int → Int) (l : List Int) (x : Int) : (mdIns F l x).length = l.length + 1 := by
 have h := mdK_le F l (F x) l.length
 unfold mdIns
 simp only [List.length_append, lT, lD, List.length_singleton]
 omega
theorem mdAbove_length (p : Int) : ∀ (r : List (List Int)) (o : List Int), (mdAbove p r o).length ≤ o.length + r.length := by
 intro r
 induction r with
 | nil => intro o; exact Nat.le_refl _
 | cons w r ih =>
  intro o
  rw [mdAbove]; have := ih (if rd w 1 = p then mdIns id o (rd w 0) else o)
  split at this
  ·rename_i h; rw [if_pos h]; rw [mdIns_length] at this; simp; omega
  ·rename_i h; rw [if_neg h]; simp; omega
theorem mdSort_length (F : Int → Int) : ∀ (r o : List Int), (mdSort F r o).length = o.length + r.length := by
 intro r
 induction r with
 | nil => intro o; rfl
 | cons p r ih => intro o; rw [mdSort, ih, mdIns_length]; simp; omega
theorem mdK_step (F : Int → Int) (l : List Int) (v : Int) (k : Int) (h : 1 ≤ k) : mdK F l v k.toNat = if F (rd l (k - 1)) > v then mdK F l v (k - 1).toNat else k.toNat := by
 obtain ⟨m, rfl⟩ : ∃ m : Nat, k = (m : Int) + 1 := ⟨(k - 1).toNat, by omega⟩
 rw [show ((m : Int) + 1).toNat = m + 1 by omega, mdK, show (m : Int) + 1 - 1 = (m : Int) by omega, Int.toNat_natCast]
theorem md_dropL (q : List (List Int)) (j : Int) (h0 : 0 ≤ j) (h1 : j < (q.length : Int)) : q.drop j.toNat = rd_L4 q j :: q.drop (j + 1).toNat := by
 have hl : j.toNat < q.length := by omega
 rw [List.drop_eq_getElem_cons hl, show (j + 1).toNat = j.toNat + 1 by omega]
 unfold rd_L4
 rw [List.getD_eq_getElem?_getD, List.getElem?_eq_getElem hl]
 rfl
theorem md_at2 {w : World} {aw : Addr} {ww : List Int} (h : Kd.C (Kd.int .i64) w (some aw) 2 ww) : w.cell? aw = some (.int .i64 (rd ww 0)) ∧ w.cell? ⟨aw.block, aw.off + 1, none⟩ = some (.int .i64 (rd ww 1)) := by
 obtain ⟨b0, e0, h0⟩ := Kd.at_int h 0 (by decide) (by decide)
 obtain ⟨b1, e1, h1⟩ := Kd.at_int h 1 (by decide) (by decide)
 cases e0
 cases e1
 rw [show (0 : Int).toNat = 0 from rfl, Addr.add_zero'] at h0
 exact ⟨h0, h1⟩
theorem md_row {w : World} {A0 : Option Addr} {l0 : List (List Int)} (h : Kd.C (Kd.slice 3 (Kd.int .i64)) w A0 l0.length l0) (hg : ∀ x ∈ l0, x.length = 2) (j : Int) (h0 : 0 ≤ j) (h1 : j < (l0.length : Int)) : ∃ (ad aw : Addr) (cw : Nat) (y0 y1 : Int), A0 = some ad ∧ w.cell? (ad.add j.toNat) = some (.slice (some aw) 2 cw) ∧ Kd.C (Kd.int .i64) w (some aw) 2 (rd_L4 l0 j) ∧ 2 ≤ cw ∧ rd (rd_L4 l0 j) 0 = y0 ∧ rd (rd_L4 l0 j) 1 = y1 := by
 obtain ⟨ad, Aw, cw, e, hx, hl, hi⟩ := at_L4 h j h0 h1
 have h2 : (rd_L4 l0 j).length = 2 := hg _ (by
  unfold rd_L4
  have hj : j.toNat < l0.length := by omega
  rw [List.getD_eq_getElem?_getD, List.getElem?_eq_getElem hj]
  exact List.getElem_mem hj)
 rw [h2] at hx hl hi
 obtain ⟨aw, ew, _⟩ := Kd.at_int hi 0 (by decide) (by decide)
 cases ew
 exact ⟨ad, aw, cw, _, _, e, hx, hi, hl, rfl, rfl⟩
theorem md_iota (n : Nat) (j : Int) (h0 : 0 ≤ j) (h1 : j < (n : Int)) : (Sep.iota n).drop j.toNat = j :: (Sep.iota n).drop (j + 1).toNat := by
 have hl : j.toNat < (Sep.iota n).length := by rw [Sep.iota_length]; omega
 rw [List.drop_eq_getElem_cons hl, show (j + 1).toNat = j.toNat + 1 by omega]
 congr 1
 simp only [Sep.iota, List.getElem_map, List.getElem_range]
 omega
theorem md_iota_end (n : Nat) : (Sep.iota n).drop n = [] := List.drop_of_length_le (by rw [Sep.iota_length]; exact Nat.le_refl _)
def spec_plMiddle.f (k : Nat) (l0 : List (List Int)) (a1 : Int) : Option Int := if l0.length ≤ 1000 ∧ (∀ x ∈ l0, x.length = 2) then some (mdMidS l0 a1) else none
open Go.Proofs.Ytlnhpkjioppbiaa.Sep in
set_option maxHeartbeats 16000000 in
set_option maxRecDepth 100000 in
theorem spec_plMiddle.calls (k : Nat) (A0 : Option Addr) (c0 : Nat) (l0 : List (List Int)) (a1 : Int) (r : Int) (w : World) (hr0 : Kd.C (Kd.slice 3 (Kd.int .i64)) w A0 l0.length l0) (hc0 : l0.length ≤ c0) (h : spec_plMiddle.f k l0 a1 = some r) :
  Calls Try.prog 99 #[.slice A0 l0.length c0, .int .i64 a1] w fun e w' => e = .returned (.int .i64 r) ∧ Below w.heap.size w w' := by
 have HR := aM hr0
 clear hr0 hc0
 unfold spec_plMiddle.f at h
 split at h
 ·rename_i hcc
  obtain ⟨hl, hg⟩ := hcc; obtain rfl := Option.some.inj h; clear h; have HL := aM hl; have HG := aM hg; clear hl hg; obtain ⟨i0, hi0, _, hsz, _⟩ := info_parts info3; have HIN := aM hi0; have HSZ := aM hsz; clear hi0 hsz
  go_enter Try.func99, Try.ntmps99
  go_wp2
  go_loopw [5, 11] (fun v5 v11 wr => ∃ (j : Int) (o : List Int), 0 ≤ j ∧ j ≤ (l0.length : Int) ∧ v11 = .int .i64 j ∧ Aside0 (mdAbove a1 (l0.drop j.toNat) o = mdAbove a1 l0 []) ∧ Aside0 ((o.length : Int) ≤ j) ∧ Aside0 (Own w wr [Item.row (Kd.int .i64) 3 (v5) (o)])) (fun _ v11 _ => l0.length - (intOf v11).toNat)
  case atStart => exact ⟨0, [], Int.le_refl _, by omega, rfl, ⟨rfl⟩, ⟨by simp⟩, ⟨(Sep.Own.nil w).nilrow (Kd.int .i64) 3⟩⟩
  case round =>
   obtain ⟨j, o, hj0, hj2, rfl, HJ, HOL, HO⟩ := hrel
   by_cases hj1 : j < (l0.length : Int)
   ·have c1b := decide_eq_true hj1
    have hwj : wrap64 (j + 1) = j + 1 := by have := HL.out; unfold wrap64; omega
    obtain ⟨Ao, co, rfl⟩ := HO.out.row_slice 0 rfl; obtain ⟨ad, aw, cw, y0, y1, e0, hx, hi, _, e1, e2⟩ := md_row HR.out HG.out j hj0 hj1
    cases e0
    have HI := aM hi; have hx2 : ∀ w1 : World, Below w.heap.size w w1 → w1.cell? (ad.add j.toNat) = some (.slice (some aw) 2 cw) := fun w1 hb => pw_cell_below hb hx
    have HX := aM hx2; have HY := aM (And.intro e1 e2); clear hx hi hx2 e1 e2; have p1 : (0 ≤ j) = True := eq_true hj0; have q1 : (j < (l0.length : Int)) = True := eq_true hj1; have hjd := HJ.out; rw [md_dropL l0 j hj0 hj1, mdAbove, HY.out.1, HY.out.2] at hjd
    by_cases c2 : y1 = a1
    ·have c2b : (y1 != a1) = false := bne_eq_false_iff_eq.mpr c2
     rw [if_pos c2] at hjd; have HJ2 := aM hjd; clear hjd c2; have z_1 : wr.cell? (ad.add j.toNat) = some (.slice (some aw) 2 cw) := (HX.out _ HO.out.base); have z_2 : wr.cell? ⟨aw.block, aw.off + 1, none⟩ = some (.int .i64 y1) := zgb_
     go_wp2
     go_loopw [8] (fun v8 wr => ∃ (q : Int), 0 ≤ q ∧ q ≤ (o.length : Int) ∧ v8 = .int .i64 q ∧ Aside0 (mdK id o y0 q.toNat = mdK id o y0 o.length) ∧ Aside0 (Own w wr [Item.row (Kd.int .i64) 3 (.slice Ao o.length co) (o)])) (fun v8 _ => (intOf v8).toNat)
     case atStart => exact ⟨(o.length : Int), by omega, Int.le_refl _, rfl, ⟨rfl⟩, HO⟩
     case round =>
      clear HO; obtain ⟨q, hq0, hq1, rfl, HQ, HO⟩ := hrel; have hol := HOL.out; have hll := HL.out
      by_cases c3 : q > 0
      ·have c3b := decide_eq_true c3
       obtain ⟨qp, hqp⟩ : ∃ qp : Int, qp = q - 1 := ⟨_, rfl⟩; have hwq : wrap64 (q - 1) = qp := by unfold wrap64; omega
       have hst := mdK_step id o y0 q (by omega); rw [← hqp] at hst; have hqp0 : 0 ≤ qp ∧ qp < (o.length : Int) := by omega
       have HQP := aM hqp0; have HQ1 := aM (show qp.toNat < q.toNat by omega); have HQ2 := aM (show qp ≤ (o.length : Int) by omega); have p2 : (0 ≤ qp) = True := eq_true hqp0.1; have q2 : (qp < (o.length : Int)) = True := eq_true hqp0.2; obtain ⟨gq, cq, hsv⟩ := Sep.own_row_form HO.out 0 rfl (by omega)
       injection hsv with ha hb hc
       subst ha; subst hc; obtain ⟨z, hz⟩ : ∃ z, rd o qp = z := ⟨_, rfl⟩; rw [hz] at hst; have HZ := aM hz; clear hb hz hqp hqp0 hol hll
       by_cases c4 : z > y0
       ·have c4b := decide_eq_true c4
        rw [if_pos (show id z > y0 from c4)] at hst; have HQ3 := aM (hst.symm.trans HQ.out); clear hst
        go_wp2
        have HD_7_2 := aM (HO.out.drew)
        refine start_ (n := 13) (S := fun w' => w'.cell? ⟨gq, qp.toNat, none⟩ = some (.int .i64 z) ∧ w'.cell? aw = some (.int .i64 y0)) (ds := []) #[fi,fi,fi,fi,fi,fi,fi,fi,fi,fi,fi,fi,fi] (by kernel_rfl) rfl rfl ⟨(by have e := (Sep.own_row_cell (0 : Int) HD_7_2.out 0 rfl qp HQP.out.1 HQP.out.2).1; rw [show rdOf 0 o qp = z from HZ.out] at e; exact e), (by rw [← HY.out.1]; exact (md_at2 (Kd.C_below HI.out HD_7_2.out.base)).1)⟩ (fun hHeld => ?_)
        generalize wr.drew = wd_7_3 at HD_7_2 hHeld ⊢
        refine oz_ 0 22 ?_
        refine oz_ 1 23 ?_
        refine oz_ 2 24 ?_
        refine oz_ 3 25 ?_
        refine oz_ 4 26 ?_
        refine oz_ 5 27 ?_
        refine oz_ 6 28 ?_
        refine oz_ 8 30 ?_
        refine oz_ 9 31 ?_
        refine tz2_ 7 29 hHeld ?_
        refine tz2_ 10 32 hHeld ?_
        refine oz_ 11 33 ?_
        refine oz_ 12 34 ?_
        refine done_ (by kernel_rfl) ?_
        go_wp2
        go_roundw
        case measure => have := HQ1.out; simp only [intOf]; omega
        case rel => exact ⟨qp, HQP.out.1, HQ2.out, by first | rfl | rw [hwq], HQ3, HD_7_2⟩
       ·have c4b := decide_eq_false c4
        rw [if_neg (show ¬ id z > y0 from c4)] at hst; have HQ3 := aM (show mdK id o y0 o.length = q.toNat from HQ.out.symm.trans hst); clear hst; have HOC := aM (HO.out.row_reads 0 rfl).2.1; have HQB := aM (show q.toNat ≤ o.length by omega); have HTL := aM (show (o.take q.toNat).length = q.toNat by rw [lT]; omega); obtain ⟨ht1, ht2, ht3⟩ := print_take_of (P := Try.prog) (Value.int .i64) (0 : Int) 39 3 .i64 Try.underlying39 HIN.out HSZ.out (some ⟨gq, 0, none⟩) co o q hq0 (by omega) HOC.out; obtain ⟨Ad, hd1, hd2, hd3⟩ := print_drop_of (P := Try.prog) (Value.int .i64) (0 : Int) 39 3 .i64 Try.underlying39 HIN.out HSZ.out (some ⟨gq, 0, none⟩) co o q hq0 (by omega) HOC.out; have HT1 := aM (show ∀ w1 : World, Kd.C (Kd.int .i64) w1 (some ⟨gq, 0, none⟩) o.length o → Kd.C (Kd.int .i64) w1 (some ⟨gq, 0, none⟩) q.toNat (o.take q.toNat) from fun w1 h => by have e := Kd.C_of_reads (h1 := fun _ => rfl) (ht2 w1 (Kd.reads_of_C h)); rw [HTL.out] at e; exact e); have HT2 := aM (show ∀ w1 : World, Kd.C (Kd.int .i64) w1 (some ⟨gq, 0, none⟩) o.length o → Kd.C (Kd.int .i64) w1 Ad (o.length - q.toNat) (o.drop q.toNat) from fun w1 h => by have e := Kd.C_of_reads (h1 := fun _ => rfl) (hd2 w1 (Kd.reads_of_C h)); rw [lD] at e; exact e); have HOWN := aM (show spec_l1Own.f (o.take q.toNat) = some (o.take q.toNat) from by unfold spec_l1Own.f; simp only [oS, List.length_nil, Nat.zero_add, List.nil_append]; rw [if_pos (by rw [lT]; have := HOL.out; have := HL.out; omega)]); have HINS := aM (show mdIns id o y0 = o.take q.toNat ++ [y0] ++ o.drop q.toNat from by unfold mdIns; rw [show mdK id o (id y0) o.length = q.toNat from HQ3.out]); have HNL := aM (show (o.take q.toNat).length + (o.drop q.toNat).length = o.length by rw [← List.length_append, List.take_append_drop]); have HLL := aM (show o.length ≤ 1000 by have := HOL.out; have := HL.out; omega); clear ht2 ht3 hd2 hd3; (try clear hol hll)
        go_wp2
        have HD_7_2 := aM (HO.out.drew)
        refine start_ (n := 13) (S := fun w' => w'.cell? ⟨gq, qp.toNat, none⟩ = some (.int .i64 z) ∧ w'.cell? aw = some (.int .i64 y0)) (ds := []) #[fi,fi,fi,fi,fi,fi,fi,fi,fi,fi,fi,fi,fi] (by kernel_rfl) rfl rfl ⟨(by have e := (Sep.own_row_cell (0 : Int) HD_7_2.out 0 rfl qp HQP.out.1 HQP.out.2).1; rw [show rdOf 0 o qp = z from HZ.out] at e; exact e), (by rw [← HY.out.1]; exact (md_at2 (Kd.C_below HI.out HD_7_2.out.base)).1)⟩ (fun hHeld => ?_)
        generalize wr.drew = wd_7_3 at HD_7_2 hHeld ⊢
        refine oz_ 0 22 ?_
        refine oz_ 1 23 ?_
        refine oz_ 2 24 ?_
        refine oz_ 3 25 ?_
        refine oz_ 4 26 ?_
        refine oz_ 5 27 ?_
        refine oz_ 6 28 ?_
        refine oz_ 8 30 ?_
        refine oz_ 9 31 ?_
        refine tz2_ 7 29 hHeld ?_
        refine tz2_ 10 32 hHeld ?_
        refine oz_ 11 33 ?_
        refine oz_ 12 34 ?_
        refine done_ (by kernel_rfl) ?_
        go_wp2
        have HD_9_3 := aM (HD_7_2.out.drew)
        refine start_ (n := 14) (S := fun w' => w'.cell? aw = some (.int .i64 y0)) (ds := []) #[fi,fi,fi,fi,fi,fi,fi,fi,fi,fi,fi,fi,fi,fi] (by kernel_rfl) rfl rfl ((by rw [← HY.out.1]; exact (md_at2 (Kd.C_below HI.out HD_9_3.out.base)).1)) (fun hHeld => ?_)
        generalize wd_7_3.drew = wd_9_4 at HD_9_3 hHeld ⊢
        refine oz_ 0 37 ?_
        refine oz_ 1 38 ?_
        refine oz_ 2 39 ?_
        refine oz_ 4 41 ?_
        refine oz_ 5 42 ?_
        refine oz_ 9 46 ?_
        refine oz_ 10 47 ?_
        refine oz_ 11 48 ?_
        refine tz1_ 6 43 hHeld ?_
        refine join_ (σ := Value × Value) 3 #[ti,ti,ti,ti,ti,ti,ti,ti,fi,ti,ti,ti,fi,fi] (fun s => [(40, s.1), (44, s.2)]) (fun s w' => (w'.cell? aw = some (.int .i64 y0)) ∧ Own w w' [Item.row (Kd.int .i64) 3 (s.2) ([y0]), Item.row (Kd.int .i64) 3 (s.1) ((o.take q.toNat)), Item.row (Kd.int .i64) 3 (.slice ((some ⟨gq, 0, none⟩)) o.length co) (o)]) ?_ ?_
        rotate_left
        ·intro hCont
         refine two_ (i := 3) (j := 7) (Ni := some 40) (Nj := some 44) #[ti,ti,ti,ti,ti,ti,ti,fi,fi,ti,ti,ti,fi,fi] #[ti,ti,ti,fi,ti,ti,ti,ti,fi,ti,ti,ti,fi,fi] rfl rfl rfl rfl (by kernel_rfl) (by decide) (by decide) (fun K hK => ?_) (fun K hK => ?_)
         ·skip
          refine goes_ Try.func81 (by kernel_rfl) rfl #[.slice ((some ⟨gq, 0, none⟩)) q.toNat co] (by rfl) rfl rfl zbi_ ?_
          have hc_ := spec_l1Own.calls ((some ⟨gq, 0, none⟩)) co (o.take q.toNat) (o.take q.toNat) _ (by rw [HTL.out]; exact HT1.out _ (HD_9_3.out.row_reads 0 rfl).2.2) zdi_ HOWN.out; rw [HTL.out] at hc_
          refine hc_.mono ?_
          rintro e w_1 ⟨x_40, rfl, hR, hb⟩
          refine ⟨_, rfl, ?_⟩
          have HO_1 := aM (HD_9_3.out.add_row hR hb); clear hR hb hc_
          refine hK.out _ _ (zgc_) (fun hHeld => ?_)
          clear hK K
          refine nz_ 40 ?_
          refine oo_ 7 44 (fun K hK => ?_)
          refine Sep.own_lit1_step (Value.int .i64) (h1 := fun _ => rfl) HO_1.out 3 y0 (by rfl) (N := 44) rfl zd_ ?_
          intro x_44 w_2 ho _
          have HO_2 := aM ho; clear ho
          refine hK.out _ _ (zdj_) (fun hHeld => ?_)
          clear hK K
          refine nz_ 44 ?_
          exact norm_ (by simp only [putAll, Act.put, sI, s0, sS]) (hCont (x_40, x_44) _ ⟨zdj_, (((HO_2.out.front 2 rfl).front 2 rfl).front 2 rfl)⟩)
         ·skip
          refine Sep.own_lit1_step (Value.int .i64) (h1 := fun _ => rfl) HD_9_3.out 3 y0 (by rfl) (N := 44) rfl zd_ ?_
          intro x_44 w_1 ho _
          have HO_1 := aM ho; clear ho
          refine hK.out _ _ (zgc_) (fun hHeld => ?_)
          clear hK K
          refine nz_ 44 ?_
          refine oo_ 3 40 (fun K hK => ?_)
          refine goes_ Try.func81 (by kernel_rfl) rfl #[.slice ((some ⟨gq, 0, none⟩)) q.toNat co] (by rfl) rfl rfl zbi_ ?_
          have hc_ := spec_l1Own.calls ((some ⟨gq, 0, none⟩)) co (o.take q.toNat) (o.take q.toNat) _ (by rw [HTL.out]; exact HT1.out _ (HO_1.out.row_reads 1 rfl).2.2) zdi_ HOWN.out; rw [HTL.out] at hc_
          refine hc_.mono ?_
          rintro e w_2 ⟨x_40, rfl, hR, hb⟩
          refine ⟨_, rfl, ?_⟩
          have HO_2 := aM (HO_1.out.add_row hR hb); clear hR hb hc_
          refine hK.out _ _ (zdj_) (fun hHeld => ?_)
          clear hK K
          refine nz_ 40 ?_
          exact norm_ (by simp only [putAll, Act.put, sI, s0, sS]) (hCont (x_40, x_44) _ ⟨zdj_, (((HO_2.out.front 2 rfl).front 1 rfl).front 2 rfl)⟩)
        rintro ⟨x_40, x_44⟩ wj_5 ⟨hHeld, ho⟩
        obtain ⟨A_44, c_44, rfl⟩ := ho.row_slice 0 rfl; have HOJ_5 := aM ho; clear ho
        refine norm_ (a' := ?_) ?_ ?_
        rotate_left
        ·simp only [putAll, Act.put, sI, s0, sS]
         rfl
        refine oo_ 8 45 (fun K hK => ?_)
        refine Sep.own_append_all_step (Value.int .i64) (0 : Int) HOJ_5.out 1 _ ((o.take q.toNat)) 3 rfl (by rfl) (.tmp 40) (.tmp 44) 39 (.int .i64 0) 8 rfl Try.underlying39 info3 rfl (by omega) ([y0]) A_44 1 c_44 rfl rfl (HOJ_5.out.row_reads 0 rfl).2.2 zgd_ ?_
        intro x_45 w_53 ho
        have HO_53 := aM ho; clear ho
        refine hK.out _ _ ((by rw [← HY.out.1]; exact (md_at2 (Kd.C_below HI.out HO_53.out.base)).1)) (fun hHeld => ?_)
        clear hK K
        refine nz_ 45 ?_
        refine oo_ 12 49 (fun K hK => ?_)
        refine Sep.own_append_all_step (Value.int .i64) (0 : Int) HO_53.out 1 _ (((o.take q.toNat)) ++ ([y0])) 3 rfl (by rfl) (.tmp 45) (.tmp 48) 39 (.int .i64 0) 8 rfl Try.underlying39 info3 rfl (by omega) (o.drop q.toNat) Ad ((o.length - q.toNat)) ((co - q.toNat)) rfl rfl (HT2.out _ (HO_53.out.row_reads 2 rfl).2.2) zge_ ?_
        intro x_49 w_54 ho
        have HO_54 := aM ho; clear ho
        refine hK.out _ _ ((by rw [← HY.out.1]; exact (md_at2 (Kd.C_below HI.out HO_54.out.base)).1)) (fun hHeld => ?_)
        clear hK K
        refine nz_ 49 ?_
        refine oz_ 13 5 ?_
        refine done_ (by kernel_rfl) ?_
        go_wp2
        go_roundw
        case measure => simp only [intOf, hwj]; omega
        case rel => exact ⟨j + 1, mdIns id o y0, by omega, by omega, zdd_, HJ2, ⟨by rw [mdIns_length]; have := HOL.out; omega⟩, ⟨by rw [HINS.out]; exact (((HO_54.out.front 1 rfl).front 2 rfl).front 2 rfl).tail.tail⟩⟩
      ·have c3b := decide_eq_false c3
       have HQ3 := aM (show mdK id o y0 o.length = q.toNat by have e := HQ.out; rw [show q.toNat = 0 by omega] at e ⊢; rw [← e, mdK]); have HOC := aM (HO.out.row_reads 0 rfl).2.1; have HQB := aM (show q.toNat ≤ o.length by omega); have HTL := aM (show (o.take q.toNat).length = q.toNat by rw [lT]; omega); obtain ⟨ht1, ht2, ht3⟩ := print_take_of (P := Try.prog) (Value.int .i64) (0 : Int) 39 3 .i64 Try.underlying39 HIN.out HSZ.out Ao co o q hq0 (by omega) HOC.out; obtain ⟨Ad, hd1, hd2, hd3⟩ := print_drop_of (P := Try.prog) (Value.int .i64) (0 : Int) 39 3 .i64 Try.underlying39 HIN.out HSZ.out Ao co o q hq0 (by omega) HOC.out; have HT1 := aM (show ∀ w1 : World, Kd.C (Kd.int .i64) w1 Ao o.length o → Kd.C (Kd.int .i64) w1 Ao q.toNat (o.take q.toNat) from fun w1 h => by have e := Kd.C_of_reads (h1 := fun _ => rfl) (ht2 w1 (Kd.reads_of_C h)); rw [HTL.out] at e; exact e); have HT2 := aM (show ∀ w1 : World, Kd.C (Kd.int .i64) w1 Ao o.length o → Kd.C (Kd.int .i64) w1 Ad (o.length - q.toNat) (o.drop q.toNat) from fun w1 h => by have e := Kd.C_of_reads (h1 := fun _ => rfl) (hd2 w1 (Kd.reads_of_C h)); rw [lD] at e; exact e); have HOWN := aM (show spec_l1Own.f (o.take q.toNat) = some (o.take q.toNat) from by unfold spec_l1Own.f; simp only [oS, List.length_nil, Nat.zero_add, List.nil_append]; rw [if_pos (by rw [lT]; have := HOL.out; have := HL.out; omega)]); have HINS := aM (show mdIns id o y0 = o.take q.toNat ++ [y0] ++ o.drop q.toNat from by unfold mdIns; rw [show mdK id o (id y0) o.length = q.toNat from HQ3.out]); have HNL := aM (show (o.take q.toNat).length + (o.drop q.toNat).length = o.length by rw [← List.length_append, List.take_append_drop]); have HLL := aM (show o.length ≤ 1000 by have := HOL.out; have := HL.out; omega); clear ht2 ht3 hd2 hd3; (try clear hol hll)
       go_wp2
       have HD_7_2 := aM (HO.out.drew)
       refine start_ (n := 13) (S := fun w' => True) (ds := []) #[fi,fi,fi,fi,fi,fi,fi,fi,fi,fi,fi,fi,fi] (by kernel_rfl) rfl rfl trivial (fun hHeld => ?_)
       generalize wr.drew = wd_7_3 at HD_7_2 ⊢
       refine oz_ 0 22 ?_
       refine oz_ 1 23 ?_
       refine oz_ 2 24 ?_
       refine ou_ 3 25 ?_
       refine ou_ 4 26 ?_
       refine ou_ 5 27 ?_
       refine ou_ 6 28 ?_
       refine ou_ 7 29 ?_
       refine ou_ 8 30 ?_
       refine ou_ 9 31 ?_
       refine ou_ 10 32 ?_
       refine ou_ 11 33 ?_
       refine oz_ 12 34 ?_
       refine done_ (by kernel_rfl) ?_
       go_wp2
       have HD_9_3 := aM (HD_7_2.out.drew)
       refine start_ (n := 14) (S := fun w' => w'.cell? aw = some (.int .i64 y0)) (ds := []) #[fi,fi,fi,fi,fi,fi,fi,fi,fi,fi,fi,fi,fi,fi] (by kernel_rfl) rfl rfl ((by rw [← HY.out.1]; exact (md_at2 (Kd.C_below HI.out HD_9_3.out.base)).1)) (fun hHeld => ?_)
       generalize wd_7_3.drew = wd_9_4 at HD_9_3 hHeld ⊢
       refine oz_ 0 37 ?_
       refine oz_ 1 38 ?_
       refine oz_ 2 39 ?_
       refine oz_ 4 41 ?_
       refine oz_ 5 42 ?_
       refine oz_ 9 46 ?_
       refine oz_ 10 47 ?_
       refine oz_ 11 48 ?_
       refine tz1_ 6 43 hHeld ?_
       refine join_ (σ := Value × Value) 3 #[ti,ti,ti,ti,ti,ti,ti,ti,fi,ti,ti,ti,fi,fi] (fun s => [(40, s.1), (44, s.2)]) (fun s w' => (w'.cell? aw = some (.int .i64 y0)) ∧ Own w w' [Item.row (Kd.int .i64) 3 (s.2) ([y0]), Item.row (Kd.int .i64) 3 (s.1) ((o.take q.toNat)), Item.row (Kd.int .i64) 3 (.slice Ao o.length co) (o)]) ?_ ?_
       rotate_left
       ·intro hCont
        refine two_ (i := 3) (j := 7) (Ni := some 40) (Nj := some 44) #[ti,ti,ti,ti,ti,ti,ti,fi,fi,ti,ti,ti,fi,fi] #[ti,ti,ti,fi,ti,ti,ti,ti,fi,ti,ti,ti,fi,fi] rfl rfl rfl rfl (by kernel_rfl) (by decide) (by decide) (fun K hK => ?_) (fun K hK => ?_)
        ·skip
         refine goes_ Try.func81 (by kernel_rfl) rfl #[.slice Ao q.toNat co] (by rfl) rfl rfl zbi_ ?_
         have hc_ := spec_l1Own.calls Ao co (o.take q.toNat) (o.take q.toNat) _ (by rw [HTL.out]; exact HT1.out _ (HD_9_3.out.row_reads 0 rfl).2.2) zdi_ HOWN.out; rw [HTL.out] at hc_
         refine hc_.mono ?_
         rintro e w_1 ⟨x_40, rfl, hR, hb⟩
         refine ⟨_, rfl, ?_⟩
         have HO_1 := aM (HD_9_3.out.add_row hR hb); clear hR hb hc_
         refine hK.out _ _ (zgc_) (fun hHeld => ?_)
         clear hK K
         refine nz_ 40 ?_
         refine oo_ 7 44 (fun K hK => ?_)
         refine Sep.own_lit1_step (Value.int .i64) (h1 := fun _ => rfl) HO_1.out 3 y0 (by rfl) (N := 44) rfl zd_ ?_
         intro x_44 w_2 ho _
         have HO_2 := aM ho; clear ho
         refine hK.out _ _ (zdj_) (fun hHeld => ?_)
         clear hK K
         refine nz_ 44 ?_
         exact norm_ (by simp only [putAll, Act.put, sI, s0, sS]) (hCont (x_40, x_44) _ ⟨zdj_, (((HO_2.out.front 2 rfl).front 2 rfl).front 2 rfl)⟩)
        ·skip
         refine Sep.own_lit1_step (Value.int .i64) (h1 := fun _ => rfl) HD_9_3.out 3 y0 (by rfl) (N := 44) rfl zd_ ?_
         intro x_44 w_1 ho _
         have HO_1 := aM ho; clear ho
         refine hK.out _ _ (zgc_) (fun hHeld => ?_)
         clear hK K
         refine nz_ 44 ?_
         refine oo_ 3 40 (fun K hK => ?_)
         refine goes_ Try.func81 (by kernel_rfl) rfl #[.slice Ao q.toNat co] (by rfl) rfl rfl zbi_ ?_
         have hc_ := spec_l1Own.calls Ao co (o.take q.toNat) (o.take q.toNat) _ (by rw [HTL.out]; exact HT1.out _ (HO_1.out.row_reads 1 rfl).2.2) zdi_ HOWN.out; rw [HTL.out] at hc_
         refine hc_.mono ?_
         rintro e w_2 ⟨x_40, rfl, hR, hb⟩
         refine ⟨_, rfl, ?_⟩
         have HO_2 := aM (HO_1.out.add_row hR hb); clear hR hb hc_
         refine hK.out _ _ (zdj_) (fun hHeld => ?_)
         clear hK K
         refine nz_ 40 ?_
         exact norm_ (by simp only [putAll, Act.put, sI, s0, sS]) (hCont (x_40, x_44) _ ⟨zdj_, (((HO_2.out.front 2 rfl).front 1 rfl).front 2 rfl)⟩)
       rintro ⟨x_40, x_44⟩ wj_5 ⟨hHeld, ho⟩
       obtain ⟨A_44, c_44, rfl⟩ := ho.row_slice 0 rfl; have HOJ_5 := aM ho; clear ho
       refine norm_ (a' := ?_) ?_ ?_
       rotate_left
       ·simp only [putAll, Act.put, sI, s0, sS]
        rfl
       refine oo_ 8 45 (fun K hK => ?_)
       refine Sep.own_append_all_step (Value.int .i64) (0 : Int) HOJ_5.out 1 _ ((o.take q.toNat)) 3 rfl (by rfl) (.tmp 40) (.tmp 44) 39 (.int .i64 0) 8 rfl Try.underlying39 info3 rfl (by omega) ([y0]) A_44 1 c_44 rfl rfl (HOJ_5.out.row_reads 0 rfl).2.2 zgd_ ?_
       intro x_45 w_53 ho
       have HO_53 := aM ho; clear ho
       refine hK.out _ _ ((by rw [← HY.out.1]; exact (md_at2 (Kd.C_below HI.out HO_53.out.base)).1)) (fun hHeld => ?_)
       clear hK K
       refine nz_ 45 ?_
       refine oo_ 12 49 (fun K hK => ?_)
       refine Sep.own_append_all_step (Value.int .i64) (0 : Int) HO_53.out 1 _ (((o.take q.toNat)) ++ ([y0])) 3 rfl (by rfl) (.tmp 45) (.tmp 48) 39 (.int .i64 0) 8 rfl Try.underlying39 info3 rfl (by omega) (o.drop q.toNat) Ad ((o.length - q.toNat)) ((co - q.toNat)) rfl rfl (HT2.out _ (HO_53.out.row_reads 2 rfl).2.2) zge_ ?_
       intro x_49 w_54 ho
       have HO_54 := aM ho; clear ho
       refine hK.out _ _ ((by rw [← HY.out.1]; exact (md_at2 (Kd.C_below HI.out HO_54.out.base)).1)) (fun hHeld => ?_)
       clear hK K
       refine nz_ 49 ?_
       refine oz_ 13 5 ?_
       refine done_ (by kernel_rfl) ?_
       go_wp2
       go_roundw
       case measure => simp only [intOf, hwj]; omega
       case rel => exact ⟨j + 1, mdIns id o y0, by omega, by omega, zdd_, HJ2, ⟨by rw [mdIns_length]; have := HOL.out; omega⟩, ⟨by rw [HINS.out]; exact (((HO_54.out.front 1 rfl).front 2 rfl).front 2 rfl).tail.tail⟩⟩
    ·have c2b : (y1 != a1) = true := bne_iff_ne.mpr c2
     rw [if_neg c2] at hjd; have HJ2 := aM hjd; clear hjd c2; have z_1 : wr.cell? (ad.add j.toNat) = some (.slice (some aw) 2 cw) := (HX.out _ HO.out.base); have z_2 : wr.cell? ⟨aw.block, aw.off + 1, none⟩ = some (.int .i64 y1) := zgb_
     go_wp2
     go_roundw
     case measure => simp only [intOf, hwj]; omega
     case rel => exact ⟨j + 1, o, by omega, by omega, zdd_, HJ2, ⟨by have := HOL.out; omega⟩, HO⟩
   ·have c1b := decide_eq_false hj1
    obtain rfl : j = (l0.length : Int) := by omega
    have hjd := HJ.out; rw [Int.toNat_natCast, List.drop_length, mdAbove] at hjd; have HJ2 := aM hjd; clear hjd; obtain ⟨Ao, co, rfl⟩ := HO.out.row_slice 0 rfl
    by_cases c2 : o = []
    ·have HR2 := aM (show mdMidS l0 a1 = -1 from by unfold mdMidS; rw [← HJ2.out, if_pos c2])
     subst c2; clear HJ HJ2 HOL; (try rw [List.length_nil] at HO)
     go_wp2
     go_ret
     exact ⟨by rw [HR2.out]; rfl, HO.out.base⟩
    ·have hpos : 0 < o.length := List.length_pos_iff.mpr c2
     have c2b : ((o.length : Int) == 0) = false := beq_eq_false_iff_ne.mpr (by omega); have HR2 := aM (show mdMidS l0 a1 = rd o ((o.length / 2 : Nat) : Int) from by unfold mdMidS; rw [← HJ2.out, if_neg c2]); have hdv : Int.tdiv (o.length : Int) 2 = ((o.length / 2 : Nat) : Int) := by rw [Int.tdiv_eq_ediv_of_nonneg (by omega)]; rfl
     obtain ⟨hm, hhm⟩ : ∃ hm : Int, hm = ((o.length / 2 : Nat) : Int) := ⟨_, rfl⟩; rw [← hhm] at HR2 hdv; have hm0 : 0 ≤ hm := by omega
     have hm1 : hm < (o.length : Int) := by omega
     have p3 : (0 ≤ hm) = True := eq_true hm0; have q3 : (hm < (o.length : Int)) = True := eq_true hm1; have hwd : wrap64 hm = hm := by have := HOL.out; have := HL.out; unfold wrap64; omega
     obtain ⟨gq, cq, hsv⟩ := Sep.own_row_form HO.out 0 rfl hpos
     injection hsv with ha hb hc
     subst ha; subst hc; obtain ⟨z, hz⟩ : ∃ z, rd o hm = z := ⟨_, rfl⟩; have HZ := aM hz; have HM := aM (And.intro hm0 hm1); clear hb hz c2 hhm hm0 hm1 hpos; have z_1 : wr.cell? ⟨gq, hm.toNat, none⟩ = some (.int .i64 z) := (by have e := (Sep.own_row_cell (0 : Int) HO.out 0 rfl hm HM.out.1 HM.out.2).1; rw [show rdOf 0 o hm = z from HZ.out] at e; exact e)
     go_wp2
     go_ret
     exact ⟨by rw [HR2.out, HZ.out]; rfl, HO.out.base⟩
 ·cases h
end Go.Proofs.Ytlnhpkjioppbiaa.QFnLevels
