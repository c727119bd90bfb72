/- Functions of FnCrossings, each as a Lean function, with the proof that the Go code comes to its answers. -/
import Derived.Test.YtbkighlfgaifeaaSFnCrossingsx0
namespace Go.Proofs.Ytbkighlfgaifeaa.QFnCrossings
open Go.RowKit Go.Proofs.YtbkighlfgaifeaaW.PrintWords Go.Proofs.YtbkighlfgaifeaaW.PrintLast Go.Proofs.YtbkighlfgaifeaaW.PrintMore
open Go.Proofs.YtbkighlfgaifeaaW.PrintWords renaming pw_below_drewN → pN, below_drew1 → p1, below_alloc → pA
open Go.Proofs.YtbkighlfgaifeaaW.PrintWords.Kd renaming R_alloc → kA, R_drewN → kN, R_drew → kD, Q_alloc → qA, Q_drewN → qN, Q_drew → qD, C_alloc → cA, C_drewN → cN, C_drew → cD
open Go.Proofs.YtbkighlfgaifeaaW.PrintWords.Aside0 renaming mk → aM
open List renaming setIfInBounds_toArray → sI, set_cons_zero → s0, set_cons_succ → sS, map_toArray → mT, length_take → lT, length_drop → lD, map_cons → mC, map_nil → mN
open Option renaming bind_some → oS
attribute [local go_sem] max2_int min2_int max_two min_two max_three min_three max_four min_four
set_option maxHeartbeats 8000000
set_option maxRecDepth 100000
set_option linter.unusedVariables false
set_option linter.unusedSimpArgs false
mutual
def impl_crossingTable.l0 : Nat → List (List Int) → Int → List (List Int) → Int → Int → Option ((List (List Int)))
 | 0, _, _, _, _, _ => none
 | k + 1, x0, x1, x5, x14, x15 => if x15 < x14 then (if 0 ≤ x1 then (if (x1 : Int).toNat ≤ 35184372088832 then (if 0 ≤ x15 then (if x15 < (x5.length : Int) then (impl_crossingTable.l0 k x0 x1 (x5.set (x15 : Int).toNat (List.replicate (x1 : Int).toNat 0)) x14 (wrap64 (x15 + 1))) else (none)) else (none)) else (none)) else (none)) else (impl_crossingTable.l1 k x0 x5 x0 (x0.length : Int) 0)
def impl_crossingTable.l1 : Nat → List (List Int) → List (List Int) → List (List Int) → Int → Int → Option ((List (List Int)))
 | 0, _, _, _, _, _ => none
 | k + 1, x0, x5, x24, x25, x26 => if x26 < x25 then (if 0 ≤ x26 then (if x26 < (x24.length : Int) then (impl_crossingTable.l2 k x0 x5 (rd_L2 x24 x26) x24 x25 x26 x0 (x0.length : Int) 0) else (none)) else (none)) else (some x5)
def impl_crossingTable.l2 : Nat → List (List Int) → List (List Int) → List Int → List (List Int) → Int → Int → List (List Int) → Int → Int → Option ((List (List Int)))
 | 0, _, _, _, _, _, _, _, _, _ => none
 | k + 1, x0, x5, x8, x24, x25, x26, x30, x31, x32 => if x32 < x31 then (if 0 ≤ x32 then (if x32 < (x30.length : Int) then (if 1 < (x8.length : Int) then (if 1 < ((rd_L2 x30 x32).length : Int) then (if (rd x8 1) = (rd (rd_L2 x30 x32) 1) then (impl_crossingTable.l2 k x0 x5 x8 x24 x25 x26 x30 x31 (wrap64 (x32 + 1))) else (if 0 < (x8.length : Int) then (if 0 < ((rd_L2 x30 x32).length : Int) then (if (rd x8 0) > (rd (rd_L2 x30 x32) 0) then (if 0 ≤ (rd x8 1) then (if (rd x8 1) < (x5.length : Int) then (if 0 ≤ (rd (rd_L2 x30 x32) 1) then (if (rd (rd_L2 x30 x32) 1) < ((rd_L2 x5 (rd x8 1)).length : Int) then (impl_crossingTable.l2 k x0 (x5.set ((rd x8 1) : Int).toNat ((rd_L2 x5 (rd x8 1)).set ((rd (rd_L2 x30 x32) 1) : Int).toNat (wrap64 ((rd (rd_L2 x5 (rd x8 1)) (rd (rd_L2 x30 x32) 1)) + 1)))) x8 x24 x25 x26 x30 x31 (wrap64 (x32 + 1))) else (none)) else (none)) else (none)) else (none)) else (impl_crossingTable.l2 k x0 x5 x8 x24 x25 x26 x30 x31 (wrap64 (x32 + 1)))) else (none)) else (none))) else (none)) else (none)) else (none)) else (none)) else (impl_crossingTable.l1 k x0 x5 x24 x25 (wrap64 (x26 + 1)))
end
def impl_crossingTable.f (k : Nat) (l0 : List (List Int)) (a1 : Int) : Option ((List (List Int))) := if 0 ≤ a1 then (if (a1 : Int).toNat ≤ 11728124029610 then ((some (List.replicate (a1 : Int).toNat [] : List (List Int))).bind fun y136 => (impl_crossingTable.l0 k l0 a1 y136 (y136.length : Int) 0)) else (none)) else (none)
def impl_crossingTable.T13 : Bool × List (List Nat × List Nat) := (true, [([], []), ([0], [0]), ([1], [1]), ([], []), ([3], [3]), ([4], [4]), ([2, 5], [2, 5]), ([6], [6]), ([7], [7]), ([8, 7], [7, 8]), ([9, 7], [7, 9]), ([7], [7]), ([11, 7], [7, 11]), ([12, 7], [7, 12]), ([10, 13, 7], [7, 10, 13]), ([7, 14], [7, 14])])
def impl_crossingTable.B13 : List Nat := [0, 1, 3, 0, 8, 24, 63, 127, 255, 511, 1023, 255, 2303, 6399, 16383, 32767]
theorem impl_crossingTable.tab13 : rtab .any (opsOf Try.f146 13) = impl_crossingTable.T13 := by kernel_rfl
theorem impl_crossingTable.bits13 : waitsOk impl_crossingTable.T13.2 impl_crossingTable.B13 = true := by kernel_rfl
def impl_crossingTable.T14 : Bool × List (List Nat × List Nat) := (true, [([], []), ([], []), ([1], [1]), ([2], [2]), ([0, 3], [0, 3]), ([4], [4]), ([], []), ([6], [6]), ([7], [7]), ([5, 8], [5, 8]), ([9], [9]), ([10], [10]), ([5, 8, 0, 1, 2, 3, 4, 5, 6, 7, 8, 9, 10, 11], [5, 8]), ([12, 11, 0, 1, 2, 3, 4, 5, 6, 7, 8, 9, 10, 11], [11, 12])])
def impl_crossingTable.B14 : List Nat := [0, 0, 2, 6, 15, 31, 0, 64, 192, 511, 1023, 2047, 4095, 8191]
theorem impl_crossingTable.tab14 : rtab .any (opsOf Try.f146 14) = impl_crossingTable.T14 := by kernel_rfl
theorem impl_crossingTable.bits14 : waitsOk impl_crossingTable.T14.2 impl_crossingTable.B14 = true := by kernel_rfl
theorem impl_crossingTable.calls (k : Nat) (A0 : Option Addr) (c0 : Nat) (l0 : List (List Int)) (a1 : Int) (r : List (List Int)) (w : World) (hr0 : Kd.C (Kd.slice 3 (Kd.int .i64)) w A0 l0.length l0) (hc0 : l0.length ≤ c0) (h : impl_crossingTable.f k l0 a1 = some r) :
  Calls Try.prog 146 #[.slice A0 l0.length c0, .int .i64 a1] w fun e w' => ∃ v0_ : Value, e = .returned (v0_) ∧ Kd.S (Kd.slice 3 (Kd.int .i64)) 24 w' w.heap.size (fun _ => True) v0_ r ∧ Below w.heap.size w w' := by
 have HR0 := aM hr0
 have HC0 := aM hc0
 clear hr0 hc0
 have HB := aM (Below.refl w.heap.size w)
 have H : (if 0 ≤ a1 then (if (a1 : Int).toNat ≤ 11728124029610 then ((some (List.replicate (a1 : Int).toNat [] : List (List Int))).bind fun y136 => (impl_crossingTable.l0 k l0 a1 y136 (y136.length : Int) 0)) else (none)) else (none)) = some r := h
 clear h
 by_cases c3 : 0 ≤ a1
 ·rw [if_pos c3] at H
  have c3b0 := eq_true c3; have c3b1 := decide_eq_true c3; clear c3
  by_cases c4 : (a1 : Int).toNat ≤ 11728124029610
  ·rw [if_pos c4] at H
   have c4b0 := eq_true c4; have c4b1 := decide_eq_true c4; clear c4; obtain ⟨y136, hy136⟩ : ∃ y_ : List (List Int), y_ = (List.replicate (a1 : Int).toNat []) := ⟨_, rfl⟩; replace H : (impl_crossingTable.l0 k l0 a1 y136 (y136.length : Int) 0) = some r := by first | (rw [hy136]; with_reducible exact H) | (have H2_ := (oS _ _).symm.trans H; rw [hy136]; with_reducible exact H2_) | (have H2_ := (oS _ _).symm.trans H; with_reducible exact H2_) | with_reducible exact H | (rw [hy136]; exact H) | exact H
   have Ny136 := aM hy136; clear hy136; have H' := aM H; clear H
   go_enter Try.func146, Try.ntmps146
   go_wp2_with (first | ((with_reducible refine gate_dst (N := 12) rfl ?_); refine Kd.S_make (Kd.slice 3 (Kd.int .i64)) _ 24 rfl (N := 12) rfl 52 _ _ rfl a1 rfl rfl Try.underlying52 (.slice none 0 0) 24 info24 rfl (by decide) (by omega) [] (ok := fun _ => True) (okp := fun _ => True) ⟨_, rfl, Kd.R_nil _ _ _ _ _⟩ (fun _ hk => hk) trivial (of_decide_eq_true za_) (Nat.le_trans (Nat.mul_le_mul_right _ (of_decide_eq_true za_ : a1.toNat ≤ 11728124029610)) (by omega)) (Below.refl _ _) (Nat.le_refl _) ?_; intro v137 w5 ho6 hb hg_ hnew_; clear hg_ hnew_; (first | rw [← Ny136.out] at ho6 | (simp only [Int.reduceToNat] at ho6; rw [← Ny136.out] at ho6)); have n_ := z (Kd.S_lower ho6 (below_size zc_)) <| z1 (below_step zc_ hb); clear HB; obtain ⟨HO138, HB⟩ := n_; clear hb ho6; obtain ⟨Ao7, co7, eo7⟩ := Kd.S_slice HO138.out; subst eo7))
   go_loopg [15] k (fun kq v15 w' => ∃ (x5_1 : List (List Int)) (x15_1 : Int), v15 = .int .i64 x15_1 ∧ Aside0 (impl_crossingTable.l0 kq l0 a1 x5_1 (y136.length : Int) x15_1 = some r) ∧ Aside0 (kq ≤ k) ∧ Aside0 (Kd.S (Kd.slice 3 (Kd.int .i64)) 24 w' w.heap.size (fun _ => True) (.slice Ao7 y136.length co7) x5_1) ∧ Aside0 (Below w.heap.size w w'))
   case atStart => exact ⟨(y136), (0), zb_, H', ⟨Nat.le_refl _⟩, ⟨zs HO138.out⟩, ⟨zc_⟩⟩
   case round =>
    clear H'; (try clear c3b0); (try clear c3b1); (try clear c4b0); (try clear c4b1); obtain ⟨x5_1, x15_1, rfl, HA, HK1, HO_5, HB⟩ := hrel; have hl5_1 := (Kd.S_reads' HO_5.out).1; rw [hl5_1] at HO_5; (try simp only [hl5_1])
    cases gk with
    | zero => exact absurd HA.out (by simp [impl_crossingTable.l0])
    | succ k1 =>
     have H := HA.out; clear HA
     simp only [impl_crossingTable.l0] at H
     by_cases c8 : x15_1 < (y136.length : Int)
     ·rw [if_pos c8] at H
      have c8b0 := decide_eq_true c8; (try (have c8z0 := c8b0; rw [hl5_1] at c8z0)); clear c8
      by_cases c9 : 0 ≤ a1
      ·rw [if_pos c9] at H
       have c9b0 := eq_true c9; have c9b1 := decide_eq_true c9; clear c9
       by_cases c10 : (a1 : Int).toNat ≤ 35184372088832
       ·rw [if_pos c10] at H
        have c10b0 := eq_true c10; have c10b1 := decide_eq_true c10; clear c10; obtain ⟨y139, hy139⟩ : ∃ y_ : List Int, y_ = (List.replicate (a1 : Int).toNat 0) := ⟨_, rfl⟩; replace H : (if 0 ≤ x15_1 then (if x15_1 < (x5_1.length : Int) then (impl_crossingTable.l0 k1 l0 a1 (x5_1.set (x15_1 : Int).toNat y139) (y136.length : Int) (wrap64 (x15_1 + 1))) else (none)) else (none)) = some r := by first | (rw [hy139]; with_reducible exact H) | (have H2_ := (oS _ _).symm.trans H; rw [hy139]; with_reducible exact H2_) | (have H2_ := (oS _ _).symm.trans H; with_reducible exact H2_) | with_reducible exact H | (rw [hy139]; exact H) | exact H
        have Ny139 := aM hy139; clear hy139
        by_cases c11 : 0 ≤ x15_1
        ·rw [if_pos c11] at H
         have c11b0 := decide_eq_true c11; clear c11
         by_cases c12 : x15_1 < (x5_1.length : Int)
         ·rw [if_pos c12] at H
          have c12b0 := decide_eq_true c12; (try (have c12z0 := c12b0; rw [hl5_1] at c12z0)); clear c12; obtain ⟨y142, hy142⟩ : ∃ y_ : List (List Int), y_ = (x5_1.set (x15_1 : Int).toNat y139) := ⟨_, rfl⟩; replace H : (impl_crossingTable.l0 k1 l0 a1 y142 (y136.length : Int) (wrap64 (x15_1 + 1))) = some r := by first | (rw [hy142]; with_reducible exact H) | (have H2_ := (oS _ _).symm.trans H; rw [hy142]; with_reducible exact H2_) | (have H2_ := (oS _ _).symm.trans H; with_reducible exact H2_) | with_reducible exact H | (rw [hy142]; exact H) | exact H
          have Ny142 := aM hy142; clear hy142; have H' := aM H; clear H
          go_wp2_with (first | ((with_reducible refine gate_dst (N := 21) rfl ?_); refine Kd.R_make (Kd.int .i64) _ 3 rfl (N := 21) rfl 24 _ _ rfl a1 rfl rfl Try.underlying24 (.int .i64 0) 8 info3 rfl (by decide) (by omega) 0 (ok := fun _ => True) (okp := fun _ => True) rfl (fun _ hk => hk) trivial (of_decide_eq_true za_) (Nat.le_trans (Nat.mul_le_mul_right _ (of_decide_eq_true za_ : a1.toNat ≤ 35184372088832)) (by omega)) (Below.refl _ _) (Nat.le_refl _) ?_; intro v140 w14 ho15 hb hg_ hnew_; clear hg_ hnew_; (first | rw [← Ny139.out] at ho15 | (simp only [Int.reduceToNat] at ho15; rw [← Ny139.out] at ho15)); obtain ⟨Ao140, co140, eo140⟩ := (by first | exact Kd.R_slice ho15 | exact Kd.S_slice ho15 : ∃ A c, v140 = .slice A y139.length c); subst eo140; have n_ := z (Kd.S_elder' (zs HO_5.out) (Kd.R_base ho15) hb) <| z (Kd.R_lower ho15 (below_size zc_)) <| z1 (below_step zc_ hb); clear HO_5 HB; obtain ⟨HO_5, HO141, HB⟩ := n_; clear hb ho15; have p13 : 0 ≤ (x15_1 : Int) := of_decide_eq_true za_; have q13 : (x15_1 : Int) < ((x5_1.length : Int) : Int) := of_decide_eq_true za_; obtain ⟨go13, co13, eo13, gb13, gl13, cl13, HG13⟩ := Kd.S_form HO_5.out (by omega); (first | cases eo13 | (injection eo13 with ea_ en_ ec_; (first | subst ea_ | (injection ea_ with ea_; subst ea_)); subst ec_; clear en_)); have GB13 := aM gb13; have GG13 := aM HG13; clear gb13 gl13 HG13; obtain ⟨_, ce13, hcl13, hM13, hcc13, hfr13, _, _⟩ := Kd.S_elem HO_5.out [] (x15_1 : Int) p13 q13; obtain ⟨ve13_0, rfl, ge13_0⟩ := hM13; have hx13_0 := hcc13 0 _ rfl; have hf13_0 := hfr13 0; (try simp only [show ((Kd.slice 3 (Kd.int .i64))).sz = 1 from rfl, Nat.mul_one, Nat.add_zero] at hx13_0); (try simp only [show ((Kd.slice 3 (Kd.int .i64))).sz = 1 from rfl, Nat.mul_one, Nat.add_zero] at hf13_0); clear hcl13 hcc13 hfr13; (try clear hM13); replace p13 := eq_true p13; replace q13 := eq_true q13; have n_ := aM (Kd.S_mono (ok' := (fun k_ => some k_ ≠ ((Value.slice Ao140 y139.length co140) : Value).ownBlock)) HO_5.out (fun k_ hk => hk.2)); clear HO_5; have HO_5 := n_; clear n_; have HX16 := aM (show Kd.S (Kd.slice 3 (Kd.int .i64)) 24 w14 w.heap.size (fun k_ => ((fun _ => True)) k_ ∧ ¬ ((fun k_ => some k_ = ((Value.slice Ao140 y139.length co140) : Value).ownBlock)) k_) (.slice (some ⟨go13, 0, none⟩) x5_1.length co7) x5_1 from zfc_); obtain ⟨oki16, ce16, hcl16, hM16, hcc16, hfr16, hoki16, hH16⟩ := Kd.S_elem HX16.out [] (x15_1 : Int) (of_decide_eq_true za_) (by have h_ : (x15_1 : Int) < ((x5_1.length : Int) : Int) := of_decide_eq_true za_; first | exact h_ | (have e_ := (Kd.S_reads' HO_5.out).1; omega) | simpa using h_); obtain ⟨ve16_0, rfl, ge16_0⟩ := hM16; have HP16 := Kd.S_seg hH16 (of_decide_eq_true za_) (by have h_ : (x15_1 : Int) < ((x5_1.length : Int) : Int) := of_decide_eq_true za_; first | exact h_ | (have e_ := (Kd.S_reads' HO_5.out).1; omega) | simpa using h_) (seg := [(Value.slice Ao140 y139.length co140)]) (j := 0) (show 1 ≤ 1 from by decide) (x' := y139) (Kd.M_row (Kd.R_mono (Kd.R_tight rfl (Kd.R_mono (ok' := fun k_ => ((fun _ => True)) k_ ∧ k_ ≠ go13) (Kd.R_apart' (HO141.out) (Kd.S_typed HO_5.out) (by decide)) (fun k_ hk => ⟨trivial, fun e_ => (hk.2) (by rw [e_]; rfl)⟩))) (fun _ h_ => Or.inr (h_)))) (fun _ hk => hk) (fun k_ hk_ => ((Kd.R_mono (ok' := fun k_ => ((fun _ => True)) k_ ∧ k_ ≠ go13) (Kd.R_apart' (HO141.out) (Kd.S_typed HO_5.out) (by decide)) (fun k_ hk => ⟨trivial, fun e_ => (hk.2) (by rw [e_]; rfl)⟩))).1 k_ hk_.symm); have hx16_0 := hcc16 0 _ rfl; (try simp only [show ((Kd.slice 3 (Kd.int .i64))).sz = 1 from rfl, Nat.mul_one, Nat.add_zero] at hx16_0); have hf16_0 := hfr16 0; (try simp only [show ((Kd.slice 3 (Kd.int .i64))).sz = 1 from rfl, Nat.mul_one, Nat.add_zero] at hf16_0); clear hcl16 hcc16 hfr16 hoki16 hH16; (try clear hM16); (try simp only [show ((Kd.slice 3 (Kd.int .i64))).sz = 1 from rfl, Nat.mul_one, Nat.add_zero] at HP16)) | ((with_reducible refine gate_store (t := 24) (p := 22) rfl ?_); refine store_event (t := 24) (p := 22) (v := ?vo_w17) (w1 := (w14.setCell ⟨go13, (x15_1 : Int).toNat, none⟩ ((Value.slice Ao140 y139.length co140)))) ?hg ?ho ?hn ?hr ?_; (case ho => rfl); (case hg => rfl); (case hn => rfl); (case hr => exact ze_); intro w17 hw; have hg : w14.grownBy w17 (some go13) := (by rw [hw]; exact HP16.2); have hp_ : Kd.S (Kd.slice 3 (Kd.int .i64)) 24 w17 w.heap.size (fun _ => True) (.slice (some ⟨go13, 0, none⟩) x5_1.length co7) y142 := (by rw [hw, Ny142.out]; exact HP16.1); clear HP16; have n_ := z (hp_) <| z1 ((by rw [hw]; exact below_set (HB.out) GB13.out : Below w.heap.size w w17)); clear HO_5 HB HO141; obtain ⟨HO_5, HB⟩ := n_; clear hg hw hp_))
          (try simp only [← hl5_1])
          go_roundg k1
          case measure => have := HK1.out; omega
          case rel => exact ⟨(y142), (wrap64 (x15_1 + 1)), zb_, H', ⟨zbd_⟩, ⟨by (try simp only [hl5_1]); refine zs ?_; exact HO_5.out⟩, ⟨zc_⟩⟩
         ·rw [if_neg c12] at H
          exact absurd H (by simp)
        ·rw [if_neg c11] at H
         exact absurd H (by simp)
       ·rw [if_neg c10] at H
        exact absurd H (by simp)
      ·rw [if_neg c9] at H
       exact absurd H (by simp)
     ·rw [if_neg c8] at H
      have c8b0 := decide_eq_false c8; (try (have c8z0 := c8b0; rw [hl5_1] at c8z0)); clear c8; have H' := aM H; clear H
      go_wp2
      go_loopg [26] k1 (fun kq v26 w' => ∃ (x5_2 : List (List Int)) (x26_2 : Int), v26 = .int .i64 x26_2 ∧ Aside0 (impl_crossingTable.l1 kq l0 x5_2 l0 (l0.length : Int) x26_2 = some r) ∧ Aside0 (kq ≤ k1) ∧ Aside0 (Kd.S (Kd.slice 3 (Kd.int .i64)) 24 w' w.heap.size (fun _ => True) (.slice Ao7 x5_1.length co7) x5_2) ∧ Aside0 (Below w.heap.size w w'))
      case atStart => exact ⟨(x5_1), (0), zb_, H', ⟨Nat.le_refl _⟩, ⟨by (try simp only [hl5_1]); refine zs ?_; exact HO_5.out⟩, ⟨zc_⟩⟩
      case round =>
       clear H'; (try clear c8b0); obtain ⟨x5_2, x26_2, rfl, HA, HK2, HO_5, HB⟩ := hrel; have hl5_2 := (Kd.S_reads' HO_5.out).1; rw [hl5_2] at HO_5; (try simp only [hl5_2])
       cases gk with
       | zero => exact absurd HA.out (by simp [impl_crossingTable.l1])
       | succ k2 =>
        have H := HA.out; clear HA
        simp only [impl_crossingTable.l1] at H
        by_cases c18 : x26_2 < (l0.length : Int)
        ·rw [if_pos c18] at H
         have c18b0 := decide_eq_true c18; (try (have c18z0 := c18b0; rw [hl5_1] at c18z0)); (try (have c18z1 := c18b0; rw [hl5_2] at c18z1)); clear c18
         by_cases c19 : 0 ≤ x26_2
         ·rw [if_pos c19] at H
          have c19b0 := decide_eq_true c19; clear c19
          by_cases c20 : x26_2 < (l0.length : Int)
          ·rw [if_pos c20] at H
           have c20b0 := decide_eq_true c20; (try (have c20z0 := c20b0; rw [hl5_1] at c20z0)); (try (have c20z1 := c20b0; rw [hl5_2] at c20z1)); clear c20; have H' := aM H; clear H; have p143 : 0 ≤ (x26_2 : Int) := of_decide_eq_true za_; have q143 : x26_2 < (l0.length : Int) := of_decide_eq_true za_; obtain ⟨ad143, A143_0, c143_0, e143, hx143_0, hl143_0, hi143_0⟩ := at_L2 HR0.out x26_2 p143 q143
           cases e143
           (try (replace hx143_0 := (HB.out.cell (World.block_lt_of_cell? w _ hx143_0)).trans hx143_0)); have HR143_0 := aM hi143_0; have HC143_0 := aM hl143_0; clear hi143_0 hl143_0; replace p143 := eq_true p143; replace q143 := eq_true q143
           go_wp2
           go_loopg [32] k2 (fun kq v32 w' => ∃ (x5_3 : List (List Int)) (x32_3 : Int), v32 = .int .i64 x32_3 ∧ Aside0 (impl_crossingTable.l2 kq l0 x5_3 (rd_L2 l0 x26_2) l0 (l0.length : Int) x26_2 l0 (l0.length : Int) x32_3 = some r) ∧ Aside0 (kq ≤ k2) ∧ Aside0 (Kd.S (Kd.slice 3 (Kd.int .i64)) 24 w' w.heap.size (fun _ => True) (.slice Ao7 x5_2.length co7) x5_3) ∧ Aside0 (Below w.heap.size w w'))
           case atStart => exact ⟨(x5_2), (0), zb_, H', ⟨Nat.le_refl _⟩, ⟨by (try simp only [hl5_1]); (try simp only [hl5_2]); refine zs ?_; exact HO_5.out⟩, ⟨zc_⟩⟩
           case round =>
            clear H'; (try clear c18b0); (try clear c19b0); (try clear c20b0); (try clear hx143_0); (try clear p143); (try clear q143); obtain ⟨x5_3, x32_3, rfl, HA, HK3, HO_5, HB⟩ := hrel; have hl5_3 := (Kd.S_reads' HO_5.out).1; rw [hl5_3] at HO_5; (try simp only [hl5_3])
            cases gk with
            | zero => exact absurd HA.out (by simp [impl_crossingTable.l2])
            | succ k3 =>
             have H := HA.out; clear HA
             simp only [impl_crossingTable.l2] at H
             by_cases c21 : x32_3 < (l0.length : Int)
             ·rw [if_pos c21] at H
              have c21b0 := decide_eq_true c21; (try (have c21z0 := c21b0; rw [hl5_1] at c21z0)); (try (have c21z1 := c21b0; rw [hl5_2] at c21z1)); (try (have c21z2 := c21b0; rw [hl5_3] at c21z2)); clear c21
              by_cases c22 : 0 ≤ x32_3
              ·rw [if_pos c22] at H
               have c22b0 := decide_eq_true c22; clear c22
               by_cases c23 : x32_3 < (l0.length : Int)
               ·rw [if_pos c23] at H
                have c23b0 := decide_eq_true c23; (try (have c23z0 := c23b0; rw [hl5_1] at c23z0)); (try (have c23z1 := c23b0; rw [hl5_2] at c23z1)); (try (have c23z2 := c23b0; rw [hl5_3] at c23z2)); clear c23
                by_cases c24 : 1 < ((rd_L2 l0 x26_2).length : Int)
                ·rw [if_pos c24] at H
                 have c24b0 := decide_eq_true c24; (try (have c24z0 := c24b0; rw [hl5_1] at c24z0)); (try (have c24z1 := c24b0; rw [hl5_2] at c24z1)); (try (have c24z2 := c24b0; rw [hl5_3] at c24z2)); have c24b1 : decide (1 < (rd_L2 l0 x26_2).length) = true := decide_eq_true (by omega); clear c24
                 by_cases c25 : 1 < ((rd_L2 l0 x32_3).length : Int)
                 ·rw [if_pos c25] at H
                  have c25b0 := decide_eq_true c25; (try (have c25z0 := c25b0; rw [hl5_1] at c25z0)); (try (have c25z1 := c25b0; rw [hl5_2] at c25z1)); (try (have c25z2 := c25b0; rw [hl5_3] at c25z2)); have c25b1 : decide (1 < (rd_L2 l0 x32_3).length) = true := decide_eq_true (by omega); clear c25
                  by_cases c26 : (rd (rd_L2 l0 x26_2) 1) = (rd (rd_L2 l0 x32_3) 1)
                  ·rw [if_pos c26] at H
                   have c26b0 := beq_iff_eq.mpr c26; have c26b1 := bne_eq_false_iff_eq.mpr c26; clear c26; have H' := aM H; clear H; have p144 : 0 ≤ (x32_3 : Int) := of_decide_eq_true za_; have q144 : x32_3 < (l0.length : Int) := of_decide_eq_true za_; obtain ⟨ad144, A144_0, c144_0, e144, hx144_0, hl144_0, hi144_0⟩ := at_L2 HR0.out x32_3 p144 q144; obtain rfl : ad143 = ad144 := (by injection e144); (try (replace hx144_0 := (HB.out.cell (World.block_lt_of_cell? w _ hx144_0)).trans hx144_0)); have HR144_0 := aM hi144_0; have HC144_0 := aM hl144_0; clear hi144_0 hl144_0; replace p144 := eq_true p144; replace q144 := eq_true q144; (try go_wp2); have n_ := z (Kd.S_drew HO_5.out) <| z1 (p1 HB.out)
                   clear HO_5 HB; obtain ⟨HO_5, HB⟩ := n_; have p145 : 0 ≤ (1 : Int) := (by omega); have q145 : 1 < ((rd_L2 l0 x26_2).length : Int) := of_decide_eq_true za_; obtain ⟨ad145, e145, hx145_0⟩ := Kd.at_int HR143_0.out 1 p145 q145; have hw145_0 := hx145_0; (try rw [show ((1 : Int)).toNat = 1 from rfl] at hw145_0); (try rw [show 1 * 1 = 1 from rfl] at hw145_0); (try simp only [Nat.reduceMul, Nat.reduceEqDiff, Go.Addr.add, ↓reduceIte] at hw145_0)
                   cases e145
                   (try simp only [show (1 : Int).toNat = 1 from rfl, Nat.reduceMul, Nat.reduceEqDiff, Go.Addr.add, ↓reduceIte] at hx145_0); have qi145 : (1 < (rd_L2 l0 x26_2).length) = True := eq_true (by omega); (try rw [show ((1 : Int)).toNat = 1 from rfl] at hx145_0); (try (replace hx145_0 := (HB.out.cell (World.block_lt_of_cell? w _ hx145_0)).trans hx145_0)); replace p145 := eq_true p145; replace q145 := eq_true q145; have p146 : 0 ≤ (1 : Int) := (by omega); have q146 : 1 < ((rd_L2 l0 x32_3).length : Int) := of_decide_eq_true za_; obtain ⟨ad146, e146, hx146_0⟩ := Kd.at_int HR144_0.out 1 p146 q146; have hw146_0 := hx146_0; (try rw [show ((1 : Int)).toNat = 1 from rfl] at hw146_0); (try rw [show 1 * 1 = 1 from rfl] at hw146_0); (try simp only [Nat.reduceMul, Nat.reduceEqDiff, Go.Addr.add, ↓reduceIte] at hw146_0)
                   cases e146
                   (try simp only [show (1 : Int).toNat = 1 from rfl, Nat.reduceMul, Nat.reduceEqDiff, Go.Addr.add, ↓reduceIte] at hx146_0); have qi146 : (1 < (rd_L2 l0 x32_3).length) = True := eq_true (by omega); (try rw [show ((1 : Int)).toNat = 1 from rfl] at hx146_0); (try (replace hx146_0 := (HB.out.cell (World.block_lt_of_cell? w _ hx146_0)).trans hx146_0)); replace p146 := eq_true p146; replace q146 := eq_true q146
                   refine start_ (n := 16) (S := fun w' => w'.cell? ⟨ad145.block, ad145.off + 1, none⟩ = some (.int .i64 (rd (rd_L2 l0 x26_2) 1)) ∧ w'.cell? ⟨ad146.block, ad146.off + 1, none⟩ = some (.int .i64 (rd (rd_L2 l0 x32_3) 1))) (ds := []) #[fi,fi,fi,fi,fi,fi,fi,fi,fi,fi,fi,fi,fi,fi,fi,fi] (by kernel_rfl) rfl rfl ⟨((HB.out.cell (World.block_lt_of_cell? w _ hw145_0)).trans hw145_0), ((HB.out.cell (World.block_lt_of_cell? w _ hw146_0)).trans hw146_0)⟩ (fun hHeld => ?_); refine with_tabW impl_crossingTable.tab13 impl_crossingTable.bits13 (fun HT_ HW_ => ?_)
                   generalize wr.drew = w27 at HO_5 HB hx145_0 hx146_0 hHeld ⊢; refine py_ 0 36 HT_.out ?_; refine py_ 1 37 HT_.out ?_; refine py_ 3 39 HT_.out ?_; refine py_ 4 40 HT_.out ?_
                   refine take_ (i := 2) (N := some 38) (v := ?_) (a' := ?_) #[ti,ti,ti,ti,ti,fi,fi,fi,fi,fi,fi,fi,fi,fi,fi,fi] rfl rfl (take_ofW HT_.out HW_.out (by kernel_rfl)) (fun _ _ _ h => h) (Or.inl ⟨by rfl, ?_⟩) hHeld ?_ ?_
                   rotate_left
                   ·rintro w' ⟨s0, s1⟩
                    go_simp
                    with_reducible rfl
                   rotate_left
                   ·simp only [Act.put, sI, s0, sS, i64_w, i32_w]
                    rfl
                   refine take_ (i := 5) (N := some 41) (v := ?_) (a' := ?_) #[ti,ti,ti,ti,ti,ti,fi,fi,fi,fi,fi,fi,fi,fi,fi,fi] rfl rfl (take_ofW HT_.out HW_.out (by kernel_rfl)) (fun _ _ _ h => h) (Or.inl ⟨by rfl, ?_⟩) hHeld ?_ ?_
                   rotate_left
                   ·rintro w' ⟨s0, s1⟩
                    go_simp
                    with_reducible rfl
                   rotate_left
                   ·simp only [Act.put, sI, s0, sS, i64_w, i32_w]
                    rfl
                   refine py_ 6 42 HT_.out ?_; refine py_ 7 43 HT_.out ?_; refine pu_ 8 44 HT_.out ?_; refine pu_ 9 45 HT_.out ?_; refine pu_ 10 46 HT_.out ?_; refine pu_ 11 47 HT_.out ?_; refine pu_ 12 48 HT_.out ?_; refine pu_ 13 49 HT_.out ?_; refine pu_ 14 50 HT_.out ?_; refine py_ 15 51 HT_.out ?_
                   refine done_ (done_of HT_.out (by kernel_rfl)) ?_
                   (try go_wp2); (try simp only [← hl5_3])
                   go_roundg k3
                   case measure => have := HK1.out; have := HK2.out; have := HK3.out; omega
                   case rel => exact ⟨(x5_3), (wrap64 (x32_3 + 1)), zb_, H', ⟨zcd_⟩, ⟨zgc_⟩, ⟨zc_⟩⟩
                  ·rw [if_neg c26] at H
                   have c26b0 := beq_eq_false_iff_ne.mpr c26; have c26b1 := bne_iff_ne.mpr c26
                   by_cases c28 : 0 < ((rd_L2 l0 x26_2).length : Int)
                   ·rw [if_pos c28] at H
                    have c28b0 := decide_eq_true c28; (try (have c28z0 := c28b0; rw [hl5_1] at c28z0)); (try (have c28z1 := c28b0; rw [hl5_2] at c28z1)); (try (have c28z2 := c28b0; rw [hl5_3] at c28z2)); have c28b1 : decide (0 < (rd_L2 l0 x26_2).length) = true := decide_eq_true (by omega); clear c28
                    by_cases c29 : 0 < ((rd_L2 l0 x32_3).length : Int)
                    ·rw [if_pos c29] at H
                     have c29b0 := decide_eq_true c29; (try (have c29z0 := c29b0; rw [hl5_1] at c29z0)); (try (have c29z1 := c29b0; rw [hl5_2] at c29z1)); (try (have c29z2 := c29b0; rw [hl5_3] at c29z2)); have c29b1 : decide (0 < (rd_L2 l0 x32_3).length) = true := decide_eq_true (by omega); clear c29
                     by_cases c30 : (rd (rd_L2 l0 x26_2) 0) > (rd (rd_L2 l0 x32_3) 0)
                     ·rw [if_pos c30] at H
                      have c30b0 : decide ((rd (rd_L2 l0 x32_3) 0) < (rd (rd_L2 l0 x26_2) 0)) = true := decide_eq_true c30; clear c30
                      by_cases c31 : 0 ≤ (rd (rd_L2 l0 x26_2) 1)
                      ·rw [if_pos c31] at H
                       have c31b0 := decide_eq_true c31; clear c31
                       by_cases c32 : (rd (rd_L2 l0 x26_2) 1) < (x5_3.length : Int)
                       ·rw [if_pos c32] at H
                        have c32b0 := decide_eq_true c32; (try (have c32z0 := c32b0; rw [hl5_1] at c32z0)); (try (have c32z1 := c32b0; rw [hl5_2] at c32z1)); (try (have c32z2 := c32b0; rw [hl5_3] at c32z2)); clear c32
                        by_cases c33 : 0 ≤ (rd (rd_L2 l0 x32_3) 1)
                        ·rw [if_pos c33] at H
                         have c33b0 := decide_eq_true c33; clear c33
                         by_cases c34 : (rd (rd_L2 l0 x32_3) 1) < ((rd_L2 x5_3 (rd (rd_L2 l0 x26_2) 1)).length : Int)
                         ·rw [if_pos c34] at H
                          have c34b0 := decide_eq_true c34; (try (have c34z0 := c34b0; rw [hl5_1] at c34z0)); (try (have c34z1 := c34b0; rw [hl5_2] at c34z1)); (try (have c34z2 := c34b0; rw [hl5_3] at c34z2)); clear c34; obtain ⟨y153, hy153⟩ : ∃ y_ : List Int, y_ = ((rd_L2 x5_3 (rd (rd_L2 l0 x26_2) 1)).set ((rd (rd_L2 l0 x32_3) 1) : Int).toNat (wrap64 ((rd (rd_L2 x5_3 (rd (rd_L2 l0 x26_2) 1)) (rd (rd_L2 l0 x32_3) 1)) + 1))) := ⟨_, rfl⟩; replace H : (impl_crossingTable.l2 k3 l0 (x5_3.set ((rd (rd_L2 l0 x26_2) 1) : Int).toNat y153) (rd_L2 l0 x26_2) l0 (l0.length : Int) x26_2 l0 (l0.length : Int) (wrap64 (x32_3 + 1))) = some r := by first | (rw [hy153]; with_reducible exact H) | (have H2_ := (oS _ _).symm.trans H; rw [hy153]; with_reducible exact H2_) | (have H2_ := (oS _ _).symm.trans H; with_reducible exact H2_) | with_reducible exact H | (rw [hy153]; exact H) | exact H
                          have Ny153 := aM hy153; clear hy153; obtain ⟨y155, hy155⟩ : ∃ y_ : List (List Int), y_ = (x5_3.set ((rd (rd_L2 l0 x26_2) 1) : Int).toNat y153) := ⟨_, rfl⟩; replace H : (impl_crossingTable.l2 k3 l0 y155 (rd_L2 l0 x26_2) l0 (l0.length : Int) x26_2 l0 (l0.length : Int) (wrap64 (x32_3 + 1))) = some r := by first | (rw [hy155]; with_reducible exact H) | (have H2_ := (oS _ _).symm.trans H; rw [hy155]; with_reducible exact H2_) | (have H2_ := (oS _ _).symm.trans H; with_reducible exact H2_) | with_reducible exact H | (rw [hy155]; exact H) | exact H
                          have Ny155 := aM hy155; clear hy155; have H' := aM H; clear H; have p144 : 0 ≤ (x32_3 : Int) := of_decide_eq_true za_; have q144 : x32_3 < (l0.length : Int) := of_decide_eq_true za_; obtain ⟨ad144, A144_0, c144_0, e144, hx144_0, hl144_0, hi144_0⟩ := at_L2 HR0.out x32_3 p144 q144; obtain rfl : ad143 = ad144 := (by injection e144); (try (replace hx144_0 := (HB.out.cell (World.block_lt_of_cell? w _ hx144_0)).trans hx144_0)); have HR144_0 := aM hi144_0; have HC144_0 := aM hl144_0; clear hi144_0 hl144_0; replace p144 := eq_true p144; replace q144 := eq_true q144; (try go_wp2); have n_ := z (Kd.S_drew HO_5.out) <| z1 (p1 HB.out)
                          clear HO_5 HB; obtain ⟨HO_5, HB⟩ := n_; have p145 : 0 ≤ (1 : Int) := (by omega); have q145 : 1 < ((rd_L2 l0 x26_2).length : Int) := of_decide_eq_true za_; obtain ⟨ad145, e145, hx145_0⟩ := Kd.at_int HR143_0.out 1 p145 q145; have hw145_0 := hx145_0; (try rw [show ((1 : Int)).toNat = 1 from rfl] at hw145_0); (try rw [show 1 * 1 = 1 from rfl] at hw145_0); (try simp only [Nat.reduceMul, Nat.reduceEqDiff, Go.Addr.add, ↓reduceIte] at hw145_0)
                          cases e145
                          (try simp only [show (1 : Int).toNat = 1 from rfl, Nat.reduceMul, Nat.reduceEqDiff, Go.Addr.add, ↓reduceIte] at hx145_0); have qi145 : (1 < (rd_L2 l0 x26_2).length) = True := eq_true (by omega); (try rw [show ((1 : Int)).toNat = 1 from rfl] at hx145_0); (try (replace hx145_0 := (HB.out.cell (World.block_lt_of_cell? w _ hx145_0)).trans hx145_0)); replace p145 := eq_true p145; replace q145 := eq_true q145; have p146 : 0 ≤ (1 : Int) := (by omega); have q146 : 1 < ((rd_L2 l0 x32_3).length : Int) := of_decide_eq_true za_; obtain ⟨ad146, e146, hx146_0⟩ := Kd.at_int HR144_0.out 1 p146 q146; have hw146_0 := hx146_0; (try rw [show ((1 : Int)).toNat = 1 from rfl] at hw146_0); (try rw [show 1 * 1 = 1 from rfl] at hw146_0); (try simp only [Nat.reduceMul, Nat.reduceEqDiff, Go.Addr.add, ↓reduceIte] at hw146_0)
                          cases e146
                          (try simp only [show (1 : Int).toNat = 1 from rfl, Nat.reduceMul, Nat.reduceEqDiff, Go.Addr.add, ↓reduceIte] at hx146_0); have qi146 : (1 < (rd_L2 l0 x32_3).length) = True := eq_true (by omega); (try rw [show ((1 : Int)).toNat = 1 from rfl] at hx146_0); (try (replace hx146_0 := (HB.out.cell (World.block_lt_of_cell? w _ hx146_0)).trans hx146_0)); replace p146 := eq_true p146; replace q146 := eq_true q146; have p147 : 0 ≤ (0 : Int) := (by omega); have q147 : 0 < ((rd_L2 l0 x26_2).length : Int) := of_decide_eq_true za_; obtain ⟨ad147, e147, hx147_0⟩ := Kd.at_int HR143_0.out 0 p147 q147; have hw147_0 := hx147_0; (try rw [show ((0 : Int)).toNat = 0 from rfl] at hw147_0); (try rw [show 0 * 1 = 0 from rfl] at hw147_0); (try rw [Addr.add_zero'] at hw147_0); obtain rfl : ad145 = ad147 := (by injection e147); have qi147 : (0 < (rd_L2 l0 x26_2).length) = True := eq_true (by omega); (try rw [show ((0 : Int)).toNat = 0 from rfl] at hx147_0); (try rw [Addr.add_zero'] at hx147_0); (try (replace hx147_0 := (HB.out.cell (World.block_lt_of_cell? w _ hx147_0)).trans hx147_0)); replace p147 := eq_true p147; replace q147 := eq_true q147; have p148 : 0 ≤ (0 : Int) := (by omega); have q148 : 0 < ((rd_L2 l0 x32_3).length : Int) := of_decide_eq_true za_; obtain ⟨ad148, e148, hx148_0⟩ := Kd.at_int HR144_0.out 0 p148 q148; have hw148_0 := hx148_0; (try rw [show ((0 : Int)).toNat = 0 from rfl] at hw148_0); (try rw [show 0 * 1 = 0 from rfl] at hw148_0); (try rw [Addr.add_zero'] at hw148_0); obtain rfl : ad146 = ad148 := (by injection e148); have qi148 : (0 < (rd_L2 l0 x32_3).length) = True := eq_true (by omega); (try rw [show ((0 : Int)).toNat = 0 from rfl] at hx148_0); (try rw [Addr.add_zero'] at hx148_0); (try (replace hx148_0 := (HB.out.cell (World.block_lt_of_cell? w _ hx148_0)).trans hx148_0)); replace p148 := eq_true p148; replace q148 := eq_true q148
                          refine start_ (n := 16) (S := fun w' => w'.cell? ⟨ad145.block, ad145.off + 1, none⟩ = some (.int .i64 (rd (rd_L2 l0 x26_2) 1)) ∧ w'.cell? ⟨ad146.block, ad146.off + 1, none⟩ = some (.int .i64 (rd (rd_L2 l0 x32_3) 1)) ∧ w'.cell? ad145 = some (.int .i64 (rd (rd_L2 l0 x26_2) 0)) ∧ w'.cell? ad146 = some (.int .i64 (rd (rd_L2 l0 x32_3) 0))) (ds := []) #[fi,fi,fi,fi,fi,fi,fi,fi,fi,fi,fi,fi,fi,fi,fi,fi] (by kernel_rfl) rfl rfl ⟨((HB.out.cell (World.block_lt_of_cell? w _ hw145_0)).trans hw145_0), ((HB.out.cell (World.block_lt_of_cell? w _ hw146_0)).trans hw146_0), ((HB.out.cell (World.block_lt_of_cell? w _ hw147_0)).trans hw147_0), ((HB.out.cell (World.block_lt_of_cell? w _ hw148_0)).trans hw148_0)⟩ (fun hHeld => ?_); refine with_tabW impl_crossingTable.tab13 impl_crossingTable.bits13 (fun HT_ HW_ => ?_)
                          generalize wr.drew = w36 at HO_5 HB hx145_0 hx146_0 hx147_0 hx148_0 hHeld ⊢; refine py_ 0 36 HT_.out ?_; refine py_ 1 37 HT_.out ?_; refine py_ 3 39 HT_.out ?_; refine py_ 4 40 HT_.out ?_
                          refine take_ (i := 2) (N := some 38) (v := ?_) (a' := ?_) #[ti,ti,ti,ti,ti,fi,fi,fi,fi,fi,fi,fi,fi,fi,fi,fi] rfl rfl (take_ofW HT_.out HW_.out (by kernel_rfl)) (fun _ _ _ h => h) (Or.inl ⟨by rfl, ?_⟩) hHeld ?_ ?_
                          rotate_left
                          ·rintro w' ⟨s0, s1, s2, s3⟩
                           go_simp
                           with_reducible rfl
                          rotate_left
                          ·simp only [Act.put, sI, s0, sS, i64_w, i32_w]
                           rfl
                          refine take_ (i := 5) (N := some 41) (v := ?_) (a' := ?_) #[ti,ti,ti,ti,ti,ti,fi,fi,fi,fi,fi,fi,fi,fi,fi,fi] rfl rfl (take_ofW HT_.out HW_.out (by kernel_rfl)) (fun _ _ _ h => h) (Or.inl ⟨by rfl, ?_⟩) hHeld ?_ ?_
                          rotate_left
                          ·rintro w' ⟨s0, s1, s2, s3⟩
                           go_simp
                           with_reducible rfl
                          rotate_left
                          ·simp only [Act.put, sI, s0, sS, i64_w, i32_w]
                           rfl
                          refine py_ 6 42 HT_.out ?_; refine py_ 7 43 HT_.out ?_; refine py_ 8 44 HT_.out ?_; refine py_ 9 45 HT_.out ?_; refine py_ 11 47 HT_.out ?_; refine py_ 12 48 HT_.out ?_
                          refine take_ (i := 10) (N := some 46) (v := ?_) (a' := ?_) #[ti,ti,ti,ti,ti,ti,ti,ti,ti,ti,ti,ti,ti,fi,fi,fi] rfl rfl (take_ofW HT_.out HW_.out (by kernel_rfl)) (fun _ _ _ h => h) (Or.inl ⟨by rfl, ?_⟩) hHeld ?_ ?_
                          rotate_left
                          ·rintro w' ⟨s0, s1, s2, s3⟩
                           go_simp
                           with_reducible rfl
                          rotate_left
                          ·simp only [Act.put, sI, s0, sS, i64_w, i32_w]
                           rfl
                          refine take_ (i := 13) (N := some 49) (v := ?_) (a' := ?_) #[ti,ti,ti,ti,ti,ti,ti,ti,ti,ti,ti,ti,ti,ti,fi,fi] rfl rfl (take_ofW HT_.out HW_.out (by kernel_rfl)) (fun _ _ _ h => h) (Or.inl ⟨by rfl, ?_⟩) hHeld ?_ ?_
                          rotate_left
                          ·rintro w' ⟨s0, s1, s2, s3⟩
                           go_simp
                           with_reducible rfl
                          rotate_left
                          ·simp only [Act.put, sI, s0, sS, i64_w, i32_w]
                           rfl
                          refine py_ 14 50 HT_.out ?_; refine py_ 15 51 HT_.out ?_
                          refine done_ (done_of HT_.out (by kernel_rfl)) ?_
                          (try go_wp2); have n_ := z (Kd.S_drew HO_5.out) <| z1 (p1 HB.out)
                          clear HO_5 HB; obtain ⟨HO_5, HB⟩ := n_; have p149 : 0 ≤ (1 : Int) := (by omega); have q149 : 1 < ((rd_L2 l0 x26_2).length : Int) := of_decide_eq_true za_; obtain ⟨ad149, e149, hx149_0⟩ := Kd.at_int HR143_0.out 1 p149 q149; have hw149_0 := hx149_0; (try rw [show ((1 : Int)).toNat = 1 from rfl] at hw149_0); (try rw [show 1 * 1 = 1 from rfl] at hw149_0); (try simp only [Nat.reduceMul, Nat.reduceEqDiff, Go.Addr.add, ↓reduceIte] at hw149_0); obtain rfl : ad145 = ad149 := (by injection e149); (try simp only [show (1 : Int).toNat = 1 from rfl, Nat.reduceMul, Nat.reduceEqDiff, Go.Addr.add, ↓reduceIte] at hx149_0); have qi149 : (1 < (rd_L2 l0 x26_2).length) = True := eq_true (by omega); (try rw [show ((1 : Int)).toNat = 1 from rfl] at hx149_0); (try (replace hx149_0 := (HB.out.cell (World.block_lt_of_cell? w _ hx149_0)).trans hx149_0)); replace p149 := eq_true p149; replace q149 := eq_true q149; have p150 : 0 ≤ ((rd (rd_L2 l0 x26_2) 1) : Int) := of_decide_eq_true za_; have q150 : (rd (rd_L2 l0 x26_2) 1) < (x5_3.length : Int) := of_decide_eq_true za_; obtain ⟨ad150, A150_0, c150_0, e150, hx150_0, hl150_0, hi150_0⟩ := at_L2 (Kd.S_reads' HO_5.out).2.2 (rd (rd_L2 l0 x26_2) 1) p150 q150
                          cases e150
                          obtain ⟨ce150, hce150, hMe150, hcc150⟩ := Kd.S_get HO_5.out [] (rd (rd_L2 l0 x26_2) 1) p150 (by first | exact q150 | exact of_decide_eq_true za_ | (have e_ := (Kd.S_reads' HO_5.out).1; omega)); obtain ⟨ve150_0, rfl, ge150_0⟩ := hMe150; have hv150_0 := hcc150 0 _ rfl; rw [Nat.add_zero, show ((Kd.slice 3 (Kd.int .i64))).sz = 1 from rfl, Nat.mul_one] at hv150_0; replace hv150_0 := Option.some.inj (hv150_0.symm.trans hx150_0); rw [hv150_0] at ge150_0; have HL150_0 := aM (show Kd.R (Kd.int .i64) 3 _ _ _ _ (rd_L2 x5_3 (rd (rd_L2 l0 x26_2) 1)) from ge150_0); clear hv150_0 ge150_0; have HX150_0 := aM hx150_0; clear hcc150 hce150; have HR150_0 := aM hi150_0; have HC150_0 := aM hl150_0; clear hi150_0 hl150_0; replace p150 := eq_true p150; replace q150 := eq_true q150; have p151 : 0 ≤ (1 : Int) := (by omega); have q151 : 1 < ((rd_L2 l0 x32_3).length : Int) := of_decide_eq_true za_; obtain ⟨ad151, e151, hx151_0⟩ := Kd.at_int HR144_0.out 1 p151 q151; have hw151_0 := hx151_0; (try rw [show ((1 : Int)).toNat = 1 from rfl] at hw151_0); (try rw [show 1 * 1 = 1 from rfl] at hw151_0); (try simp only [Nat.reduceMul, Nat.reduceEqDiff, Go.Addr.add, ↓reduceIte] at hw151_0); obtain rfl : ad146 = ad151 := (by injection e151); (try simp only [show (1 : Int).toNat = 1 from rfl, Nat.reduceMul, Nat.reduceEqDiff, Go.Addr.add, ↓reduceIte] at hx151_0); have qi151 : (1 < (rd_L2 l0 x32_3).length) = True := eq_true (by omega); (try rw [show ((1 : Int)).toNat = 1 from rfl] at hx151_0); (try (replace hx151_0 := (HB.out.cell (World.block_lt_of_cell? w _ hx151_0)).trans hx151_0)); replace p151 := eq_true p151; replace q151 := eq_true q151; have p152 : 0 ≤ ((rd (rd_L2 l0 x32_3) 1) : Int) := of_decide_eq_true za_; have q152 : (rd (rd_L2 l0 x32_3) 1) < ((rd_L2 x5_3 (rd (rd_L2 l0 x26_2) 1)).length : Int) := of_decide_eq_true za_; obtain ⟨ad152, e152, hx152_0⟩ := Kd.at_int (by repeat (first | (with_reducible exact HR150_0.out) | (with_reducible refine cA ?_ _) | (with_reducible refine cN ?_ _) | (with_reducible refine cD ?_) | exact HR150_0.out)) (rd (rd_L2 l0 x32_3) 1) p152 q152
                          cases e152
                          replace p152 := eq_true p152; replace q152 := eq_true q152; have p35 : 0 ≤ ((rd (rd_L2 l0 x32_3) 1) : Int) := of_decide_eq_true za_; have q35 : ((rd (rd_L2 l0 x32_3) 1) : Int) < (((rd_L2 x5_3 (rd (rd_L2 l0 x26_2) 1)).length : Int) : Int) := of_decide_eq_true za_; obtain ⟨go35, co35, eo35, gb35, gl35, cl35, HG35⟩ := Kd.R_form HL150_0.out (by omega); (first | cases eo35 | (injection eo35 with ea_ en_ ec_; (first | subst ea_ | (injection ea_ with ea_; subst ea_)); subst ec_; clear en_)); have GB35 := aM gb35; have GG35 := aM HG35; clear gb35 gl35 HG35; (first | simp only [add_plain] at hx152_0 | skip); obtain ⟨hx35_0, hf35_0⟩ := Kd.R_celln 0 HL150_0.out ((rd (rd_L2 l0 x32_3) 1) : Int) p35 q35; replace p35 := eq_true p35; replace q35 := eq_true q35; have hq38 : ((rd (rd_L2 l0 x26_2) 1) : Int) < (x5_3.length : Int) := (by have h_ : ((rd (rd_L2 l0 x26_2) 1) : Int) < ((x5_3.length : Int) : Int) := of_decide_eq_true za_; first | exact h_ | (have e_ := (Kd.S_reads' HO_5.out).1; omega) | simpa only [List.length_set, List.length_set] using h_); obtain ⟨oki38, ce38, hcl38, hM38, hcc38, hok38, hbk38⟩ := Kd.S_borrow HO_5.out [] ((rd (rd_L2 l0 x26_2) 1) : Int) (of_decide_eq_true za_) hq38; obtain ⟨ve38_0, rfl, ge38_0⟩ := hM38; have hv38 := hcc38 0 _ rfl; rw [Nat.add_zero, show ((Kd.slice 3 (Kd.int .i64))).sz = 1 from rfl, Nat.mul_one] at hv38; replace hv38 := Option.some.inj (hv38.symm.trans HX150_0.out); subst hv38; clear hcc38 hcl38; replace ge38_0 := (show Kd.R (Kd.int .i64) 3 _ _ _ _ (rd_L2 x5_3 (rd (rd_L2 l0 x26_2) 1)) from ge38_0); have HP38 := Kd.R_putg ge38_0 ((rd (rd_L2 l0 x32_3) 1) : Int) (wrap64 ((rd (rd_L2 x5_3 (rd (rd_L2 l0 x26_2) 1)) (rd (rd_L2 l0 x32_3) 1)) + 1)); rw [← Ny153.out] at HP38; have HS38 := hbk38 HP38.2 (fun k_ e_ => by injection e_ with e_; subst e_; exact ge38_0.1 _ rfl) (x' := y153) (Kd.M_row HP38.1); rw [← Ny155.out] at HS38; have HQ38 := aM HS38; clear HP38 HS38 hbk38 hok38
                          refine start_ (n := 14) (S := fun w' => w'.cell? ⟨ad145.block, ad145.off + 1, none⟩ = some (.int .i64 (rd (rd_L2 l0 x26_2) 1)) ∧ w'.cell? (ad150.add ((rd (rd_L2 l0 x26_2) 1)).toNat) = some (.slice (some (⟨go35, 0, none⟩ : Addr)) (rd_L2 x5_3 (rd (rd_L2 l0 x26_2) 1)).length c150_0) ∧ w'.cell? ⟨ad146.block, ad146.off + 1, none⟩ = some (.int .i64 (rd (rd_L2 l0 x32_3) 1)) ∧ w'.cell? ⟨go35, ((rd (rd_L2 l0 x32_3) 1)).toNat, none⟩ = some (.int .i64 (rd (rd_L2 x5_3 (rd (rd_L2 l0 x26_2) 1)) (rd (rd_L2 l0 x32_3) 1)))) (ds := [13]) #[fi,fi,fi,fi,fi,fi,fi,fi,fi,fi,fi,fi,fi,fi] (by kernel_rfl) rfl rfl ⟨((HB.out.cell (World.block_lt_of_cell? w _ hw149_0)).trans hw149_0), hx150_0, ((HB.out.cell (World.block_lt_of_cell? w _ hw151_0)).trans hw151_0), hx152_0⟩ (fun hHeld => ?_); refine with_tabW impl_crossingTable.tab14 impl_crossingTable.bits14 (fun HT_ HW_ => ?_)
                          generalize w36.drew = w37 at HO_5 HB GG35 HL150_0 HQ38 HR150_0 HX150_0 hf35_0 hx149_0 hx150_0 hx151_0 hx152_0 hx35_0 hHeld ⊢; refine py_ 0 52 HT_.out ?_; refine py_ 1 53 HT_.out ?_; refine py_ 2 54 HT_.out ?_; refine py_ 6 58 HT_.out ?_; refine py_ 7 59 HT_.out ?_
                          refine take_ (i := 3) (N := some 55) (v := ?_) (a' := ?_) #[ti,ti,ti,ti,fi,fi,ti,ti,fi,fi,fi,fi,fi,fi] rfl rfl (take_ofW HT_.out HW_.out (by kernel_rfl)) (fun _ _ _ h => h) (Or.inl ⟨by rfl, ?_⟩) hHeld ?_ ?_
                          rotate_left
                          ·rintro w' ⟨s0, s1, s2, s3⟩
                           go_simp
                           with_reducible rfl
                          rotate_left
                          ·simp only [Act.put, sI, s0, sS, i64_w, i32_w]
                           rfl
                          refine py_ 4 56 HT_.out ?_
                          refine take_ (i := 5) (N := some 57) (v := ?_) (a' := ?_) #[ti,ti,ti,ti,ti,ti,ti,ti,fi,fi,fi,fi,fi,fi] rfl rfl (take_ofW HT_.out HW_.out (by kernel_rfl)) (fun _ _ _ h => h) (Or.inl ⟨by rfl, ?_⟩) hHeld ?_ ?_
                          rotate_left
                          ·rintro w' ⟨s0, s1, s2, s3⟩
                           go_simp
                           with_reducible rfl
                          rotate_left
                          ·simp only [Act.put, sI, s0, sS, i64_w, i32_w]
                           rfl
                          refine take_ (i := 8) (N := some 60) (v := ?_) (a' := ?_) #[ti,ti,ti,ti,ti,ti,ti,ti,ti,fi,fi,fi,fi,fi] rfl rfl (take_ofW HT_.out HW_.out (by kernel_rfl)) (fun _ _ _ h => h) (Or.inl ⟨by rfl, ?_⟩) hHeld ?_ ?_
                          rotate_left
                          ·rintro w' ⟨s0, s1, s2, s3⟩
                           go_simp
                           with_reducible rfl
                          rotate_left
                          ·simp only [Act.put, sI, s0, sS, i64_w, i32_w]
                           rfl
                          refine py_ 9 61 HT_.out ?_
                          refine take_ (i := 10) (N := some 62) (v := ?_) (a' := ?_) #[ti,ti,ti,ti,ti,ti,ti,ti,ti,ti,ti,fi,fi,fi] rfl rfl (take_ofW HT_.out HW_.out (by kernel_rfl)) (fun _ _ _ h => h) (Or.inl ⟨by rfl, ?_⟩) hHeld ?_ ?_
                          rotate_left
                          ·rintro w' ⟨s0, s1, s2, s3⟩
                           go_simp
                           with_reducible rfl
                          rotate_left
                          ·simp only [Act.put, sI, s0, sS, i64_w, i32_w]
                           rfl
                          refine py_ 11 63 HT_.out ?_; refine py_ 12 64 HT_.out ?_
                          refine last_ (i := 13) (N := none) #[ti,ti,ti,ti,ti,ti,ti,ti,ti,ti,ti,ti,ti,ti] rfl rfl (one_of HT_.out (by kernel_rfl)) (by decide) (fun K hK => ?_)
                          refine skip_ (w1 := ?_) (by rfl) rfl ?_ ?_
                          rotate_left
                          ·go_simp
                           rfl
                          refine hK.out _ _ ?_
                          clear hK K
                          refine done_ (done_of HT_.out (by kernel_rfl)) ?_
                          (try go_wp2); (try simp only [← hl5_3])
                          go_roundg k3
                          case measure => have := HK1.out; have := HK2.out; have := HK3.out; omega
                          case rel => exact ⟨(y155), (wrap64 (x32_3 + 1)), zb_, H', ⟨zcd_⟩, ⟨by (try simp only [hl5_1]); (try simp only [hl5_2]); (try simp only [hl5_3]); refine zs ?_; exact HQ38.out⟩, ⟨by repeat (first | (with_reducible first | exact HB.out | apply pA | apply pN | apply p1 | refine below_set ?_ GB35.out) | exact HB.out)⟩⟩
                         ·rw [if_neg c34] at H
                          exact absurd H (by simp)
                        ·rw [if_neg c33] at H
                         exact absurd H (by simp)
                       ·rw [if_neg c32] at H
                        exact absurd H (by simp)
                      ·rw [if_neg c31] at H
                       exact absurd H (by simp)
                     ·rw [if_neg c30] at H
                      have c30b0 : decide ((rd (rd_L2 l0 x32_3) 0) < (rd (rd_L2 l0 x26_2) 0)) = false := decide_eq_false c30; clear c30; have H' := aM H; clear H; have p144 : 0 ≤ (x32_3 : Int) := of_decide_eq_true za_; have q144 : x32_3 < (l0.length : Int) := of_decide_eq_true za_; obtain ⟨ad144, A144_0, c144_0, e144, hx144_0, hl144_0, hi144_0⟩ := at_L2 HR0.out x32_3 p144 q144; obtain rfl : ad143 = ad144 := (by injection e144); (try (replace hx144_0 := (HB.out.cell (World.block_lt_of_cell? w _ hx144_0)).trans hx144_0)); have HR144_0 := aM hi144_0; have HC144_0 := aM hl144_0; clear hi144_0 hl144_0; replace p144 := eq_true p144; replace q144 := eq_true q144; (try go_wp2); have n_ := z (Kd.S_drew HO_5.out) <| z1 (p1 HB.out)
                      clear HO_5 HB; obtain ⟨HO_5, HB⟩ := n_; have p145 : 0 ≤ (1 : Int) := (by omega); have q145 : 1 < ((rd_L2 l0 x26_2).length : Int) := of_decide_eq_true za_; obtain ⟨ad145, e145, hx145_0⟩ := Kd.at_int HR143_0.out 1 p145 q145; have hw145_0 := hx145_0; (try rw [show ((1 : Int)).toNat = 1 from rfl] at hw145_0); (try rw [show 1 * 1 = 1 from rfl] at hw145_0); (try simp only [Nat.reduceMul, Nat.reduceEqDiff, Go.Addr.add, ↓reduceIte] at hw145_0)
                      cases e145
                      (try simp only [show (1 : Int).toNat = 1 from rfl, Nat.reduceMul, Nat.reduceEqDiff, Go.Addr.add, ↓reduceIte] at hx145_0); have qi145 : (1 < (rd_L2 l0 x26_2).length) = True := eq_true (by omega); (try rw [show ((1 : Int)).toNat = 1 from rfl] at hx145_0); (try (replace hx145_0 := (HB.out.cell (World.block_lt_of_cell? w _ hx145_0)).trans hx145_0)); replace p145 := eq_true p145; replace q145 := eq_true q145; have p146 : 0 ≤ (1 : Int) := (by omega); have q146 : 1 < ((rd_L2 l0 x32_3).length : Int) := of_decide_eq_true za_; obtain ⟨ad146, e146, hx146_0⟩ := Kd.at_int HR144_0.out 1 p146 q146; have hw146_0 := hx146_0; (try rw [show ((1 : Int)).toNat = 1 from rfl] at hw146_0); (try rw [show 1 * 1 = 1 from rfl] at hw146_0); (try simp only [Nat.reduceMul, Nat.reduceEqDiff, Go.Addr.add, ↓reduceIte] at hw146_0)
                      cases e146
                      (try simp only [show (1 : Int).toNat = 1 from rfl, Nat.reduceMul, Nat.reduceEqDiff, Go.Addr.add, ↓reduceIte] at hx146_0); have qi146 : (1 < (rd_L2 l0 x32_3).length) = True := eq_true (by omega); (try rw [show ((1 : Int)).toNat = 1 from rfl] at hx146_0); (try (replace hx146_0 := (HB.out.cell (World.block_lt_of_cell? w _ hx146_0)).trans hx146_0)); replace p146 := eq_true p146; replace q146 := eq_true q146; have p147 : 0 ≤ (0 : Int) := (by omega); have q147 : 0 < ((rd_L2 l0 x26_2).length : Int) := of_decide_eq_true za_; obtain ⟨ad147, e147, hx147_0⟩ := Kd.at_int HR143_0.out 0 p147 q147; have hw147_0 := hx147_0; (try rw [show ((0 : Int)).toNat = 0 from rfl] at hw147_0); (try rw [show 0 * 1 = 0 from rfl] at hw147_0); (try rw [Addr.add_zero'] at hw147_0); obtain rfl : ad145 = ad147 := (by injection e147); have qi147 : (0 < (rd_L2 l0 x26_2).length) = True := eq_true (by omega); (try rw [show ((0 : Int)).toNat = 0 from rfl] at hx147_0); (try rw [Addr.add_zero'] at hx147_0); (try (replace hx147_0 := (HB.out.cell (World.block_lt_of_cell? w _ hx147_0)).trans hx147_0)); replace p147 := eq_true p147; replace q147 := eq_true q147; have p148 : 0 ≤ (0 : Int) := (by omega); have q148 : 0 < ((rd_L2 l0 x32_3).length : Int) := of_decide_eq_true za_; obtain ⟨ad148, e148, hx148_0⟩ := Kd.at_int HR144_0.out 0 p148 q148; have hw148_0 := hx148_0; (try rw [show ((0 : Int)).toNat = 0 from rfl] at hw148_0); (try rw [show 0 * 1 = 0 from rfl] at hw148_0); (try rw [Addr.add_zero'] at hw148_0); obtain rfl : ad146 = ad148 := (by injection e148); have qi148 : (0 < (rd_L2 l0 x32_3).length) = True := eq_true (by omega); (try rw [show ((0 : Int)).toNat = 0 from rfl] at hx148_0); (try rw [Addr.add_zero'] at hx148_0); (try (replace hx148_0 := (HB.out.cell (World.block_lt_of_cell? w _ hx148_0)).trans hx148_0)); replace p148 := eq_true p148; replace q148 := eq_true q148
                      refine start_ (n := 16) (S := fun w' => w'.cell? ⟨ad145.block, ad145.off + 1, none⟩ = some (.int .i64 (rd (rd_L2 l0 x26_2) 1)) ∧ w'.cell? ⟨ad146.block, ad146.off + 1, none⟩ = some (.int .i64 (rd (rd_L2 l0 x32_3) 1)) ∧ w'.cell? ad145 = some (.int .i64 (rd (rd_L2 l0 x26_2) 0)) ∧ w'.cell? ad146 = some (.int .i64 (rd (rd_L2 l0 x32_3) 0))) (ds := []) #[fi,fi,fi,fi,fi,fi,fi,fi,fi,fi,fi,fi,fi,fi,fi,fi] (by kernel_rfl) rfl rfl ⟨((HB.out.cell (World.block_lt_of_cell? w _ hw145_0)).trans hw145_0), ((HB.out.cell (World.block_lt_of_cell? w _ hw146_0)).trans hw146_0), ((HB.out.cell (World.block_lt_of_cell? w _ hw147_0)).trans hw147_0), ((HB.out.cell (World.block_lt_of_cell? w _ hw148_0)).trans hw148_0)⟩ (fun hHeld => ?_); refine with_tabW impl_crossingTable.tab13 impl_crossingTable.bits13 (fun HT_ HW_ => ?_)
                      generalize wr.drew = w40 at HO_5 HB hx145_0 hx146_0 hx147_0 hx148_0 hHeld ⊢; refine py_ 0 36 HT_.out ?_; refine py_ 1 37 HT_.out ?_; refine py_ 3 39 HT_.out ?_; refine py_ 4 40 HT_.out ?_
                      refine take_ (i := 2) (N := some 38) (v := ?_) (a' := ?_) #[ti,ti,ti,ti,ti,fi,fi,fi,fi,fi,fi,fi,fi,fi,fi,fi] rfl rfl (take_ofW HT_.out HW_.out (by kernel_rfl)) (fun _ _ _ h => h) (Or.inl ⟨by rfl, ?_⟩) hHeld ?_ ?_
                      rotate_left
                      ·rintro w' ⟨s0, s1, s2, s3⟩
                       go_simp
                       with_reducible rfl
                      rotate_left
                      ·simp only [Act.put, sI, s0, sS, i64_w, i32_w]
                       rfl
                      refine take_ (i := 5) (N := some 41) (v := ?_) (a' := ?_) #[ti,ti,ti,ti,ti,ti,fi,fi,fi,fi,fi,fi,fi,fi,fi,fi] rfl rfl (take_ofW HT_.out HW_.out (by kernel_rfl)) (fun _ _ _ h => h) (Or.inl ⟨by rfl, ?_⟩) hHeld ?_ ?_
                      rotate_left
                      ·rintro w' ⟨s0, s1, s2, s3⟩
                       go_simp
                       with_reducible rfl
                      rotate_left
                      ·simp only [Act.put, sI, s0, sS, i64_w, i32_w]
                       rfl
                      refine py_ 6 42 HT_.out ?_; refine py_ 7 43 HT_.out ?_; refine py_ 8 44 HT_.out ?_; refine py_ 9 45 HT_.out ?_; refine py_ 11 47 HT_.out ?_; refine py_ 12 48 HT_.out ?_
                      refine take_ (i := 10) (N := some 46) (v := ?_) (a' := ?_) #[ti,ti,ti,ti,ti,ti,ti,ti,ti,ti,ti,ti,ti,fi,fi,fi] rfl rfl (take_ofW HT_.out HW_.out (by kernel_rfl)) (fun _ _ _ h => h) (Or.inl ⟨by rfl, ?_⟩) hHeld ?_ ?_
                      rotate_left
                      ·rintro w' ⟨s0, s1, s2, s3⟩
                       go_simp
                       with_reducible rfl
                      rotate_left
                      ·simp only [Act.put, sI, s0, sS, i64_w, i32_w]
                       rfl
                      refine take_ (i := 13) (N := some 49) (v := ?_) (a' := ?_) #[ti,ti,ti,ti,ti,ti,ti,ti,ti,ti,ti,ti,ti,ti,fi,fi] rfl rfl (take_ofW HT_.out HW_.out (by kernel_rfl)) (fun _ _ _ h => h) (Or.inl ⟨by rfl, ?_⟩) hHeld ?_ ?_
                      rotate_left
                      ·rintro w' ⟨s0, s1, s2, s3⟩
                       go_simp
                       with_reducible rfl
                      rotate_left
                      ·simp only [Act.put, sI, s0, sS, i64_w, i32_w]
                       rfl
                      refine py_ 14 50 HT_.out ?_; refine py_ 15 51 HT_.out ?_
                      refine done_ (done_of HT_.out (by kernel_rfl)) ?_
                      (try go_wp2); (try simp only [← hl5_3])
                      go_roundg k3
                      case measure => have := HK1.out; have := HK2.out; have := HK3.out; omega
                      case rel => exact ⟨(x5_3), (wrap64 (x32_3 + 1)), zb_, H', ⟨zcd_⟩, ⟨zgc_⟩, ⟨zc_⟩⟩
                    ·rw [if_neg c29] at H
                     exact absurd H (by simp)
                   ·rw [if_neg c28] at H
                    exact absurd H (by simp)
                 ·rw [if_neg c25] at H
                  exact absurd H (by simp)
                ·rw [if_neg c24] at H
                 exact absurd H (by simp)
               ·rw [if_neg c23] at H
                exact absurd H (by simp)
              ·rw [if_neg c22] at H
               exact absurd H (by simp)
             ·rw [if_neg c21] at H
              have c21b0 := decide_eq_false c21; (try (have c21z0 := c21b0; rw [hl5_1] at c21z0)); (try (have c21z1 := c21b0; rw [hl5_2] at c21z1)); (try (have c21z2 := c21b0; rw [hl5_3] at c21z2)); clear c21; have H' := aM H; clear H
              go_wp2
              (try simp only [← hl5_2, ← hl5_3])
              go_roundg k3
              case measure => have := HK1.out; have := HK2.out; have := HK3.out; omega
              case rel => exact ⟨(x5_3), (wrap64 (x26_2 + 1)), zb_, H', ⟨zcd_⟩, ⟨zgc_⟩, ⟨zc_⟩⟩
          ·rw [if_neg c20] at H
           exact absurd H (by simp)
         ·rw [if_neg c19] at H
          exact absurd H (by simp)
        ·rw [if_neg c18] at H
         have c18b0 := decide_eq_false c18; (try (have c18z0 := c18b0; rw [hl5_1] at c18z0)); (try (have c18z1 := c18b0; rw [hl5_2] at c18z1)); clear c18; obtain rfl := Option.some.inj H
         go_wp2
         go_ret
         exact ⟨_, zg_, by refine zs ?_; exact HO_5.out, zc_⟩
  ·rw [if_neg c4] at H
   exact absurd H (by simp)
 ·rw [if_neg c3] at H
  exact absurd H (by simp)
end Go.Proofs.Ytbkighlfgaifeaa.QFnCrossings
