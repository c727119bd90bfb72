/- Functions of FnGates, each as a Lean function, with the proof that the Go code comes to its answers. -/
import Derived.Test.YtbkighlfgaifeaaSFnGatesx0
import Derived.Test.YtbkighlfgaifeaaSFnGatesx1
import Derived.Test.YtbkighlfgaifeaaSFnGatesx2
import Derived.Test.YtbkighlfgaifeaaSFnGatesx4
import Derived.Test.YtbkighlfgaifeaaSFnGatesx5
import Derived.Test.YtbkighlfgaifeaaSFnGatesx9
import Derived.Test.YtbkighlfgaifeaaSFnGatesx14
namespace Go.Proofs.Ytbkighlfgaifeaa.QFnGates
open Go.RowKit Go.Proofs.YtbkighlfgaifeaaW.PrintWords Go.Proofs.YtbkighlfgaifeaaW.PrintLast Go.Proofs.YtbkighlfgaifeaaW.PrintMore
open Go.Proofs.YtbkighlfgaifeaaW.PrintWords renaming pw_below_drewN → pN, below_drew1 → p1, below_alloc → pA
open Go.Proofs.YtbkighlfgaifeaaW.PrintWords.Kd renaming R_alloc → kA, R_drewN → kN, R_drew → kD, Q_alloc → qA, Q_drewN → qN, Q_drew → qD, C_alloc → cA, C_drewN → cN, C_drew → cD
open Go.Proofs.YtbkighlfgaifeaaW.PrintWords.Aside0 renaming mk → aM
open List renaming setIfInBounds_toArray → sI, set_cons_zero → s0, set_cons_succ → sS, map_toArray → mT, length_take → lT, length_drop → lD, map_cons → mC, map_nil → mN
open Option renaming bind_eq_some_iff → oB, bind_some → oS
attribute [local go_sem] max2_int min2_int max_two min_two max_three min_three max_four min_four
set_option maxHeartbeats 8000000
set_option maxRecDepth 100000
set_option linter.unusedVariables false
set_option linter.unusedSimpArgs false
mutual
def impl_DependsOn.l0 : Nat → List Int → Int → Int → List Int → Option (List Int × Bool)
 | 0, _, _, _, _ => none
 | k + 1, x4, x5, x384000, x384001 => if x5 < x384000 then (impl_DependsOn.l1 k x4 x5 x384001 (x384001.length : Int) 0 x384000 x384001) else (some (x4, true))
def impl_DependsOn.l1 : Nat → List Int → Int → List Int → Int → Int → Int → List Int → Option (List Int × Bool)
 | 0, _, _, _, _, _, _, _ => none
 | k + 1, x4, x5, x19, x20, x21, x384000, x384001 => if x21 < x20 then (if 0 ≤ x21 then (if x21 < (x19.length : Int) then (if 0 ≤ x5 then (if 0 ≤ (Go.bits .xor .i64 x21 (shl .i64 1 x5)) then (if (Go.bits .xor .i64 x21 (shl .i64 1 x5)) < (x384001.length : Int) then (if (rd x19 x21) = (rd x384001 (Go.bits .xor .i64 x21 (shl .i64 1 x5))) then (impl_DependsOn.l1 k x4 x5 x19 x20 (wrap64 (x21 + 1)) x384000 x384001) else (if x4.length < 17592186044416 then (impl_DependsOn.l0 k (x4 ++ [x5]) (wrap64 (x5 + 1)) x384000 x384001) else (none))) else (none)) else (none)) else (none)) else (none)) else (none)) else (impl_DependsOn.l0 k x4 (wrap64 (x5 + 1)) x384000 x384001)
end
def impl_DependsOn.f (k : Nat) (a0_0 : Int) (l0_1 : List Int) : Option (List Int × Bool) := (impl_IsTable.f k a0_0 l0_1).bind fun t384 => (if t384 = true then (impl_DependsOn.l0 k (([] : List Int)) 0 a0_0 l0_1) else (some (([] : List Int), false)))
theorem impl_DependsOn.calls (k : Nat) (a0_0 : Int) (A0_1 : Option Addr) (c0_1 : Nat) (l0_1 : List Int) (r1 : List Int) (r2 : Bool) (w : World) (hr0_1 : Kd.C (Kd.int .i64) w A0_1 l0_1.length l0_1) (hc0_1 : l0_1.length ≤ c0_1) (h : impl_DependsOn.f k a0_0 l0_1 = some (r1, r2)) :
  Calls Try.prog 40 #[.agg #[.int .i64 a0_0, .slice A0_1 l0_1.length c0_1]] w fun e w' => ∃ v0_ : Value, e = .returned (.tuple #[v0_, .bool r2]) ∧ Kd.R (Kd.int .i64) 3 w' w.heap.size (fun _ => True) v0_ r1 ∧ Below w.heap.size w w' := by
 have hu60 := Try.underlying60
 have HR0_1 := aM hr0_1
 have HC0_1 := aM hc0_1
 clear hr0_1 hc0_1
 have HB := aM (Below.refl w.heap.size w)
 have H : ((impl_IsTable.f k a0_0 l0_1).bind fun t384 => (if t384 = true then (impl_DependsOn.l0 k (([] : List Int)) 0 a0_0 l0_1) else (some (([] : List Int), false)))) = some (r1, r2) := h
 clear h
 replace H := oB.mp H
 obtain ⟨t384, A20, H⟩ := H
 replace H : (if t384 = true then (impl_DependsOn.l0 k (([] : List Int)) 0 a0_0 l0_1) else (some (([] : List Int), false))) = some (r1, r2) := H
 have A2 := aM A20
 clear A20
 by_cases c3 : t384 = true
 ·subst c3
  have H1 : (impl_DependsOn.l0 k (([] : List Int)) 0 a0_0 l0_1) = some (r1, r2) := by rw [if_pos rfl] at H; exact H
  clear H; have H := H1; clear H1; obtain ⟨y385, hy385⟩ : ∃ y_ : List Int, y_ = (([] : List Int)) := ⟨_, rfl⟩; replace H : (impl_DependsOn.l0 k y385 0 a0_0 l0_1) = some (r1, r2) := by first | (rw [hy385]; with_reducible exact H) | (have H2_ := (oS _ _).symm.trans H; rw [hy385]; with_reducible exact H2_) | (have H2_ := (oS _ _).symm.trans H; with_reducible exact H2_) | with_reducible exact H | (rw [hy385]; exact H) | exact H
  have Ny385 := aM hy385; clear hy385; have H' := aM H; clear H
  go_enter Try.func40, Try.ntmps40
  go_wp2_with (first | ((with_reducible refine gate_dst (N := 1) rfl ?_); refine box_event ?hg (N := 1) ?hd (cs := #[.int .i64 a0_0, .slice A0_1 l0_1.length c0_1]) (t := 60) ?hr ?_; (case hd => rfl); (case hg => rfl); (case hr => exact zc_); intro gb383 hg w4 hbox hb; have n_ := z (below_step zb_ hb) <| z (hbox) <| z ((by rw [hg]; exact (below_size zb_) : w.heap.size ≤ gb383)) <| z1 ((by rw [hg]; exact (below_size zb_) : w.heap.size ≤ gb383)); clear HB; obtain ⟨HB, BK383, GW383, GE383⟩ := n_; clear hb hbox hg; have hcz5_0 : w4.cell? ⟨gb383, 0, none⟩ = some (.int .i64 a0_0) := (blk_cell BK383.out 0).trans rfl; have hcz5_1 : w4.cell? ⟨gb383, 1, none⟩ = some (.slice A0_1 l0_1.length c0_1) := (blk_cell BK383.out 1).trans rfl; have hfz5_0 := blk_frozen BK383.out 0; have hfz5_1 := blk_frozen BK383.out 1) | (go_at_call 127; (with_reducible refine (impl_IsTable.calls k a0_0 _ _ l0_1 true _ ?side1 ?side2 A2.out).mono ?_); (case side1 => exact zg_); (case side2 => exact HC0_1.out); rintro e w6 ⟨rfl, hb⟩; have n_ := z (blk_below (zb BK383.out) hb) <| z1 (below_step zbj_ hb); clear BK383 HB; obtain ⟨BK383, HB⟩ := n_; clear hb) | ((with_reducible refine gate_dst (N := 11) rfl ?_); refine Kd.R_lit (Kd.int .i64) _ 3 ?hg (N := 11) ?hd (xs := ([] : List Int)) (inner := []) (ok := fun _ => True) (okp := fun _ => True) ?hr ?hp (fun _ hk => hk) trivial (Below.refl _ _) (Nat.le_refl _) (by simp) ?_; (case hd => rfl); (case hg => rfl); (case hr => exact zc_); (case hp => exact (Reps.none _ _)); intro v386 w7 ho8 hb hg_ hnew_; clear hg_ hnew_; (first | rw [← Ny385.out] at ho8 | (simp only [Int.reduceToNat] at ho8; rw [← Ny385.out] at ho8)); have n_ := z (Kd.R_lower ho8 (below_size zbj_)) <| z (blk_below (zb BK383.out) hb) <| z1 (below_step zbj_ hb); clear BK383 HB; obtain ⟨HO387, BK383, HB⟩ := n_; clear hb ho8))
  repeat (go_quiet (first | ((with_reducible refine gate_dst (N := 1) rfl ?_); refine box_event ?hg (N := 1) ?hd (cs := #[.int .i64 a0_0, .slice A0_1 l0_1.length c0_1]) (t := 60) ?hr ?_; (case hd => rfl); (case hg => rfl); (case hr => exact zc_); intro gb383 hg w4 hbox hb; have n_ := z (below_step zb_ hb) <| z (hbox) <| z ((by rw [hg]; exact (below_size zb_) : w.heap.size ≤ gb383)) <| z1 ((by rw [hg]; exact (below_size zb_) : w.heap.size ≤ gb383)); clear HB; obtain ⟨HB, BK383, GW383, GE383⟩ := n_; clear hb hbox hg; have hcz5_0 : w4.cell? ⟨gb383, 0, none⟩ = some (.int .i64 a0_0) := (blk_cell BK383.out 0).trans rfl; have hcz5_1 : w4.cell? ⟨gb383, 1, none⟩ = some (.slice A0_1 l0_1.length c0_1) := (blk_cell BK383.out 1).trans rfl; have hfz5_0 := blk_frozen BK383.out 0; have hfz5_1 := blk_frozen BK383.out 1) | (go_at_call 127; (with_reducible refine (impl_IsTable.calls k a0_0 _ _ l0_1 true _ ?side1 ?side2 A2.out).mono ?_); (case side1 => exact zg_); (case side2 => exact HC0_1.out); rintro e w6 ⟨rfl, hb⟩; have n_ := z (blk_below (zb BK383.out) hb) <| z1 (below_step zbj_ hb); clear BK383 HB; obtain ⟨BK383, HB⟩ := n_; clear hb) | ((with_reducible refine gate_dst (N := 11) rfl ?_); refine Kd.R_lit (Kd.int .i64) _ 3 ?hg (N := 11) ?hd (xs := ([] : List Int)) (inner := []) (ok := fun _ => True) (okp := fun _ => True) ?hr ?hp (fun _ hk => hk) trivial (Below.refl _ _) (Nat.le_refl _) (by simp) ?_; (case hd => rfl); (case hg => rfl); (case hr => exact zc_); (case hp => exact (Reps.none _ _)); intro v386 w7 ho8 hb hg_ hnew_; clear hg_ hnew_; (first | rw [← Ny385.out] at ho8 | (simp only [Int.reduceToNat] at ho8; rw [← Ny385.out] at ho8)); have n_ := z (Kd.R_lower ho8 (below_size zbj_)) <| z (blk_below (zb BK383.out) hb) <| z1 (below_step zbj_ hb); clear BK383 HB; obtain ⟨HO387, BK383, HB⟩ := n_; clear hb ho8)); try go_wp2_with (first | ((with_reducible refine gate_dst (N := 1) rfl ?_); refine box_event ?hg (N := 1) ?hd (cs := #[.int .i64 a0_0, .slice A0_1 l0_1.length c0_1]) (t := 60) ?hr ?_; (case hd => rfl); (case hg => rfl); (case hr => exact zc_); intro gb383 hg w4 hbox hb; have n_ := z (below_step zb_ hb) <| z (hbox) <| z ((by rw [hg]; exact (below_size zb_) : w.heap.size ≤ gb383)) <| z1 ((by rw [hg]; exact (below_size zb_) : w.heap.size ≤ gb383)); clear HB; obtain ⟨HB, BK383, GW383, GE383⟩ := n_; clear hb hbox hg; have hcz5_0 : w4.cell? ⟨gb383, 0, none⟩ = some (.int .i64 a0_0) := (blk_cell BK383.out 0).trans rfl; have hcz5_1 : w4.cell? ⟨gb383, 1, none⟩ = some (.slice A0_1 l0_1.length c0_1) := (blk_cell BK383.out 1).trans rfl; have hfz5_0 := blk_frozen BK383.out 0; have hfz5_1 := blk_frozen BK383.out 1) | (go_at_call 127; (with_reducible refine (impl_IsTable.calls k a0_0 _ _ l0_1 true _ ?side1 ?side2 A2.out).mono ?_); (case side1 => exact zg_); (case side2 => exact HC0_1.out); rintro e w6 ⟨rfl, hb⟩; have n_ := z (blk_below (zb BK383.out) hb) <| z1 (below_step zbj_ hb); clear BK383 HB; obtain ⟨BK383, HB⟩ := n_; clear hb) | ((with_reducible refine gate_dst (N := 11) rfl ?_); refine Kd.R_lit (Kd.int .i64) _ 3 ?hg (N := 11) ?hd (xs := ([] : List Int)) (inner := []) (ok := fun _ => True) (okp := fun _ => True) ?hr ?hp (fun _ hk => hk) trivial (Below.refl _ _) (Nat.le_refl _) (by simp) ?_; (case hd => rfl); (case hg => rfl); (case hr => exact zc_); (case hp => exact (Reps.none _ _)); intro v386 w7 ho8 hb hg_ hnew_; clear hg_ hnew_; (first | rw [← Ny385.out] at ho8 | (simp only [Int.reduceToNat] at ho8; rw [← Ny385.out] at ho8)); have n_ := z (Kd.R_lower ho8 (below_size zbj_)) <| z (blk_below (zb BK383.out) hb) <| z1 (below_step zbj_ hb); clear BK383 HB; obtain ⟨HO387, BK383, HB⟩ := n_; clear hb ho8)))
  go_loopg [4, 5] k (fun kq v4 v5 w' => ∃ (x4_1 : List Int) (x5_1 : Int), v5 = .int .i64 x5_1 ∧ Aside0 (impl_DependsOn.l0 kq x4_1 x5_1 a0_0 l0_1 = some (r1, r2)) ∧ Aside0 (kq ≤ k) ∧ Aside0 (Kd.R (Kd.int .i64) 3 w' w.heap.size (fun _ => True) v4 x4_1) ∧ Aside0 (w'.heap[gb383]? = some (.cells #[.int .i64 a0_0, (.slice A0_1 l0_1.length c0_1)] 60 (0, 0))) ∧ Aside0 (Below w.heap.size w w'))
  case atStart => exact ⟨(y385), (0), zd_, H', ⟨Nat.le_refl _⟩, ⟨zr HO387.out⟩, ⟨zb BK383.out⟩, ⟨zbj_⟩⟩
  case round =>
   clear H'; (try clear hcz5_0); (try clear hcz5_1); (try clear hfz5_0); (try clear hfz5_1); obtain ⟨x4_1, x5_1, rfl, HA, HK1, HO_4, BK383, HB⟩ := hrel
   cases gk with
   | zero => exact absurd HA.out (by simp [impl_DependsOn.l0])
   | succ k1 =>
    have H := HA.out; clear HA
    simp only [impl_DependsOn.l0] at H
    by_cases c9 : x5_1 < a0_0
    ·rw [if_pos c9] at H
     have c9b0 := decide_eq_true c9; clear c9; have H' := aM H; clear H; have hcz10_0 : wr.cell? ⟨gb383, 0, none⟩ = some (.int .i64 a0_0) := (blk_cell BK383.out 0).trans rfl; have hcz10_1 : wr.cell? ⟨gb383, 1, none⟩ = some (.slice A0_1 l0_1.length c0_1) := (blk_cell BK383.out 1).trans rfl; have hfz10_0 := blk_frozen BK383.out 0; have hfz10_1 := blk_frozen BK383.out 1
     go_wp2
     repeat (go_quiet (fail); try go_wp2)
     go_loopg [4, 21] k1 (fun kq v4 v21 w' => ∃ (x4_2 : List Int) (x21_2 : Int), v21 = .int .i64 x21_2 ∧ Aside0 (impl_DependsOn.l1 kq x4_2 x5_1 l0_1 (l0_1.length : Int) x21_2 a0_0 l0_1 = some (r1, r2)) ∧ Aside0 (kq ≤ k1) ∧ Aside0 (Kd.R (Kd.int .i64) 3 w' w.heap.size (fun _ => True) v4 x4_2) ∧ Aside0 (w'.heap[gb383]? = some (.cells #[.int .i64 a0_0, (.slice A0_1 l0_1.length c0_1)] 60 (0, 0))) ∧ Aside0 (Below w.heap.size w w'))
     case atStart => exact ⟨(x4_1), (0), zd_, H', ⟨Nat.le_refl _⟩, ⟨zr HO_4.out⟩, ⟨zb BK383.out⟩, ⟨zbj_⟩⟩
     case round =>
      clear H'; (try clear c9b0); (try clear hcz10_0); (try clear hcz10_1); (try clear hfz10_0); (try clear hfz10_1); obtain ⟨x4_2, x21_2, rfl, HA, HK2, HO_4, BK383, HB⟩ := hrel
      cases gk with
      | zero => exact absurd HA.out (by simp [impl_DependsOn.l1])
      | succ k2 =>
       have H := HA.out; clear HA
       simp only [impl_DependsOn.l1] at H
       by_cases c11 : x21_2 < (l0_1.length : Int)
       ·rw [if_pos c11] at H
        have c11b0 := decide_eq_true c11; clear c11
        by_cases c12 : 0 ≤ x21_2
        ·rw [if_pos c12] at H
         have c12b0 := decide_eq_true c12; clear c12
         by_cases c13 : x21_2 < (l0_1.length : Int)
         ·rw [if_pos c13] at H
          have c13b0 := decide_eq_true c13; clear c13
          by_cases c14 : 0 ≤ x5_1
          ·rw [if_pos c14] at H
           have c14b0 := eq_true c14; have c14b1 := decide_eq_true c14; clear c14; obtain ⟨ji15, hji15⟩ : ∃ j_ : Int, (shl .i64 1 x5_1) = j_ := ⟨_, rfl⟩; replace H : (if 0 ≤ (Go.bits .xor .i64 x21_2 (ji15)) then (if (Go.bits .xor .i64 x21_2 (ji15)) < (l0_1.length : Int) then (if (rd l0_1 x21_2) = (rd l0_1 (Go.bits .xor .i64 x21_2 (ji15))) then (impl_DependsOn.l1 k2 x4_2 x5_1 l0_1 (l0_1.length : Int) (wrap64 (x21_2 + 1)) a0_0 l0_1) else (if x4_2.length < 17592186044416 then (impl_DependsOn.l0 k2 (x4_2 ++ [x5_1]) (wrap64 (x5_1 + 1)) a0_0 l0_1) else (none))) else (none)) else (none)) = some (r1, r2) := by first | (rw [hji15] at H; exact H) | (simp only [hji15] at H ⊢; exact H)
           have hji15_ : (IntKind.i64.wrap (1 * 2 ^ min x5_1.toNat 64)) = ji15 := hji15; have hji15z : x5_1 ≤ 64 → (IntKind.i64.wrap (1 * 2 ^ x5_1.toNat)) = ji15 := shl_small hji15; have hji15u : (IntKind.i64.wrap (2 ^ min x5_1.toNat 64)) = ji15 := by have h_ := hji15_; rw [Int.one_mul] at h_; exact h_
           have hji15v : x5_1 ≤ 64 → (IntKind.i64.wrap (2 ^ x5_1.toNat)) = ji15 := fun hle_ => by have h_ := hji15z hle_; rw [Int.one_mul] at h_; exact h_
           have hji15y : (wrap64 (1 * 2 ^ min x5_1.toNat 64)) = ji15 := (i64_w _).symm.trans hji15_; have hji15x : x5_1 ≤ 64 → (wrap64 (1 * 2 ^ x5_1.toNat)) = ji15 := fun h_ => (i64_w _).symm.trans (hji15z h_)
           by_cases c16 : 0 ≤ (Go.bits .xor .i64 x21_2 (ji15))
           ·rw [if_pos c16] at H
            have c16b0 := decide_eq_true c16; clear c16
            by_cases c17 : (Go.bits .xor .i64 x21_2 (ji15)) < (l0_1.length : Int)
            ·rw [if_pos c17] at H
             have c17b0 := decide_eq_true c17; clear c17
             by_cases c18 : (rd l0_1 x21_2) = (rd l0_1 (Go.bits .xor .i64 x21_2 (ji15)))
             ·rw [if_pos c18] at H
              have c18b0 := beq_iff_eq.mpr c18; have c18b1 := bne_eq_false_iff_eq.mpr c18; clear c18; have H' := aM H; clear H; have p388 : 0 ≤ (x21_2 : Int) := of_decide_eq_true za_; have q388 : x21_2 < (l0_1.length : Int) := of_decide_eq_true za_; obtain ⟨ad388, e388, hx388_0⟩ := Kd.at_int HR0_1.out x21_2 p388 q388
              cases e388
              (try (replace hx388_0 := (HB.out.cell (World.block_lt_of_cell? w _ hx388_0)).trans hx388_0)); replace p388 := eq_true p388; replace q388 := eq_true q388; have hcz19_0 : wr.cell? ⟨gb383, 0, none⟩ = some (.int .i64 a0_0) := (blk_cell BK383.out 0).trans rfl; have hcz19_1 : wr.cell? ⟨gb383, 1, none⟩ = some (.slice (some ad388) l0_1.length c0_1) := (blk_cell BK383.out 1).trans rfl; have hfz19_0 := blk_frozen BK383.out 0; have hfz19_1 := blk_frozen BK383.out 1; have p389 : 0 ≤ ((Go.bits .xor .i64 x21_2 (ji15)) : Int) := of_decide_eq_true za_; have q389 : (Go.bits .xor .i64 x21_2 (ji15)) < (l0_1.length : Int) := of_decide_eq_true za_; obtain ⟨ad389, e389, hx389_0⟩ := Kd.at_int HR0_1.out (Go.bits .xor .i64 x21_2 (ji15)) p389 q389; obtain rfl : ad388 = ad389 := (by injection e389); (try (replace hx389_0 := (HB.out.cell (World.block_lt_of_cell? w _ hx389_0)).trans hx389_0)); replace p389 := eq_true p389; replace q389 := eq_true q389
              go_wp2
              repeat (go_quiet (fail); try go_wp2)
              go_roundg k2
              case measure => have := HK1.out; have := HK2.out; omega
              case rel => exact ⟨(x4_2), (wrap64 (x21_2 + 1)), zd_, H', ⟨zca_⟩, ⟨zr HO_4.out⟩, ⟨zb BK383.out⟩, ⟨zbj_⟩⟩
             ·rw [if_neg c18] at H
              have c18b0 := beq_eq_false_iff_ne.mpr c18; have c18b1 := bne_iff_ne.mpr c18
              by_cases c20 : x4_2.length < 17592186044416
              ·rw [if_pos c20] at H
               have LMc20 := aM c20; clear c20; obtain ⟨y390, hy390⟩ : ∃ y_ : List Int, y_ = (x4_2 ++ [x5_1]) := ⟨_, rfl⟩; replace H : (impl_DependsOn.l0 k2 y390 (wrap64 (x5_1 + 1)) a0_0 l0_1) = some (r1, r2) := by first | (rw [hy390]; with_reducible exact H) | (have H2_ := (oS _ _).symm.trans H; rw [hy390]; with_reducible exact H2_) | (have H2_ := (oS _ _).symm.trans H; with_reducible exact H2_) | with_reducible exact H | (rw [hy390]; exact H) | exact H
               have Ny390 := aM hy390; clear hy390; have H' := aM H; clear H; have p388 : 0 ≤ (x21_2 : Int) := of_decide_eq_true za_; have q388 : x21_2 < (l0_1.length : Int) := of_decide_eq_true za_; obtain ⟨ad388, e388, hx388_0⟩ := Kd.at_int HR0_1.out x21_2 p388 q388
               cases e388
               (try (replace hx388_0 := (HB.out.cell (World.block_lt_of_cell? w _ hx388_0)).trans hx388_0)); replace p388 := eq_true p388; replace q388 := eq_true q388; have hcz21_0 : wr.cell? ⟨gb383, 0, none⟩ = some (.int .i64 a0_0) := (blk_cell BK383.out 0).trans rfl; have hcz21_1 : wr.cell? ⟨gb383, 1, none⟩ = some (.slice (some ad388) l0_1.length c0_1) := (blk_cell BK383.out 1).trans rfl; have hfz21_0 := blk_frozen BK383.out 0; have hfz21_1 := blk_frozen BK383.out 1; have p389 : 0 ≤ ((Go.bits .xor .i64 x21_2 (ji15)) : Int) := of_decide_eq_true za_; have q389 : (Go.bits .xor .i64 x21_2 (ji15)) < (l0_1.length : Int) := of_decide_eq_true za_; obtain ⟨ad389, e389, hx389_0⟩ := Kd.at_int HR0_1.out (Go.bits .xor .i64 x21_2 (ji15)) p389 q389; obtain rfl : ad388 = ad389 := (by injection e389); (try (replace hx389_0 := (HB.out.cell (World.block_lt_of_cell? w _ hx389_0)).trans hx389_0)); replace p389 := eq_true p389; replace q389 := eq_true q389
               go_wp2_with (first | ((with_reducible refine gate_builtin (b := .append) (xs := #[.tmp 36, .tmp 38]) rfl ?_); at_builtin; refine Kd.R_append (Kd.int .i64) (w0 := w) w.heap.size rfl (.tmp 36) (.tmp 38) 24 3 (.int .i64 0) 8 rfl Try.underlying24 info3 rfl (by decide) (by omega) u4 x4_2 x5_1 [.int .i64 x5_1] (fun _ => True) (fun _ => False) rfl rfl ?aP (fun _ hk => hk.elim) ?aF ?aO ?aB ?aS ?aL ?_; (case aP => exact rfl); (case aB => exact zbae_); (case aF => exact zbe_); (case aO => exact (zr HO_4.out)); (case aS => exact zbaf_); (case aL => have := LMc20.out; omega); intro v391 w22 ho hb hg hat; rw [← Ny390.out] at ho; have n_ := z (blk_grown (g := gb383) (o := .cells #[.int .i64 a0_0, .slice (some ad388) l0_1.length c0_1] 60 (0, 0)) (zb BK383.out) hg (Kd.R_ne HO_4.out BK383.out (by decide))) <| z (hb) <| z1 (ho); clear BK383 HB HO_4; obtain ⟨BK383, HB, HO392⟩ := n_; clear ho hb hg hat))
               repeat (go_quiet (first | ((with_reducible refine gate_builtin (b := .append) (xs := #[.tmp 36, .tmp 38]) rfl ?_); at_builtin; refine Kd.R_append (Kd.int .i64) (w0 := w) w.heap.size rfl (.tmp 36) (.tmp 38) 24 3 (.int .i64 0) 8 rfl Try.underlying24 info3 rfl (by decide) (by omega) u4 x4_2 x5_1 [.int .i64 x5_1] (fun _ => True) (fun _ => False) rfl rfl ?aP (fun _ hk => hk.elim) ?aF ?aO ?aB ?aS ?aL ?_; (case aP => exact rfl); (case aB => exact zbae_); (case aF => exact zbe_); (case aO => exact (zr HO_4.out)); (case aS => exact zbaf_); (case aL => have := LMc20.out; omega); intro v391 w22 ho hb hg hat; rw [← Ny390.out] at ho; have n_ := z (blk_grown (g := gb383) (o := .cells #[.int .i64 a0_0, .slice (some ad388) l0_1.length c0_1] 60 (0, 0)) (zb BK383.out) hg (Kd.R_ne HO_4.out BK383.out (by decide))) <| z (hb) <| z1 (ho); clear BK383 HB HO_4; obtain ⟨BK383, HB, HO392⟩ := n_; clear ho hb hg hat)); try go_wp2_with (first | ((with_reducible refine gate_builtin (b := .append) (xs := #[.tmp 36, .tmp 38]) rfl ?_); at_builtin; refine Kd.R_append (Kd.int .i64) (w0 := w) w.heap.size rfl (.tmp 36) (.tmp 38) 24 3 (.int .i64 0) 8 rfl Try.underlying24 info3 rfl (by decide) (by omega) u4 x4_2 x5_1 [.int .i64 x5_1] (fun _ => True) (fun _ => False) rfl rfl ?aP (fun _ hk => hk.elim) ?aF ?aO ?aB ?aS ?aL ?_; (case aP => exact rfl); (case aB => exact zbae_); (case aF => exact zbe_); (case aO => exact (zr HO_4.out)); (case aS => exact zbaf_); (case aL => have := LMc20.out; omega); intro v391 w22 ho hb hg hat; rw [← Ny390.out] at ho; have n_ := z (blk_grown (g := gb383) (o := .cells #[.int .i64 a0_0, .slice (some ad388) l0_1.length c0_1] 60 (0, 0)) (zb BK383.out) hg (Kd.R_ne HO_4.out BK383.out (by decide))) <| z (hb) <| z1 (ho); clear BK383 HB HO_4; obtain ⟨BK383, HB, HO392⟩ := n_; clear ho hb hg hat)))
               go_roundg k2
               case measure => have := HK1.out; have := HK2.out; omega
               case rel => exact ⟨(y390), (wrap64 (x5_1 + 1)), zd_, H', ⟨zca_⟩, ⟨zr HO392.out⟩, ⟨zb BK383.out⟩, ⟨zbj_⟩⟩
              ·rw [if_neg c20] at H
               exact absurd H (by simp)
            ·rw [if_neg c17] at H
             exact absurd H (by simp)
           ·rw [if_neg c16] at H
            exact absurd H (by simp)
          ·rw [if_neg c14] at H
           exact absurd H (by simp)
         ·rw [if_neg c13] at H
          exact absurd H (by simp)
        ·rw [if_neg c12] at H
         exact absurd H (by simp)
       ·rw [if_neg c11] at H
        have c11b0 := decide_eq_false c11; clear c11; have H' := aM H; clear H
        go_wp2
        repeat (go_quiet (fail); try go_wp2)
        go_roundg k2
        case measure => have := HK1.out; have := HK2.out; omega
        case rel => exact ⟨(x4_2), (wrap64 (x5_1 + 1)), zd_, H', ⟨zca_⟩, ⟨zr HO_4.out⟩, ⟨zb BK383.out⟩, ⟨zbj_⟩⟩
    ·rw [if_neg c9] at H
     have c9b0 := decide_eq_false c9; clear c9
     simp only [Option.some.injEq, Prod.mk.injEq] at H
     obtain ⟨rfl, rfl⟩ := H; have hcz23_0 : wr.cell? ⟨gb383, 0, none⟩ = some (.int .i64 a0_0) := (blk_cell BK383.out 0).trans rfl; have hcz23_1 : wr.cell? ⟨gb383, 1, none⟩ = some (.slice A0_1 l0_1.length c0_1) := (blk_cell BK383.out 1).trans rfl; have hfz23_0 := blk_frozen BK383.out 0; have hfz23_1 := blk_frozen BK383.out 1
     go_wp2
     repeat (go_quiet (fail); try go_wp2)
     go_ret2
     exact ⟨_, zf_, by refine zr ?_; exact HO_4.out, zbj_⟩
 ·replace c3 := Bool.eq_false_iff.mpr c3
  subst c3; have H1 : (some (([] : List Int), false)) = some (r1, r2) := by rw [if_neg (show ¬ (false = true) by decide)] at H; exact H
  clear H; have H := H1; clear H1
  simp only [Option.some.injEq, Prod.mk.injEq] at H
  obtain ⟨rfl, rfl⟩ := H
  go_enter Try.func40, Try.ntmps40
  go_wp2_with (first | ((with_reducible refine gate_dst (N := 1) rfl ?_); refine box_event ?hg (N := 1) ?hd (cs := #[.int .i64 a0_0, .slice A0_1 l0_1.length c0_1]) (t := 60) ?hr ?_; (case hd => rfl); (case hg => rfl); (case hr => exact zc_); intro gb383 hg w24 hbox hb; have n_ := z (below_step zb_ hb) <| z (hbox) <| z ((by rw [hg]; exact (below_size zb_) : w.heap.size ≤ gb383)) <| z1 ((by rw [hg]; exact (below_size zb_) : w.heap.size ≤ gb383)); clear HB; obtain ⟨HB, BK383, GW383, GE383⟩ := n_; clear hb hbox hg; have hcz25_0 : w24.cell? ⟨gb383, 0, none⟩ = some (.int .i64 a0_0) := (blk_cell BK383.out 0).trans rfl; have hcz25_1 : w24.cell? ⟨gb383, 1, none⟩ = some (.slice A0_1 l0_1.length c0_1) := (blk_cell BK383.out 1).trans rfl; have hfz25_0 := blk_frozen BK383.out 0; have hfz25_1 := blk_frozen BK383.out 1) | (go_at_call 127; (with_reducible refine (impl_IsTable.calls k a0_0 _ _ l0_1 false _ ?side1 ?side2 A2.out).mono ?_); (case side1 => exact zg_); (case side2 => exact HC0_1.out); rintro e w26 ⟨rfl, hb⟩; have n_ := z (blk_below (zb BK383.out) hb) <| z1 (below_step zbj_ hb); clear BK383 HB; obtain ⟨BK383, HB⟩ := n_; clear hb))
  repeat (go_quiet (first | ((with_reducible refine gate_dst (N := 1) rfl ?_); refine box_event ?hg (N := 1) ?hd (cs := #[.int .i64 a0_0, .slice A0_1 l0_1.length c0_1]) (t := 60) ?hr ?_; (case hd => rfl); (case hg => rfl); (case hr => exact zc_); intro gb383 hg w24 hbox hb; have n_ := z (below_step zb_ hb) <| z (hbox) <| z ((by rw [hg]; exact (below_size zb_) : w.heap.size ≤ gb383)) <| z1 ((by rw [hg]; exact (below_size zb_) : w.heap.size ≤ gb383)); clear HB; obtain ⟨HB, BK383, GW383, GE383⟩ := n_; clear hb hbox hg; have hcz25_0 : w24.cell? ⟨gb383, 0, none⟩ = some (.int .i64 a0_0) := (blk_cell BK383.out 0).trans rfl; have hcz25_1 : w24.cell? ⟨gb383, 1, none⟩ = some (.slice A0_1 l0_1.length c0_1) := (blk_cell BK383.out 1).trans rfl; have hfz25_0 := blk_frozen BK383.out 0; have hfz25_1 := blk_frozen BK383.out 1) | (go_at_call 127; (with_reducible refine (impl_IsTable.calls k a0_0 _ _ l0_1 false _ ?side1 ?side2 A2.out).mono ?_); (case side1 => exact zg_); (case side2 => exact HC0_1.out); rintro e w26 ⟨rfl, hb⟩; have n_ := z (blk_below (zb BK383.out) hb) <| z1 (below_step zbj_ hb); clear BK383 HB; obtain ⟨BK383, HB⟩ := n_; clear hb)); try go_wp2_with (first | ((with_reducible refine gate_dst (N := 1) rfl ?_); refine box_event ?hg (N := 1) ?hd (cs := #[.int .i64 a0_0, .slice A0_1 l0_1.length c0_1]) (t := 60) ?hr ?_; (case hd => rfl); (case hg => rfl); (case hr => exact zc_); intro gb383 hg w24 hbox hb; have n_ := z (below_step zb_ hb) <| z (hbox) <| z ((by rw [hg]; exact (below_size zb_) : w.heap.size ≤ gb383)) <| z1 ((by rw [hg]; exact (below_size zb_) : w.heap.size ≤ gb383)); clear HB; obtain ⟨HB, BK383, GW383, GE383⟩ := n_; clear hb hbox hg; have hcz25_0 : w24.cell? ⟨gb383, 0, none⟩ = some (.int .i64 a0_0) := (blk_cell BK383.out 0).trans rfl; have hcz25_1 : w24.cell? ⟨gb383, 1, none⟩ = some (.slice A0_1 l0_1.length c0_1) := (blk_cell BK383.out 1).trans rfl; have hfz25_0 := blk_frozen BK383.out 0; have hfz25_1 := blk_frozen BK383.out 1) | (go_at_call 127; (with_reducible refine (impl_IsTable.calls k a0_0 _ _ l0_1 false _ ?side1 ?side2 A2.out).mono ?_); (case side1 => exact zg_); (case side2 => exact HC0_1.out); rintro e w26 ⟨rfl, hb⟩; have n_ := z (blk_below (zb BK383.out) hb) <| z1 (below_step zbj_ hb); clear BK383 HB; obtain ⟨BK383, HB⟩ := n_; clear hb)))
  go_ret2
  exact ⟨_, zf_, zcb_, zbj_⟩
def spec_DrawCircuitTable.f (l0 : List Int) : Option (Int × (List (S57)) × List Int × Int) := (spec_l1Cur_anyCircuit.f l0 0 0).bind fun bt395 => ((spec_l1Most.f 1 (bt395.2.2.1.length : Int)).bind fun t405 => ((spec_l1Cur_pick.f l0 bt395.2.2.2.1 bt395.2.2.2.2 16).bind fun bt406 => ((spec_l1Cur_pick.f l0 bt406.2.1 bt406.2.2 (wrap64 (t405 + (wrap64 (Int.tdiv bt406.1 15))))).bind fun bt409 => ((spec_l1Cur_pick.f l0 bt409.2.1 bt409.2.2 24).bind fun bt412 => (some (bt395.1, bt395.2.1, bt395.2.2.1, wrap64 (bt409.1 - (wrap64 (Int.tdiv bt412.1 23)))))))))
def spec_DrawCircuitTable.T3 : Bool × List (List Nat × List Nat) := (true, [([], []), ([], []), ([], []), ([2], [2]), ([3], [3]), ([4], [4]), ([], []), ([6, 5], [6]), ([7], [7]), ([5, 8], [5, 8]), ([1, 9, 7], [1, 9]), ([], []), ([11, 10], [11]), ([12], [12]), ([10, 13], [10, 13]), ([0, 12, 0], [0]), ([14, 15, 0, 1, 2, 3, 4, 5, 6, 7, 8, 9, 10, 11, 12, 13, 14, 15], [14])])
def spec_DrawCircuitTable.B3 : List Nat := [0, 0, 0, 4, 12, 28, 0, 124, 252, 508, 1022, 0, 4094, 8190, 16382, 8191, 65535]
theorem spec_DrawCircuitTable.tab3 : rtab .any (opsOf Try.f41 3) = spec_DrawCircuitTable.T3 := by kernel_rfl
theorem spec_DrawCircuitTable.bits3 : waitsOk spec_DrawCircuitTable.T3.2 spec_DrawCircuitTable.B3 = true := by kernel_rfl
theorem spec_DrawCircuitTable.calls (A0 : Option Addr) (c0 : Nat) (l0 : List Int) (r1 : Int) (r2 : List (S57)) (r3 : List Int) (r4 : Int) (w : World) (hr0 : Kd.C (Kd.int .u8) w A0 l0.length l0) (hc0 : l0.length ≤ c0) (h : spec_DrawCircuitTable.f l0 = some (r1, r2, r3, r4)) :
  Calls Try.prog 41 #[.slice A0 l0.length c0] w fun e w' => ∃ v1_ v2_ : Value, e = .returned (.tuple #[.agg #[.int .i64 r1, v1_, v2_], .int .i64 r4]) ∧ Kd.R k57 57 w' w.heap.size (fun _ => True) v1_ r2 ∧ Kd.R (Kd.int .i64) 3 w' w.heap.size (fun _ => True) v2_ r3 ∧ Below w.heap.size w w' := by
 have hu49 := Try.underlying49
 have hu111 := Try.underlying111
 have HR0 := aM hr0
 have HC0 := aM hc0
 clear hr0 hc0
 have HB := aM (Below.refl w.heap.size w)
 have H : ((spec_l1Cur_anyCircuit.f l0 0 0).bind fun bt395 => ((spec_l1Most.f 1 (bt395.2.2.1.length : Int)).bind fun t405 => ((spec_l1Cur_pick.f l0 bt395.2.2.2.1 bt395.2.2.2.2 16).bind fun bt406 => ((spec_l1Cur_pick.f l0 bt406.2.1 bt406.2.2 (wrap64 (t405 + (wrap64 (Int.tdiv bt406.1 15))))).bind fun bt409 => ((spec_l1Cur_pick.f l0 bt409.2.1 bt409.2.2 24).bind fun bt412 => (some (bt395.1, bt395.2.1, bt395.2.2.1, wrap64 (bt409.1 - (wrap64 (Int.tdiv bt412.1 23)))))))))) = some (r1, r2, r3, r4) := h
 clear h
 replace H := oB.mp H
 obtain ⟨⟨t395, t396, t399, t402, t403⟩, A20, H⟩ := H
 replace H : ((spec_l1Most.f 1 (t399.length : Int)).bind fun t405 => ((spec_l1Cur_pick.f l0 t402 t403 16).bind fun bt406 => ((spec_l1Cur_pick.f l0 bt406.2.1 bt406.2.2 (wrap64 (t405 + (wrap64 (Int.tdiv bt406.1 15))))).bind fun bt409 => ((spec_l1Cur_pick.f l0 bt409.2.1 bt409.2.2 24).bind fun bt412 => (some (t395, t396, t399, wrap64 (bt409.1 - (wrap64 (Int.tdiv bt412.1 23))))))))) = some (r1, r2, r3, r4) := H
 have A2 := aM A20
 clear A20
 replace H := oB.mp H
 obtain ⟨t405, A30, H⟩ := H
 replace H : ((spec_l1Cur_pick.f l0 t402 t403 16).bind fun bt406 => ((spec_l1Cur_pick.f l0 bt406.2.1 bt406.2.2 (wrap64 (t405 + (wrap64 (Int.tdiv bt406.1 15))))).bind fun bt409 => ((spec_l1Cur_pick.f l0 bt409.2.1 bt409.2.2 24).bind fun bt412 => (some (t395, t396, t399, wrap64 (bt409.1 - (wrap64 (Int.tdiv bt412.1 23)))))))) = some (r1, r2, r3, r4) := H
 have A3 := aM A30
 clear A30
 replace H := oB.mp H
 obtain ⟨⟨t406, t407, t408⟩, A40, H⟩ := H
 replace H : ((spec_l1Cur_pick.f l0 t407 t408 (wrap64 (t405 + (wrap64 (Int.tdiv t406 15))))).bind fun bt409 => ((spec_l1Cur_pick.f l0 bt409.2.1 bt409.2.2 24).bind fun bt412 => (some (t395, t396, t399, wrap64 (bt409.1 - (wrap64 (Int.tdiv bt412.1 23))))))) = some (r1, r2, r3, r4) := H
 have A4 := aM A40
 clear A40
 replace H := oB.mp H
 obtain ⟨⟨t409, t410, t411⟩, A50, H⟩ := H
 replace H : ((spec_l1Cur_pick.f l0 t410 t411 24).bind fun bt412 => (some (t395, t396, t399, wrap64 (t409 - (wrap64 (Int.tdiv bt412.1 23)))))) = some (r1, r2, r3, r4) := H
 have A5 := aM A50
 clear A50
 replace H := oB.mp H
 obtain ⟨⟨t412, t413, t414⟩, A60, H⟩ := H
 replace H : (some (t395, t396, t399, wrap64 (t409 - (wrap64 (Int.tdiv t412 23))))) = some (r1, r2, r3, r4) := H
 have A6 := aM A60
 clear A60
 simp only [Option.some.injEq, Prod.mk.injEq] at H
 obtain ⟨rfl, rfl, rfl, rfl⟩ := H
 go_enter Try.func41, Try.ntmps41
 try go_wp2_with (first | ((with_reducible refine gate_dst (N := 2) rfl ?_); refine box_event ?hg (N := 2) ?hd (cs := #[.int .i64 0, .slice none 0 0, .slice none 0 0]) (t := 49) ?hr ?_; (case hd => rfl); (case hg => rfl); (case hr => exact zc_); intro gb393 hg w7 hbox hb; have n_ := z (below_step zb_ hb) <| z (hbox) <| z ((by rw [hg]; exact (below_size zb_) : w.heap.size ≤ gb393)) <| z1 ((by rw [hg]; exact (below_size zb_) : w.heap.size ≤ gb393)); clear HB; obtain ⟨HB, BK393, GW393, GE393⟩ := n_; clear hb hbox hg) | ((with_reducible refine gate_dst (N := 8) rfl ?_); refine box_event ?hg (N := 8) ?hd (cs := #[.slice A0 l0.length c0, .int .i64 0, .int .u64 0]) (t := 111) ?hr ?_; (case hd => rfl); (case hg => rfl); (case hr => exact zc_); intro gb394 hg w8 hbox hb; have n_ := z (blk_below (zb BK393.out) hb) <| z (below_step zjb_ hb) <| z ((by rw [hg]; exact (below_size zjb_) : w.heap.size ≤ gb394)) <| z ((by rw [hg]; exact (below_size zjb_) : w.heap.size ≤ gb394)) <| z ((by rw [hg]; exact Nat.ne_of_lt (blk_lt (zb BK393.out)) : gb393 ≠ gb394)) <| z ((by rw [hg]; exact Nat.ne_of_gt (blk_lt (zb BK393.out)) : gb394 ≠ gb393)) <| z1 ((⟨_, _, hbox, (by rw [hg]; exact (below_size zjb_) : w.heap.size ≤ gb394), HR0.out⟩ : IsS111 w w8 gb394 l0 0 0)); clear BK393 HB; obtain ⟨BK393, HB, GW394, GE394, NB393_394, NB394_393, HI394⟩ := n_; clear hb hbox hg) | ((with_reducible refine gate_callee (f := 128) rfl ?_); refine goesL_ (some 10) rfl rfl Try.func128 (by kernel_rfl) rfl #[.pointer (some ⟨gb394, 0, none⟩)] rfl ze_ ?_; (with_reducible refine (spec_l1Cur_anyCircuit.calls gb394 l0 0 0 t395 t396 t399 t402 t403 w _ ?side1 ?side2 A2.out).mono ?_); (case side1 => exact zjc_); (case side2 => exact zhc_); rintro e w9 ⟨v397, v400, rfl, ho0, ho1, hi, hb, hk⟩; refine ⟨_, rfl, ?_⟩; have n_ := z (KeepBut.blk hk (zb BK393.out) NB393_394.out (by simp)) <| z (Kd.R_lower ho0 (below_size zhc_)) <| z (Kd.R_lower ho1 (below_size zhc_)) <| z (hb) <| z1 (hi); clear BK393 HB HI394; obtain ⟨BK393, HO398, HO401, HB, HI394⟩ := n_; clear hb hk hi; (try clear ho0); (try clear ho1)) | ((with_reducible refine gate_dst (N := 5) rfl ?_); refine box_event ?hg (N := 5) ?hd (cs := #[.int .i64 0, .slice none 0 0, .slice none 0 0]) (t := 49) ?hr ?_; (case hd => rfl); (case hg => rfl); (case hr => exact zc_); intro gb404 hg w10 hbox hb; have n_ := z (Kd.R_below (zr HO398.out) hb) <| z (Kd.R_below (zr HO401.out) hb) <| z (blk_below (zb BK393.out) hb) <| z (IsS111.below zjc_ hb) <| z (below_step zhc_ hb) <| z (hbox) <| z ((by rw [hg]; exact (below_size zhc_) : w.heap.size ≤ gb404)) <| z ((by rw [hg]; exact (below_size zhc_) : w.heap.size ≤ gb404)) <| z ((by rw [hg]; exact Nat.ne_of_lt (blk_lt (zb BK393.out)) : gb393 ≠ gb404)) <| z ((by rw [hg]; exact Nat.ne_of_gt (blk_lt (zb BK393.out)) : gb404 ≠ gb393)) <| z ((by rw [hg]; exact Nat.ne_of_lt (IsS111.lt (show IsS111 w _ gb394 l0 t402 t403 from zjc_)) : gb394 ≠ gb404)) <| z1 ((by rw [hg]; exact Nat.ne_of_gt (IsS111.lt (show IsS111 w _ gb394 l0 t402 t403 from zjc_)) : gb404 ≠ gb394)); clear HO398 HO401 BK393 HI394 HB; obtain ⟨HO398, HO401, BK393, HI394, HB, BK404, GW404, GE404, NB393_404, NB404_393, NB394_404, NB404_394⟩ := n_; clear hb hbox hg; have hnb11 := NB404_393.out; have hnc11 := NB393_404.out; have hnb12 := NB404_394.out; have hnc12 := NB394_404.out; have hcz13_0 : w10.cell? ⟨gb404, 0, none⟩ = some (.int .i64 0) := (blk_cell BK404.out 0).trans rfl; have hcz13_1 : w10.cell? ⟨gb404, 1, none⟩ = some (.slice none 0 0) := (blk_cell BK404.out 1).trans rfl; have hcz13_2 : w10.cell? ⟨gb404, 2, none⟩ = some (.slice none 0 0) := (blk_cell BK404.out 2).trans rfl; have hfz13_0 := blk_frozen BK404.out 0; have hfz13_1 := blk_frozen BK404.out 1; have hfz13_2 := blk_frozen BK404.out 2; obtain ⟨Ao14, co14, eo14⟩ := Kd.R_slice HO398.out; subst eo14; obtain ⟨Ao15, co15, eo15⟩ := Kd.R_slice HO401.out; subst eo15))
 have n0_ : Aside0 (Kd.R k57 57 (((w10.setCell ⟨gb404, 0, none⟩ (.int .i64 t395)).setCell ⟨gb404, 1, none⟩ (.slice Ao14 t396.length co14)).setCell ⟨gb404, 2, none⟩ (.slice Ao15 t399.length co15)) w.heap.size (fun _ => True) (.slice Ao14 t396.length co14) t396) := ⟨by refine zr ?_; exact Kd.R_mono (Kd.R_far (p := ⟨gb404, 2, none⟩) (Kd.R_far (p := ⟨gb404, 1, none⟩) (Kd.R_far (p := ⟨gb404, 0, none⟩) (Kd.R_types HO398.out BK404.out (by decide)) (fun _ hk => hk.2) (.int .i64 t395)) (fun _ hk => hk.2) (.slice Ao14 t396.length co14)) (fun _ hk => hk.2) (.slice Ao15 t399.length co15)) (fun _ hk => trivial)⟩
 have n1_ : Aside0 (Kd.R (Kd.int .i64) 3 (((w10.setCell ⟨gb404, 0, none⟩ (.int .i64 t395)).setCell ⟨gb404, 1, none⟩ (.slice Ao14 t396.length co14)).setCell ⟨gb404, 2, none⟩ (.slice Ao15 t399.length co15)) w.heap.size (fun _ => True) (.slice Ao15 t399.length co15) t399) := ⟨by refine zr ?_; exact Kd.R_mono (Kd.R_far (p := ⟨gb404, 2, none⟩) (Kd.R_far (p := ⟨gb404, 1, none⟩) (Kd.R_far (p := ⟨gb404, 0, none⟩) (Kd.R_types HO401.out BK404.out (by decide)) (fun _ hk => hk.2) (.int .i64 t395)) (fun _ hk => hk.2) (.slice Ao14 t396.length co14)) (fun _ hk => hk.2) (.slice Ao15 t399.length co15)) (fun _ hk => trivial)⟩
 have n2_ : Aside0 ((((w10.setCell ⟨gb404, 0, none⟩ (.int .i64 t395)).setCell ⟨gb404, 1, none⟩ (.slice Ao14 t396.length co14)).setCell ⟨gb404, 2, none⟩ (.slice Ao15 t399.length co15)).heap[gb393]? = some (.cells #[.int .i64 0, .slice none 0 0, .slice none 0 0] 49 (0, 0))) := ⟨by refine zb ?_; refine blk_far ?_ NB393_404.out _; refine zb ?_; refine blk_far ?_ NB393_404.out _; refine zb ?_; refine blk_far ?_ NB393_404.out _; refine zb ?_; exact BK393.out⟩
 have n3_ : Aside0 ((((w10.setCell ⟨gb404, 0, none⟩ (.int .i64 t395)).setCell ⟨gb404, 1, none⟩ (.slice Ao14 t396.length co14)).setCell ⟨gb404, 2, none⟩ (.slice Ao15 t399.length co15)).heap[gb404]? = some (.cells #[.int .i64 t395, .slice Ao14 t396.length co14, .slice Ao15 t399.length co15] 49 (0, 0))) := ⟨by refine zb ?_; refine blk_put (cs := #[.int .i64 t395, .slice Ao14 t396.length co14, .slice none 0 0]) ?_ 2 _ rfl; refine zb ?_; refine blk_put (cs := #[.int .i64 t395, .slice none 0 0, .slice none 0 0]) ?_ 1 _ rfl; refine zb ?_; refine blk_put (cs := #[.int .i64 0, .slice none 0 0, .slice none 0 0]) ?_ 0 _ rfl; refine zb ?_; exact BK404.out⟩
 have n4_ : Aside0 (IsS111 w (((w10.setCell ⟨gb404, 0, none⟩ (.int .i64 t395)).setCell ⟨gb404, 1, none⟩ (.slice Ao14 t396.length co14)).setCell ⟨gb404, 2, none⟩ (.slice Ao15 t399.length co15)) gb394 l0 t402 t403) := ⟨zef_⟩
 have n5_ : Aside0 (Below w.heap.size w (((w10.setCell ⟨gb404, 0, none⟩ (.int .i64 t395)).setCell ⟨gb404, 1, none⟩ (.slice Ao14 t396.length co14)).setCell ⟨gb404, 2, none⟩ (.slice Ao15 t399.length co15))) := ⟨zhd_⟩
 (try clear HO398)
 (try clear HO401)
 (try clear BK393)
 (try clear BK404)
 (try clear HI394)
 (try clear HB)
 generalize (((w10.setCell ⟨gb404, 0, none⟩ (.int .i64 t395)).setCell ⟨gb404, 1, none⟩ (.slice Ao14 t396.length co14)).setCell ⟨gb404, 2, none⟩ (.slice Ao15 t399.length co15)) = w16 at n0_ n1_ n2_ n3_ n4_ n5_ ⊢
 have HO398 := n0_
 have HO401 := n1_
 have BK393 := n2_
 have BK404 := n3_
 have HI394 := n4_
 have HB := n5_
 clear n0_ n1_ n2_ n3_ n4_ n5_
 have n_ := z (kD HO398.out) <| z (kD HO401.out) <| z (blk_drew BK393.out) <| z (blk_drew BK404.out) <| z (IsS111.drew HI394.out) <| z1 (p1 HB.out)
 clear HO398 HO401 BK393 BK404 HI394 HB
 obtain ⟨HO398, HO401, BK393, BK404, HI394, HB⟩ := n_
 refine start_ (n := 17) (S := fun w' => w'.cell? ⟨gb404, 0, none⟩ = some (.int .i64 t395) ∧ w'.cell? ⟨gb404, 1, none⟩ = some (.slice Ao14 t396.length co14) ∧ w'.cell? ⟨gb404, 2, none⟩ = some (.slice Ao15 t399.length co15)) (ds := []) #[fi,fi,fi,fi,fi,fi,fi,fi,fi,fi,fi,fi,fi,fi,fi,fi,fi] (by kernel_rfl) rfl rfl ⟨(blk_cell BK404.out 0).trans rfl, (blk_cell BK404.out 1).trans rfl, (blk_cell BK404.out 2).trans rfl⟩ (fun hHeld => ?_); refine with_tabW spec_DrawCircuitTable.tab3 spec_DrawCircuitTable.bits3 (fun HT_ HW_ => ?_)
 generalize w16.drew = w17 at HO398 HO401 BK393 BK404 HI394 HB hHeld ⊢
 refine py_ 1 12 HT_.out ?_
 refine py_ 2 13 HT_.out ?_
 refine py_ 6 17 HT_.out ?_
 refine py_ 11 22 HT_.out ?_
 refine take_ (i := 0) (N := some 11) (v := ?_) (a' := ?_) #[ti,ti,ti,fi,fi,fi,ti,fi,fi,fi,fi,ti,fi,fi,fi,fi,fi] rfl rfl (take_ofW HT_.out HW_.out (by kernel_rfl)) (fun _ _ _ h => h) (Or.inl ⟨by rfl, ?_⟩) hHeld ?_ ?_
 rotate_left
 ·rintro w' ⟨s0, s1, s2⟩
  go_simp
  with_reducible rfl
 rotate_left
 ·simp only [Act.put, sI, s0, sS, i64_w, i32_w]
  rfl
 refine take_ (i := 3) (N := some 14) (v := ?_) (a' := ?_) #[ti,ti,ti,ti,fi,fi,ti,fi,fi,fi,fi,ti,fi,fi,fi,fi,fi] rfl rfl (take_ofW HT_.out HW_.out (by kernel_rfl)) (fun _ _ _ h => h) (Or.inl ⟨by rfl, ?_⟩) hHeld ?_ ?_
 rotate_left
 ·rintro w' ⟨s0, s1, s2⟩
  go_simp
  with_reducible rfl
 rotate_left
 ·simp only [Act.put, sI, s0, sS, i64_w, i32_w]
  rfl
 refine py_ 4 15 HT_.out ?_
 refine one_ (i := 5) (N := some 16) #[ti,ti,ti,ti,ti,ti,ti,fi,fi,fi,fi,ti,fi,fi,fi,fi,fi] rfl rfl (one_of HT_.out (by kernel_rfl)) (by decide) (fun K hK => ?_)
 refine goes_ Try.func106 (by kernel_rfl) rfl #[.int .i64 1, .int .i64 (t399.length : Int)] (by rfl) rfl rfl ze_ ?_
 with_reducible refine (spec_l1Most.calls 1 (t399.length : Int) t405 _ A3.out).mono ?_
 rintro e w' ⟨rfl, ⟨nd, rfl⟩⟩
 refine ⟨_, rfl, ?_⟩
 refine hK.out _ _ ⟨(blk_cell BK404.out 0).trans rfl, (blk_cell BK404.out 1).trans rfl, (blk_cell BK404.out 2).trans rfl⟩ (fun hHeld => ?_)
 clear hK K
 refine norm_ (a' := ?_) ?_ ?_
 rotate_left
 ·show Act.put _ (some 16) _ = _
  simp only [Act.put, sI, s0, sS, i64_w, i32_w]
  rfl
 refine one_ (i := 7) (N := some 18) #[ti,ti,ti,ti,ti,ti,ti,ti,fi,fi,fi,ti,fi,fi,fi,fi,fi] rfl rfl (one_of HT_.out (by kernel_rfl)) (by decide) (fun K hK => ?_)
 refine goes_ Try.func109 (by kernel_rfl) rfl #[.pointer (some ⟨gb394, 0, none⟩), .int .i64 16] (by rfl) rfl rfl ze_ ?_
 with_reducible refine (spec_l1Cur_pick.calls gb394 l0 t402 t403 16 t406 t407 t408 w _ ?side1 ?side2 A4.out).mono ?_
 (case side1 => exact zef_)
 (case side2 => exact zhd_)
 rintro e w18 ⟨rfl, hi, hb, hk⟩
 refine ⟨_, rfl, ?_⟩
 have n_ := z (KeepBut.blk hk (zb BK393.out) NB393_394.out (by simp)) <| z (Kd.R_mono (Kd.R_keep (IsS111.apart (show IsS111 w _ gb394 l0 t402 t403 from zef_) (zr HO398.out) (by decide)) hk (fun _ h => h.2)) (fun _ h => h.1)) <| z (Kd.R_mono (Kd.R_keep (IsS111.apart (show IsS111 w _ gb394 l0 t402 t403 from zef_) (zr HO401.out) (by decide)) hk (fun _ h => h.2)) (fun _ h => h.1)) <| z (KeepBut.blk hk (zb BK404.out) NB404_394.out (by simp)) <| z (hb) <| z1 (hi)
 clear BK393 HO398 HO401 BK404 HB HI394
 obtain ⟨BK393, HO398, HO401, BK404, HB, HI394⟩ := n_
 (try clear hb)
 (try clear hb2)
 (try clear hk)
 (try clear hi)
 refine hK.out _ _ ⟨(blk_cell BK404.out 0).trans rfl, (blk_cell BK404.out 1).trans rfl, (blk_cell BK404.out 2).trans rfl⟩ (fun hHeld => ?_)
 clear hK K
 refine norm_ (a' := ?_) ?_ ?_
 rotate_left
 ·show Act.put _ (some 18) _ = _
  simp only [Act.put, sI, s0, sS, i64_w, i32_w]
  rfl
 refine py_ 8 19 HT_.out ?_
 refine py_ 9 20 HT_.out ?_
 refine one_ (i := 10) (N := some 21) #[ti,ti,ti,ti,ti,ti,ti,ti,ti,ti,ti,ti,fi,fi,fi,fi,fi] rfl rfl (one_of HT_.out (by kernel_rfl)) (by decide) (fun K hK => ?_)
 refine goes_ Try.func109 (by kernel_rfl) rfl #[.pointer (some ⟨gb394, 0, none⟩), .int .i64 (wrap64 (t405 + (wrap64 (Int.tdiv t406 15))))] (by rfl) rfl rfl ze_ ?_
 with_reducible refine (spec_l1Cur_pick.calls gb394 l0 t407 t408 (wrap64 (t405 + (wrap64 (Int.tdiv t406 15)))) t409 t410 t411 w _ ?side1 ?side2 A5.out).mono ?_
 (case side1 => exact zef_)
 (case side2 => exact zhd_)
 rintro e w19 ⟨rfl, hi, hb, hk⟩
 refine ⟨_, rfl, ?_⟩
 have n_ := z (KeepBut.blk hk (zb BK393.out) NB393_394.out (by simp)) <| z (Kd.R_mono (Kd.R_keep (IsS111.apart (show IsS111 w _ gb394 l0 t407 t408 from zef_) (zr HO398.out) (by decide)) hk (fun _ h => h.2)) (fun _ h => h.1)) <| z (Kd.R_mono (Kd.R_keep (IsS111.apart (show IsS111 w _ gb394 l0 t407 t408 from zef_) (zr HO401.out) (by decide)) hk (fun _ h => h.2)) (fun _ h => h.1)) <| z (KeepBut.blk hk (zb BK404.out) NB404_394.out (by simp)) <| z (hb) <| z1 (hi)
 clear BK393 HO398 HO401 BK404 HB HI394
 obtain ⟨BK393, HO398, HO401, BK404, HB, HI394⟩ := n_
 (try clear hb)
 (try clear hb2)
 (try clear hk)
 (try clear hi)
 refine hK.out _ _ ⟨(blk_cell BK404.out 0).trans rfl, (blk_cell BK404.out 1).trans rfl, (blk_cell BK404.out 2).trans rfl⟩ (fun hHeld => ?_)
 clear hK K
 refine norm_ (a' := ?_) ?_ ?_
 rotate_left
 ·show Act.put _ (some 21) _ = _
  simp only [Act.put, sI, s0, sS, i64_w, i32_w]
  rfl
 refine one_ (i := 12) (N := some 23) #[ti,ti,ti,ti,ti,ti,ti,ti,ti,ti,ti,ti,ti,fi,fi,fi,fi] rfl rfl (one_of HT_.out (by kernel_rfl)) (by decide) (fun K hK => ?_)
 refine goes_ Try.func109 (by kernel_rfl) rfl #[.pointer (some ⟨gb394, 0, none⟩), .int .i64 24] (by rfl) rfl rfl ze_ ?_
 with_reducible refine (spec_l1Cur_pick.calls gb394 l0 t410 t411 24 t412 t413 t414 w _ ?side1 ?side2 A6.out).mono ?_
 (case side1 => exact zef_)
 (case side2 => exact zhd_)
 rintro e w20 ⟨rfl, hi, hb, hk⟩
 refine ⟨_, rfl, ?_⟩
 have n_ := z (KeepBut.blk hk (zb BK393.out) NB393_394.out (by simp)) <| z (Kd.R_mono (Kd.R_keep (IsS111.apart (show IsS111 w _ gb394 l0 t410 t411 from zef_) (zr HO398.out) (by decide)) hk (fun _ h => h.2)) (fun _ h => h.1)) <| z (Kd.R_mono (Kd.R_keep (IsS111.apart (show IsS111 w _ gb394 l0 t410 t411 from zef_) (zr HO401.out) (by decide)) hk (fun _ h => h.2)) (fun _ h => h.1)) <| z (KeepBut.blk hk (zb BK404.out) NB404_394.out (by simp)) <| z (hb) <| z1 (hi)
 clear BK393 HO398 HO401 BK404 HB HI394
 obtain ⟨BK393, HO398, HO401, BK404, HB, HI394⟩ := n_
 (try clear hb)
 (try clear hb2)
 (try clear hk)
 (try clear hi)
 refine hK.out _ _ ⟨(blk_cell BK404.out 0).trans rfl, (blk_cell BK404.out 1).trans rfl, (blk_cell BK404.out 2).trans rfl⟩ (fun hHeld => ?_)
 clear hK K
 refine norm_ (a' := ?_) ?_ ?_
 rotate_left
 ·show Act.put _ (some 23) _ = _
  simp only [Act.put, sI, s0, sS, i64_w, i32_w]
  rfl
 refine py_ 13 24 HT_.out ?_
 refine py_ 14 25 HT_.out ?_
 refine one_ (i := 15) (N := none) #[ti,ti,ti,ti,ti,ti,ti,ti,ti,ti,ti,ti,ti,ti,ti,ti,fi] rfl rfl (one_of HT_.out (by kernel_rfl)) (by decide) (fun K hK => ?_)
 have hs21 : w20.cell? ⟨gb393, 0, none⟩ = some (.int .i64 0) := (blk_cell BK393.out 0).trans rfl
 have hfs21 := blk_frozen BK393.out 0
 have hns21_1 := NB404_393.out
 have hms21_1 := NB393_404.out
 have hs22 : w20.cell? ⟨gb393, 1, none⟩ = some (.slice none 0 0) := (blk_cell BK393.out 1).trans rfl
 have hfs22 := blk_frozen BK393.out 1
 have hns22_1 := NB404_393.out
 have hms22_1 := NB393_404.out
 have hs23 : w20.cell? ⟨gb393, 2, none⟩ = some (.slice none 0 0) := (blk_cell BK393.out 2).trans rfl
 have hfs23 := blk_frozen BK393.out 2
 have hns23_1 := NB404_393.out
 have hms23_1 := NB393_404.out
 refine skip_ (w1 := ?_) (by rfl) rfl ?_ ?_
 rotate_left
 ·go_simp
  rfl
 refine hK.out _ _ ⟨((cell_far (p := ⟨gb393, _, none⟩) NB404_393.out _).trans (((cell_far (p := ⟨gb393, _, none⟩) NB404_393.out _).trans (((cell_far (p := ⟨gb393, _, none⟩) NB404_393.out _).trans (hHeld.1)))))), ((cell_far (p := ⟨gb393, _, none⟩) NB404_393.out _).trans (((cell_far (p := ⟨gb393, _, none⟩) NB404_393.out _).trans (((cell_far (p := ⟨gb393, _, none⟩) NB404_393.out _).trans (hHeld.2.1)))))), ((cell_far (p := ⟨gb393, _, none⟩) NB404_393.out _).trans (((cell_far (p := ⟨gb393, _, none⟩) NB404_393.out _).trans (((cell_far (p := ⟨gb393, _, none⟩) NB404_393.out _).trans (hHeld.2.2))))))⟩ (fun hHeld => ?_)
 clear hK K
 refine py_ 16 3 HT_.out ?_
 refine done_ (done_of HT_.out (by kernel_rfl)) ?_
 try go_wp2
 refine bodyPost_ret (results_ct rfl _ _ gb393 49 #[.int .i64 t395, .slice Ao14 t396.length co14, .slice Ao15 t399.length co15] (0, 0) _ rfl (by refine zb ?_; refine blk_put (cs := #[.int .i64 t395, .slice Ao14 t396.length co14, .slice none 0 0]) ?_ 2 _ rfl; refine zb ?_; refine blk_put (cs := #[.int .i64 t395, .slice none 0 0, .slice none 0 0]) ?_ 1 _ rfl; refine zb ?_; refine blk_put (cs := #[.int .i64 0, .slice none 0 0, .slice none 0 0]) ?_ 0 _ rfl; refine zb ?_; exact BK393.out) Try.underlying49 rfl (by kernel_rfl)) rfl ?_
 exact ⟨_, _, zf_, by refine zr ?_; exact Kd.R_mono (Kd.R_far (p := ⟨gb393, 2, none⟩) (Kd.R_far (p := ⟨gb393, 1, none⟩) (Kd.R_far (p := ⟨gb393, 0, none⟩) (Kd.R_types HO398.out BK393.out (by decide)) (fun _ hk => hk.2) (.int .i64 t395)) (fun _ hk => hk.2) (.slice Ao14 t396.length co14)) (fun _ hk => hk.2) (.slice Ao15 t399.length co15)) (fun _ hk => trivial), by refine zr ?_; exact Kd.R_mono (Kd.R_far (p := ⟨gb393, 2, none⟩) (Kd.R_far (p := ⟨gb393, 1, none⟩) (Kd.R_far (p := ⟨gb393, 0, none⟩) (Kd.R_types HO401.out BK393.out (by decide)) (fun _ hk => hk.2) (.int .i64 t395)) (fun _ hk => hk.2) (.slice Ao14 t396.length co14)) (fun _ hk => hk.2) (.slice Ao15 t399.length co15)) (fun _ hk => trivial), zhd_⟩
def spec_CircuitTable.f (k : Nat) (a0_0 : Int) (l0_1 : List (S57)) (l0_2 : List Int) (a1 : Int) : Option (Int × List Int × Bool) := (spec_ciGood.f k a0_0 l0_1 l0_2).bind fun t417 => (if t417 = true then ((spec_l1In.f a1 0 (wrap64 ((l0_2.length : Int) - 1))).bind fun t418 => (if t418 = true then (if 0 ≤ a1 then (if a1 < (l0_2.length : Int) then ((spec_ciTable.f k a0_0 l0_1 l0_2 (rd l0_2 a1)).bind fun bt420 => (some (bt420.1, bt420.2, true))) else (none)) else (none)) else (some (0, ([] : List Int), false)))) else (some (0, ([] : List Int), false)))
def spec_CircuitTable.T3 : Bool × List (List Nat × List Nat) := (true, [([], []), ([], []), ([1], [1]), ([], []), ([2, 3], [2, 3]), ([4], [4]), ([0, 5], [0, 5]), ([6, 6, 0, 1, 2, 3, 4, 5, 6], [6]), ([7, 0, 1, 2, 3, 4, 5, 6, 7], [])])
def spec_CircuitTable.B3 : List Nat := [0, 0, 2, 0, 14, 30, 63, 127, 255]
theorem spec_CircuitTable.tab3 : rtab .any (opsOf Try.f42 3) = spec_CircuitTable.T3 := by kernel_rfl
theorem spec_CircuitTable.bits3 : waitsOk spec_CircuitTable.T3.2 spec_CircuitTable.B3 = true := by kernel_rfl
theorem spec_CircuitTable.calls (k : Nat) (a0_0 : Int) (A0_1 : Option Addr) (c0_1 : Nat) (l0_1 : List (S57)) (A0_2 : Option Addr) (c0_2 : Nat) (l0_2 : List Int) (a1 : Int) (r1 : Int) (r2 : List Int) (r3 : Bool) (w : World) (hr0_1 : Kd.C k57 w A0_1 l0_1.length l0_1) (hc0_1 : l0_1.length ≤ c0_1) (hr0_2 : Kd.C (Kd.int .i64) w A0_2 l0_2.length l0_2) (hc0_2 : l0_2.length ≤ c0_2) (h : spec_CircuitTable.f k a0_0 l0_1 l0_2 a1 = some (r1, r2, r3)) :
  Calls Try.prog 42 #[.agg #[.int .i64 a0_0, .slice A0_1 l0_1.length c0_1, .slice A0_2 l0_2.length c0_2], .int .i64 a1] w fun e w' => ∃ v1_ : Value, e = .returned (.tuple #[.agg #[.int .i64 r1, v1_], .bool r3]) ∧ Kd.R (Kd.int .i64) 3 w' w.heap.size (fun _ => True) v1_ r2 ∧ Below w.heap.size w w' := by
 have hu49 := Try.underlying49
 have hu60 := Try.underlying60
 have HR0_1 := aM hr0_1
 have HC0_1 := aM hc0_1
 clear hr0_1 hc0_1
 have HR0_2 := aM hr0_2
 have HC0_2 := aM hc0_2
 clear hr0_2 hc0_2
 have HB := aM (Below.refl w.heap.size w)
 have H : ((spec_ciGood.f k a0_0 l0_1 l0_2).bind fun t417 => (if t417 = true then ((spec_l1In.f a1 0 (wrap64 ((l0_2.length : Int) - 1))).bind fun t418 => (if t418 = true then (if 0 ≤ a1 then (if a1 < (l0_2.length : Int) then ((spec_ciTable.f k a0_0 l0_1 l0_2 (rd l0_2 a1)).bind fun bt420 => (some (bt420.1, bt420.2, true))) else (none)) else (none)) else (some (0, ([] : List Int), false)))) else (some (0, ([] : List Int), false)))) = some (r1, r2, r3) := h
 clear h
 replace H := oB.mp H
 obtain ⟨t417, A30, H⟩ := H
 replace H : (if t417 = true then ((spec_l1In.f a1 0 (wrap64 ((l0_2.length : Int) - 1))).bind fun t418 => (if t418 = true then (if 0 ≤ a1 then (if a1 < (l0_2.length : Int) then ((spec_ciTable.f k a0_0 l0_1 l0_2 (rd l0_2 a1)).bind fun bt420 => (some (bt420.1, bt420.2, true))) else (none)) else (none)) else (some (0, ([] : List Int), false)))) else (some (0, ([] : List Int), false))) = some (r1, r2, r3) := H
 have A3 := aM A30
 clear A30
 by_cases c4 : t417 = true
 ·subst c4
  have H1 : ((spec_l1In.f a1 0 (wrap64 ((l0_2.length : Int) - 1))).bind fun t418 => (if t418 = true then (if 0 ≤ a1 then (if a1 < (l0_2.length : Int) then ((spec_ciTable.f k a0_0 l0_1 l0_2 (rd l0_2 a1)).bind fun bt420 => (some (bt420.1, bt420.2, true))) else (none)) else (none)) else (some (0, ([] : List Int), false)))) = some (r1, r2, r3) := by rw [if_pos rfl] at H; exact H
  clear H; have H := H1; clear H1; replace H := oB.mp H; obtain ⟨t418, A50, H⟩ := H; replace H : (if t418 = true then (if 0 ≤ a1 then (if a1 < (l0_2.length : Int) then ((spec_ciTable.f k a0_0 l0_1 l0_2 (rd l0_2 a1)).bind fun bt420 => (some (bt420.1, bt420.2, true))) else (none)) else (none)) else (some (0, ([] : List Int), false))) = some (r1, r2, r3) := H; have A5 := aM A50; clear A50
  by_cases c6 : t418 = true
  ·subst c6
   have H1 : (if 0 ≤ a1 then (if a1 < (l0_2.length : Int) then ((spec_ciTable.f k a0_0 l0_1 l0_2 (rd l0_2 a1)).bind fun bt420 => (some (bt420.1, bt420.2, true))) else (none)) else (none)) = some (r1, r2, r3) := by rw [if_pos rfl] at H; exact H
   clear H; have H := H1; clear H1
   by_cases c7 : 0 ≤ a1
   ·rw [if_pos c7] at H
    have c7b0 := decide_eq_true c7; clear c7
    by_cases c8 : a1 < (l0_2.length : Int)
    ·rw [if_pos c8] at H
     have c8b0 := decide_eq_true c8; clear c8; replace H := oB.mp H; obtain ⟨⟨t420, t421⟩, A90, H⟩ := H; replace H : (some (t420, t421, true)) = some (r1, r2, r3) := H; have A9 := aM A90; clear A90
     simp only [Option.some.injEq, Prod.mk.injEq] at H
     obtain ⟨rfl, rfl, rfl⟩ := H
     go_enter Try.func42, Try.ntmps42
     (try go_wp2_with (first | ((with_reducible refine gate_dst (N := 2) rfl ?_); (try (refine gate_guard (by rfl) ?_; dsimp only)); refine box_event ?hg (N := 2) ?hd (cs := #[.int .i64 a0_0, .slice A0_1 l0_1.length c0_1, .slice A0_2 l0_2.length c0_2]) (t := 49) ?hr ?_; (case hd => rfl); (case hg => rfl); (case hr => exact zc_); intro gb415 hg w10 hbox hb; have n_ := z (below_step zb_ hb) <| z (hbox) <| z ((by rw [hg]; exact (below_size zb_) : w.heap.size ≤ gb415)) <| z1 ((by rw [hg]; exact (below_size zb_) : w.heap.size ≤ gb415)); clear HB; obtain ⟨HB, BK415, GW415, GE415⟩ := n_; clear hb hbox hg) | ((with_reducible refine gate_dst (N := 4) rfl ?_); (try (refine gate_guard (by rfl) ?_; dsimp only)); refine box_event ?hg (N := 4) ?hd (cs := #[.int .i64 0, .slice none 0 0]) (t := 60) ?hr ?_; (case hd => rfl); (case hg => rfl); (case hr => exact zc_); intro gb416 hg w11 hbox hb; have n_ := z (blk_below (zb BK415.out) hb) <| z (below_step zfa_ hb) <| z (hbox) <| z ((by rw [hg]; exact (below_size zfa_) : w.heap.size ≤ gb416)) <| z ((by rw [hg]; exact (below_size zfa_) : w.heap.size ≤ gb416)) <| z ((by rw [hg]; exact Nat.ne_of_lt (blk_lt (zb BK415.out)) : gb415 ≠ gb416)) <| z1 ((by rw [hg]; exact Nat.ne_of_gt (blk_lt (zb BK415.out)) : gb416 ≠ gb415)); clear BK415 HB; obtain ⟨BK415, HB, BK416, GW416, GE416, NB415_416, NB416_415⟩ := n_; clear hb hbox hg; have hnb12 := NB415_416.out; have hnc12 := NB416_415.out; have hcz13_0 : w11.cell? ⟨gb415, 0, none⟩ = some (.int .i64 a0_0) := (blk_cell BK415.out 0).trans rfl; have hcz13_1 : w11.cell? ⟨gb415, 1, none⟩ = some (.slice A0_1 l0_1.length c0_1) := (blk_cell BK415.out 1).trans rfl; have hcz13_2 : w11.cell? ⟨gb415, 2, none⟩ = some (.slice A0_2 l0_2.length c0_2) := (blk_cell BK415.out 2).trans rfl; have hfz13_0 := blk_frozen BK415.out 0; have hfz13_1 := blk_frozen BK415.out 1; have hfz13_2 := blk_frozen BK415.out 2) | ((with_reducible refine gate_callee (f := 119) rfl ?_); refine goesL_ (some 7) rfl rfl Try.func119 (by kernel_rfl) rfl #[.agg #[.int .i64 a0_0, .slice A0_1 l0_1.length c0_1, .slice A0_2 l0_2.length c0_2]] rfl ze_ ?_; (with_reducible refine (spec_ciGood.calls k a0_0 _ _ l0_1 _ _ l0_2 true _ ?side1 ?side2 ?side3 ?side4 A3.out).mono ?_); (case side1 => exact zg_); (case side2 => exact HC0_1.out); (case side3 => exact zj_); (case side4 => exact HC0_2.out); rintro e w14 ⟨rfl, hb⟩; refine ⟨_, rfl, ?_⟩; have n_ := z (blk_below (zb BK415.out) hb) <| z (blk_below (zb BK416.out) hb) <| z1 (below_step zeg_ hb); clear BK415 BK416 HB; obtain ⟨BK415, BK416, HB⟩ := n_; clear hb; have hcz15_0 : w14.cell? ⟨gb415, 0, none⟩ = some (.int .i64 a0_0) := (blk_cell BK415.out 0).trans rfl; have hcz15_1 : w14.cell? ⟨gb415, 1, none⟩ = some (.slice A0_1 l0_1.length c0_1) := (blk_cell BK415.out 1).trans rfl; have hcz15_2 : w14.cell? ⟨gb415, 2, none⟩ = some (.slice A0_2 l0_2.length c0_2) := (blk_cell BK415.out 2).trans rfl; have hfz15_0 := blk_frozen BK415.out 0; have hfz15_1 := blk_frozen BK415.out 1; have hfz15_2 := blk_frozen BK415.out 2) | (go_at_call 108; (with_reducible refine (spec_l1In.calls a1 0 (wrap64 ((l0_2.length : Int) - 1)) true _ A5.out).mono ?_); rintro e w' ⟨rfl, ⟨nd, rfl⟩⟩; (try (rw [drewN_self w14]; generalize hq_ : World.drewN w14 _ = w14; have n0_ : Aside0 (w14.heap[gb415]? = some (.cells #[.int .i64 a0_0, .slice A0_1 l0_1.length c0_1, .slice A0_2 l0_2.length c0_2] 49 (0, 0))) := ⟨by rw [← hq_]; exact (zb BK415.out)⟩; have n1_ : Aside0 (w14.heap[gb416]? = some (.cells #[.int .i64 0, .slice none 0 0] 60 (0, 0))) := ⟨by rw [← hq_]; exact (zb BK416.out)⟩; have n2_ : Aside0 (Below w.heap.size w w14) := ⟨by rw [← hq_]; exact zeg_⟩; clear BK415 BK416 HB hq_; have BK415 := n0_; have BK416 := n1_; have HB := n2_; clear n0_ n1_ n2_))))); have n_ := z (blk_drew BK415.out) <| z (blk_drew BK416.out) <| z1 (p1 HB.out)
     clear BK415 BK416 HB; obtain ⟨BK415, BK416, HB⟩ := n_; have p419 : 0 ≤ (a1 : Int) := of_decide_eq_true za_; have q419 : a1 < (l0_2.length : Int) := of_decide_eq_true za_; obtain ⟨ad419, e419, hx419_0⟩ := Kd.at_int HR0_2.out a1 p419 q419; have hw419_0 := hx419_0
     cases e419
     (try (replace hx419_0 := (HB.out.cell (World.block_lt_of_cell? w _ hx419_0)).trans hx419_0)); replace p419 := eq_true p419; replace q419 := eq_true q419
     refine start_ (n := 9) (S := fun w' => w'.cell? ⟨gb415, 0, none⟩ = some (.int .i64 a0_0) ∧ w'.cell? ⟨gb415, 1, none⟩ = some (.slice A0_1 l0_1.length c0_1) ∧ w'.cell? ⟨gb415, 2, none⟩ = some (.slice (some ad419) l0_2.length c0_2) ∧ w'.cell? (ad419.add (a1).toNat) = some (.int .i64 (rd l0_2 a1))) (ds := []) #[fi,fi,fi,fi,fi,fi,fi,fi,fi] (by kernel_rfl) rfl rfl ⟨(blk_cell BK415.out 0).trans rfl, (blk_cell BK415.out 1).trans rfl, (blk_cell BK415.out 2).trans rfl, ((HB.out.cell (World.block_lt_of_cell? w _ hw419_0)).trans hw419_0)⟩ (fun hHeld => ?_); refine with_tabW spec_CircuitTable.tab3 spec_CircuitTable.bits3 (fun HT_ HW_ => ?_)
     generalize w14.drew = w16 at BK415 BK416 HB hx419_0 hHeld ⊢; refine py_ 1 20 HT_.out ?_; refine py_ 3 22 HT_.out ?_
     refine take_ (i := 0) (N := some 19) (v := ?_) (a' := ?_) #[ti,ti,fi,ti,fi,fi,fi,fi,fi] rfl rfl (take_ofW HT_.out HW_.out (by kernel_rfl)) (fun _ _ _ h => h) (Or.inl ⟨by rfl, ?_⟩) hHeld ?_ ?_
     rotate_left
     ·rintro w' ⟨s0, s1, s2, s3⟩
      go_simp
      with_reducible rfl
     rotate_left
     ·simp only [Act.put, sI, s0, sS, i64_w, i32_w]
      rfl
     refine take_ (i := 2) (N := some 21) (v := ?_) (a' := ?_) #[ti,ti,ti,ti,fi,fi,fi,fi,fi] rfl rfl (take_ofW HT_.out HW_.out (by kernel_rfl)) (fun _ _ _ h => h) (Or.inl ⟨by rfl, ?_⟩) hHeld ?_ ?_
     rotate_left
     ·rintro w' ⟨s0, s1, s2, s3⟩
      go_simp
      with_reducible rfl
     rotate_left
     ·simp only [Act.put, sI, s0, sS, i64_w, i32_w]
      rfl
     refine py_ 4 23 HT_.out ?_
     refine take_ (i := 5) (N := some 24) (v := ?_) (a' := ?_) #[ti,ti,ti,ti,ti,ti,fi,fi,fi] rfl rfl (take_ofW HT_.out HW_.out (by kernel_rfl)) (fun _ _ _ h => h) (Or.inl ⟨by rfl, ?_⟩) hHeld ?_ ?_
     rotate_left
     ·rintro w' ⟨s0, s1, s2, s3⟩
      go_simp
      with_reducible rfl
     rotate_left
     ·simp only [Act.put, sI, s0, sS, i64_w, i32_w]
      rfl
     refine one_ (i := 6) (N := some 25) #[ti,ti,ti,ti,ti,ti,ti,fi,fi] rfl rfl (one_of HT_.out (by kernel_rfl)) (by decide) (fun K hK => ?_)
     refine goes_ Try.func124 (by kernel_rfl) rfl #[.agg #[.int .i64 a0_0, .slice A0_1 l0_1.length c0_1, .slice (some ad419) l0_2.length c0_2], .int .i64 (rd l0_2 a1)] (by rfl) rfl rfl ze_ ?_
     with_reducible refine (spec_ciTable.calls k a0_0 _ _ l0_1 _ _ l0_2 (rd l0_2 a1) t420 t421 _ ?side1 ?side2 ?side3 ?side4 A9.out).mono ?_
     (case side1 => exact zg_)
     (case side2 => exact HC0_1.out)
     (case side3 => exact zj_)
     (case side4 => exact HC0_2.out)
     rintro e w17 ⟨v422, rfl, ho0, hb⟩
     refine ⟨_, rfl, ?_⟩
     have n_ := z (Kd.R_lower ho0 (below_size zeg_)) <| z (blk_below (zb BK415.out) hb) <| z (blk_below (zb BK416.out) hb) <| z1 (below_step zeg_ hb)
     clear BK415 BK416 HB; obtain ⟨HO423, BK415, BK416, HB⟩ := n_; (try clear hb); (try clear hb2); (try clear hk); (try clear hi); (try clear ho0); obtain ⟨Ao19, co19, eo19⟩ := Kd.R_slice HO423.out; (first | subst eo19 | (injection eo19 with f1_ f2_ f3_; have f4_ := f1_.symm; have f5_ := f3_.symm; clear f1_ f2_ f3_; subst f4_; subst f5_))
     refine hK.out _ _ ⟨(blk_cell BK415.out 0).trans rfl, (blk_cell BK415.out 1).trans rfl, (blk_cell BK415.out 2).trans rfl, ((HB.out.cell (World.block_lt_of_cell? w _ hw419_0)).trans hw419_0)⟩ (fun hHeld => ?_)
     clear hK K
     refine norm_ (a' := ?_) ?_ ?_
     rotate_left
     ·show Act.put _ (some 25) _ = _
      simp only [Act.put, sI, s0, sS, i64_w, i32_w]
      rfl
     refine one_ (i := 7) (N := none) #[ti,ti,ti,ti,ti,ti,ti,ti,fi] rfl rfl (one_of HT_.out (by kernel_rfl)) (by decide) (fun K hK => ?_)
     have hs18 : w17.cell? ⟨gb416, 0, none⟩ = some (.int .i64 0) := (blk_cell BK416.out 0).trans rfl; have hfs18 := blk_frozen BK416.out 0; have hns18_0 := NB415_416.out; have hms18_0 := NB416_415.out; have hs20 : w17.cell? ⟨gb416, 1, none⟩ = some (.slice none 0 0) := (blk_cell BK416.out 1).trans rfl; have hfs20 := blk_frozen BK416.out 1; have hns20_0 := NB415_416.out; have hms20_0 := NB416_415.out
     refine skip_ (w1 := ?_) (by rfl) rfl ?_ ?_
     rotate_left
     ·go_simp
      rfl
     refine hK.out _ _ ⟨((cell_far (p := ⟨gb416, _, none⟩) NB415_416.out _).trans (((cell_far (p := ⟨gb416, _, none⟩) NB415_416.out _).trans (hHeld.1)))), ((cell_far (p := ⟨gb416, _, none⟩) NB415_416.out _).trans (((cell_far (p := ⟨gb416, _, none⟩) NB415_416.out _).trans (hHeld.2.1)))), ((cell_far (p := ⟨gb416, _, none⟩) NB415_416.out _).trans (((cell_far (p := ⟨gb416, _, none⟩) NB415_416.out _).trans (hHeld.2.2.1)))), ((cell_far (p := ⟨gb416, _, none⟩) (by have h9 := Nat.ne_of_lt (Nat.lt_of_lt_of_le zfd_ GW416.out); first | exact h9 | (rw [add_block]; exact h9) | (show (Addr.add _ _).block ≠ _; rw [add_block]; exact h9) | (dsimp only; exact h9)) _).trans (((cell_far (p := ⟨gb416, _, none⟩) (by have h9 := Nat.ne_of_lt (Nat.lt_of_lt_of_le zfd_ GW416.out); first | exact h9 | (rw [add_block]; exact h9) | (show (Addr.add _ _).block ≠ _; rw [add_block]; exact h9) | (dsimp only; exact h9)) _).trans (hHeld.2.2.2))))⟩ (fun hHeld => ?_)
     clear hK K; refine py_ 8 5 HT_.out ?_
     refine done_ (done_of HT_.out (by kernel_rfl)) ?_
     (try go_wp2)
     refine bodyPost_ret (results_ct rfl _ _ gb416 60 #[.int .i64 t420, .slice Ao19 t421.length co19] (0, 0) _ rfl (by refine zb ?_; refine blk_put (cs := #[.int .i64 t420, .slice none 0 0]) ?_ 1 _ rfl; refine zb ?_; refine blk_put (cs := #[.int .i64 0, .slice none 0 0]) ?_ 0 _ rfl; refine zb ?_; exact BK416.out) Try.underlying60 rfl (by kernel_rfl)) rfl ?_
     exact ⟨_, zf_, by refine zr ?_; exact Kd.R_mono (Kd.R_far (p := ⟨gb416, 1, none⟩) (Kd.R_far (p := ⟨gb416, 0, none⟩) (Kd.R_types HO423.out BK416.out (by decide)) (fun _ hk => hk.2) (.int .i64 t420)) (fun _ hk => hk.2) (.slice Ao19 t421.length co19)) (fun _ hk => trivial), zeg_⟩
    ·rw [if_neg c8] at H
     exact absurd H (by simp)
   ·rw [if_neg c7] at H
    exact absurd H (by simp)
  ·replace c6 := Bool.eq_false_iff.mpr c6
   subst c6; have H1 : (some (0, ([] : List Int), false)) = some (r1, r2, r3) := by rw [if_neg (show ¬ (false = true) by decide)] at H; exact H
   clear H; have H := H1; clear H1
   simp only [Option.some.injEq, Prod.mk.injEq] at H
   obtain ⟨rfl, rfl, rfl⟩ := H
   go_enter Try.func42, Try.ntmps42
   go_wp2_with (first | ((with_reducible refine gate_dst (N := 2) rfl ?_); (try (refine gate_guard (by rfl) ?_; dsimp only)); refine box_event ?hg (N := 2) ?hd (cs := #[.int .i64 a0_0, .slice A0_1 l0_1.length c0_1, .slice A0_2 l0_2.length c0_2]) (t := 49) ?hr ?_; (case hd => rfl); (case hg => rfl); (case hr => exact zc_); intro gb415 hg w21 hbox hb; have n_ := z (below_step zb_ hb) <| z (hbox) <| z ((by rw [hg]; exact (below_size zb_) : w.heap.size ≤ gb415)) <| z1 ((by rw [hg]; exact (below_size zb_) : w.heap.size ≤ gb415)); clear HB; obtain ⟨HB, BK415, GW415, GE415⟩ := n_; clear hb hbox hg) | ((with_reducible refine gate_dst (N := 4) rfl ?_); (try (refine gate_guard (by rfl) ?_; dsimp only)); refine box_event ?hg (N := 4) ?hd (cs := #[.int .i64 0, .slice none 0 0]) (t := 60) ?hr ?_; (case hd => rfl); (case hg => rfl); (case hr => exact zc_); intro gb416 hg w22 hbox hb; have n_ := z (blk_below (zb BK415.out) hb) <| z (below_step zfa_ hb) <| z (hbox) <| z ((by rw [hg]; exact (below_size zfa_) : w.heap.size ≤ gb416)) <| z ((by rw [hg]; exact (below_size zfa_) : w.heap.size ≤ gb416)) <| z ((by rw [hg]; exact Nat.ne_of_lt (blk_lt (zb BK415.out)) : gb415 ≠ gb416)) <| z1 ((by rw [hg]; exact Nat.ne_of_gt (blk_lt (zb BK415.out)) : gb416 ≠ gb415)); clear BK415 HB; obtain ⟨BK415, HB, BK416, GW416, GE416, NB415_416, NB416_415⟩ := n_; clear hb hbox hg; have hnb23 := NB415_416.out; have hnc23 := NB416_415.out; have hcz24_0 : w22.cell? ⟨gb415, 0, none⟩ = some (.int .i64 a0_0) := (blk_cell BK415.out 0).trans rfl; have hcz24_1 : w22.cell? ⟨gb415, 1, none⟩ = some (.slice A0_1 l0_1.length c0_1) := (blk_cell BK415.out 1).trans rfl; have hcz24_2 : w22.cell? ⟨gb415, 2, none⟩ = some (.slice A0_2 l0_2.length c0_2) := (blk_cell BK415.out 2).trans rfl; have hfz24_0 := blk_frozen BK415.out 0; have hfz24_1 := blk_frozen BK415.out 1; have hfz24_2 := blk_frozen BK415.out 2) | ((with_reducible refine gate_callee (f := 119) rfl ?_); refine goesL_ (some 7) rfl rfl Try.func119 (by kernel_rfl) rfl #[.agg #[.int .i64 a0_0, .slice A0_1 l0_1.length c0_1, .slice A0_2 l0_2.length c0_2]] rfl ze_ ?_; (with_reducible refine (spec_ciGood.calls k a0_0 _ _ l0_1 _ _ l0_2 true _ ?side1 ?side2 ?side3 ?side4 A3.out).mono ?_); (case side1 => exact zg_); (case side2 => exact HC0_1.out); (case side3 => exact zj_); (case side4 => exact HC0_2.out); rintro e w25 ⟨rfl, hb⟩; refine ⟨_, rfl, ?_⟩; have n_ := z (blk_below (zb BK415.out) hb) <| z (blk_below (zb BK416.out) hb) <| z1 (below_step zeg_ hb); clear BK415 BK416 HB; obtain ⟨BK415, BK416, HB⟩ := n_; clear hb; have hcz26_0 : w25.cell? ⟨gb415, 0, none⟩ = some (.int .i64 a0_0) := (blk_cell BK415.out 0).trans rfl; have hcz26_1 : w25.cell? ⟨gb415, 1, none⟩ = some (.slice A0_1 l0_1.length c0_1) := (blk_cell BK415.out 1).trans rfl; have hcz26_2 : w25.cell? ⟨gb415, 2, none⟩ = some (.slice A0_2 l0_2.length c0_2) := (blk_cell BK415.out 2).trans rfl; have hfz26_0 := blk_frozen BK415.out 0; have hfz26_1 := blk_frozen BK415.out 1; have hfz26_2 := blk_frozen BK415.out 2) | (go_at_call 108; (with_reducible refine (spec_l1In.calls a1 0 (wrap64 ((l0_2.length : Int) - 1)) false _ A5.out).mono ?_); rintro e w' ⟨rfl, ⟨nd, rfl⟩⟩; (try (rw [drewN_self w25]; generalize hq_ : World.drewN w25 _ = w25; have n0_ : Aside0 (w25.heap[gb415]? = some (.cells #[.int .i64 a0_0, .slice A0_1 l0_1.length c0_1, .slice A0_2 l0_2.length c0_2] 49 (0, 0))) := ⟨by rw [← hq_]; exact (zb BK415.out)⟩; have n1_ : Aside0 (w25.heap[gb416]? = some (.cells #[.int .i64 0, .slice none 0 0] 60 (0, 0))) := ⟨by rw [← hq_]; exact (zb BK416.out)⟩; have n2_ : Aside0 (Below w.heap.size w w25) := ⟨by rw [← hq_]; exact zeg_⟩; clear BK415 BK416 HB hq_; have BK415 := n0_; have BK416 := n1_; have HB := n2_; clear n0_ n1_ n2_)); have hcz27_0 : w25.cell? ⟨gb416, 0, none⟩ = some (.int .i64 0) := (blk_cell BK416.out 0).trans rfl; have hcz27_1 : w25.cell? ⟨gb416, 1, none⟩ = some (.slice none 0 0) := (blk_cell BK416.out 1).trans rfl; have hfz27_0 := blk_frozen BK416.out 0; have hfz27_1 := blk_frozen BK416.out 1))
   refine bodyPost_ret (results_ct rfl _ _ gb416 60 #[.int .i64 0, .slice none 0 0] (0, 0) _ rfl (by refine zb ?_; refine blk_put (cs := #[.int .i64 0, .slice none 0 0]) ?_ 1 _ rfl; refine zb ?_; refine blk_put (cs := #[.int .i64 0, .slice none 0 0]) ?_ 0 _ rfl; refine zb ?_; exact BK416.out) Try.underlying60 rfl (by kernel_rfl)) rfl ?_
   exact ⟨_, zf_, zcb_, zeg_⟩
 ·replace c4 := Bool.eq_false_iff.mpr c4
  subst c4; have H1 : (some (0, ([] : List Int), false)) = some (r1, r2, r3) := by rw [if_neg (show ¬ (false = true) by decide)] at H; exact H
  clear H; have H := H1; clear H1
  simp only [Option.some.injEq, Prod.mk.injEq] at H
  obtain ⟨rfl, rfl, rfl⟩ := H
  go_enter Try.func42, Try.ntmps42
  go_wp2_with (first | ((with_reducible refine gate_dst (N := 2) rfl ?_); (try (refine gate_guard (by rfl) ?_; dsimp only)); refine box_event ?hg (N := 2) ?hd (cs := #[.int .i64 a0_0, .slice A0_1 l0_1.length c0_1, .slice A0_2 l0_2.length c0_2]) (t := 49) ?hr ?_; (case hd => rfl); (case hg => rfl); (case hr => exact zc_); intro gb415 hg w28 hbox hb; have n_ := z (below_step zb_ hb) <| z (hbox) <| z ((by rw [hg]; exact (below_size zb_) : w.heap.size ≤ gb415)) <| z1 ((by rw [hg]; exact (below_size zb_) : w.heap.size ≤ gb415)); clear HB; obtain ⟨HB, BK415, GW415, GE415⟩ := n_; clear hb hbox hg) | ((with_reducible refine gate_dst (N := 4) rfl ?_); (try (refine gate_guard (by rfl) ?_; dsimp only)); refine box_event ?hg (N := 4) ?hd (cs := #[.int .i64 0, .slice none 0 0]) (t := 60) ?hr ?_; (case hd => rfl); (case hg => rfl); (case hr => exact zc_); intro gb416 hg w29 hbox hb; have n_ := z (blk_below (zb BK415.out) hb) <| z (below_step zfa_ hb) <| z (hbox) <| z ((by rw [hg]; exact (below_size zfa_) : w.heap.size ≤ gb416)) <| z ((by rw [hg]; exact (below_size zfa_) : w.heap.size ≤ gb416)) <| z ((by rw [hg]; exact Nat.ne_of_lt (blk_lt (zb BK415.out)) : gb415 ≠ gb416)) <| z1 ((by rw [hg]; exact Nat.ne_of_gt (blk_lt (zb BK415.out)) : gb416 ≠ gb415)); clear BK415 HB; obtain ⟨BK415, HB, BK416, GW416, GE416, NB415_416, NB416_415⟩ := n_; clear hb hbox hg; have hnb30 := NB415_416.out; have hnc30 := NB416_415.out; have hcz31_0 : w29.cell? ⟨gb415, 0, none⟩ = some (.int .i64 a0_0) := (blk_cell BK415.out 0).trans rfl; have hcz31_1 : w29.cell? ⟨gb415, 1, none⟩ = some (.slice A0_1 l0_1.length c0_1) := (blk_cell BK415.out 1).trans rfl; have hcz31_2 : w29.cell? ⟨gb415, 2, none⟩ = some (.slice A0_2 l0_2.length c0_2) := (blk_cell BK415.out 2).trans rfl; have hfz31_0 := blk_frozen BK415.out 0; have hfz31_1 := blk_frozen BK415.out 1; have hfz31_2 := blk_frozen BK415.out 2) | ((with_reducible refine gate_callee (f := 119) rfl ?_); refine goesL_ (some 7) rfl rfl Try.func119 (by kernel_rfl) rfl #[.agg #[.int .i64 a0_0, .slice A0_1 l0_1.length c0_1, .slice A0_2 l0_2.length c0_2]] rfl ze_ ?_; (with_reducible refine (spec_ciGood.calls k a0_0 _ _ l0_1 _ _ l0_2 false _ ?side1 ?side2 ?side3 ?side4 A3.out).mono ?_); (case side1 => exact zg_); (case side2 => exact HC0_1.out); (case side3 => exact zj_); (case side4 => exact HC0_2.out); rintro e w32 ⟨rfl, hb⟩; refine ⟨_, rfl, ?_⟩; have n_ := z (blk_below (zb BK415.out) hb) <| z (blk_below (zb BK416.out) hb) <| z1 (below_step zeg_ hb); clear BK415 BK416 HB; obtain ⟨BK415, BK416, HB⟩ := n_; clear hb; have hcz33_0 : w32.cell? ⟨gb416, 0, none⟩ = some (.int .i64 0) := (blk_cell BK416.out 0).trans rfl; have hcz33_1 : w32.cell? ⟨gb416, 1, none⟩ = some (.slice none 0 0) := (blk_cell BK416.out 1).trans rfl; have hfz33_0 := blk_frozen BK416.out 0; have hfz33_1 := blk_frozen BK416.out 1))
  refine bodyPost_ret (results_ct rfl _ _ gb416 60 #[.int .i64 0, .slice none 0 0] (0, 0) _ rfl (by refine zb ?_; refine blk_put (cs := #[.int .i64 0, .slice none 0 0]) ?_ 1 _ rfl; refine zb ?_; refine blk_put (cs := #[.int .i64 0, .slice none 0 0]) ?_ 0 _ rfl; refine zb ?_; exact BK416.out) Try.underlying60 rfl (by kernel_rfl)) rfl ?_
  exact ⟨_, zf_, zcb_, zeg_⟩
end Go.Proofs.Ytbkighlfgaifeaa.QFnGates
