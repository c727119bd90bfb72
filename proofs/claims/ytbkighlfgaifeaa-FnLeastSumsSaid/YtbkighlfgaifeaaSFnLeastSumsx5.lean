/- Functions of FnLeastSums, each as a Lean function, with the proof that the Go code comes to its answers. -/
import Derived.Test.YtbkighlfgaifeaaSFnLeastSumsx0
import Derived.Test.YtbkighlfgaifeaaSFnLeastSumsx1
import Derived.Test.YtbkighlfgaifeaaSFnLeastSumsx4
namespace Go.Proofs.Ytbkighlfgaifeaa.QFnLeastSums
open Go.RowKit Go.Proofs.YtbkighlfgaifeaaW.PrintWords Go.Proofs.YtbkighlfgaifeaaW.PrintLast Go.Proofs.YtbkighlfgaifeaaW.PrintMore
open Go.Proofs.YtbkighlfgaifeaaW.PrintWords renaming pw_below_drewN → pN, below_drew1 → p1, below_alloc → pA
open Go.Proofs.YtbkighlfgaifeaaW.PrintWords.Kd renaming R_alloc → kA, R_drewN → kN, R_drew → kD, Q_alloc → qA, Q_drewN → qN, Q_drew → qD, C_alloc → cA, C_drewN → cN, C_drew → cD
open Go.Proofs.YtbkighlfgaifeaaW.PrintWords.Aside0 renaming mk → aM
open List renaming setIfInBounds_toArray → sI, set_cons_zero → s0, set_cons_succ → sS, map_toArray → mT, length_take → lT, length_drop → lD, map_cons → mC, map_nil → mN
open Option renaming bind_eq_some_iff → oB, bind_some → oS
attribute [local go_sem] max2_int min2_int max_two min_two max_three min_three max_four min_four
set_option maxHeartbeats 8000000
set_option maxRecDepth 100000
set_option linter.unusedVariables false
set_option linter.unusedSimpArgs false
attribute [local go_sem high] eqA72
def impl_IsImplicant.f (k : Nat) (a0_0 : Int) (l0_1 : List Int) (a1_0 : Int) (a1_1 : Int) : Option (Bool × Bool) := (impl_IsTable.f k a0_0 l0_1).bind fun t166 => (if t166 = true then ((impl_IsTerm.f a0_0 a1_0 a1_1).bind fun t167 => (if t167 = true then ((impl_implies.f k a0_0 l0_1 a1_0 a1_1).bind fun t168 => (some (t168, true))) else (some (false, false)))) else (some (false, false)))
theorem impl_IsImplicant.calls (k : Nat) (a0_0 : Int) (A0_1 : Option Addr) (c0_1 : Nat) (l0_1 : List Int) (a1_0 : Int) (a1_1 : Int) (r1 : Bool) (r2 : Bool) (w : World) (hr0_1 : Kd.C (Kd.int .i64) w A0_1 l0_1.length l0_1) (hc0_1 : l0_1.length ≤ c0_1) (h : impl_IsImplicant.f k a0_0 l0_1 a1_0 a1_1 = some (r1, r2)) :
  Calls Try.prog 54 #[.agg #[.int .i64 a0_0, .slice A0_1 l0_1.length c0_1], .agg #[.int .i64 a1_0, .int .i64 a1_1]] w fun e w' => e = .returned (.tuple #[.bool r1, .bool r2]) ∧ Below w.heap.size w w' := by
 have hu60 := Try.underlying60
 have hu72 := Try.underlying72
 have HR0_1 := aM hr0_1
 have HC0_1 := aM hc0_1
 clear hr0_1 hc0_1
 have HB := aM (Below.refl w.heap.size w)
 have H : ((impl_IsTable.f k a0_0 l0_1).bind fun t166 => (if t166 = true then ((impl_IsTerm.f a0_0 a1_0 a1_1).bind fun t167 => (if t167 = true then ((impl_implies.f k a0_0 l0_1 a1_0 a1_1).bind fun t168 => (some (t168, true))) else (some (false, false)))) else (some (false, false)))) = some (r1, r2) := h
 clear h
 replace H := oB.mp H
 obtain ⟨t166, A30, H⟩ := H
 replace H : (if t166 = true then ((impl_IsTerm.f a0_0 a1_0 a1_1).bind fun t167 => (if t167 = true then ((impl_implies.f k a0_0 l0_1 a1_0 a1_1).bind fun t168 => (some (t168, true))) else (some (false, false)))) else (some (false, false))) = some (r1, r2) := H
 have A3 := aM A30
 clear A30
 by_cases c4 : t166 = true
 ·subst c4
  have H1 : ((impl_IsTerm.f a0_0 a1_0 a1_1).bind fun t167 => (if t167 = true then ((impl_implies.f k a0_0 l0_1 a1_0 a1_1).bind fun t168 => (some (t168, true))) else (some (false, false)))) = some (r1, r2) := by rw [if_pos rfl] at H; exact H
  clear H; have H := H1; clear H1; replace H := oB.mp H; obtain ⟨t167, A50, H⟩ := H; replace H : (if t167 = true then ((impl_implies.f k a0_0 l0_1 a1_0 a1_1).bind fun t168 => (some (t168, true))) else (some (false, false))) = some (r1, r2) := H; have A5 := aM A50; clear A50
  by_cases c6 : t167 = true
  ·subst c6
   have H1 : ((impl_implies.f k a0_0 l0_1 a1_0 a1_1).bind fun t168 => (some (t168, true))) = some (r1, r2) := by rw [if_pos rfl] at H; exact H
   clear H; have H := H1; clear H1; replace H := oB.mp H; obtain ⟨t168, A70, H⟩ := H; replace H : (some (t168, true)) = some (r1, r2) := H; have A7 := aM A70; clear A70
   simp only [Option.some.injEq, Prod.mk.injEq] at H
   obtain ⟨rfl, rfl⟩ := H
   go_enter Try.func54, Try.ntmps54
   go_wp2_with (first | ((with_reducible refine gate_dst (N := 2) rfl ?_); refine box_event ?hg (N := 2) ?hd (cs := #[.int .i64 a0_0, .slice A0_1 l0_1.length c0_1]) (t := 60) ?hr ?_; (case hd => rfl); (case hg => rfl); (case hr => exact zc_); intro gb164 hg w8 hbox hb; have n_ := z (below_step za_ hb) <| z (hbox) <| z ((by rw [hg]; exact (below_size za_) : w.heap.size ≤ gb164)) <| z1 ((by rw [hg]; exact (below_size za_) : w.heap.size ≤ gb164)); clear HB; obtain ⟨HB, BK164, GW164, GE164⟩ := n_; clear hb hbox hg) | ((with_reducible refine gate_dst (N := 3) rfl ?_); refine box_event ?hg (N := 3) ?hd (cs := #[.int .i64 a1_0, .int .i64 a1_1]) (t := 72) ?hr ?_; (case hd => rfl); (case hg => rfl); (case hr => exact zc_); intro gb165 hg w9 hbox hb; have n_ := z (blk_below (zb BK164.out) hb) <| z (below_step zed_ hb) <| z (hbox) <| z ((by rw [hg]; exact (below_size zed_) : w.heap.size ≤ gb165)) <| z ((by rw [hg]; exact (below_size zed_) : w.heap.size ≤ gb165)) <| z ((by rw [hg]; exact Nat.ne_of_lt (blk_lt (zb BK164.out)) : gb164 ≠ gb165)) <| z1 ((by rw [hg]; exact Nat.ne_of_gt (blk_lt (zb BK164.out)) : gb165 ≠ gb164)); clear BK164 HB; obtain ⟨BK164, HB, BK165, GW165, GE165, NB164_165, NB165_164⟩ := n_; clear hb hbox hg; have hnb10 := NB164_165.out; have hnc10 := NB165_164.out; have hcz11_0 : w9.cell? ⟨gb164, 0, none⟩ = some (.int .i64 a0_0) := (blk_cell BK164.out 0).trans rfl; have hcz11_1 : w9.cell? ⟨gb164, 1, none⟩ = some (.slice A0_1 l0_1.length c0_1) := (blk_cell BK164.out 1).trans rfl; have hfz11_0 := blk_frozen BK164.out 0; have hfz11_1 := blk_frozen BK164.out 1) | ((with_reducible refine gate_callee (f := 127) rfl ?_); refine goesL_ (some 7) rfl rfl Try.func127 (by kernel_rfl) rfl #[.agg #[.int .i64 a0_0, .slice A0_1 l0_1.length c0_1]] rfl ze_ ?_; (with_reducible refine (impl_IsTable.calls k a0_0 _ _ l0_1 true _ ?side1 ?side2 A3.out).mono ?_); (case side1 => exact zi_); (case side2 => exact HC0_1.out); rintro e w12 ⟨rfl, hb⟩; refine ⟨_, rfl, ?_⟩; have n_ := z (blk_below (zb BK164.out) hb) <| z (blk_below (zb BK165.out) hb) <| z1 (below_step zee_ hb); clear BK164 BK165 HB; obtain ⟨BK164, BK165, HB⟩ := n_; clear hb; have hcz13_0 : w12.cell? ⟨gb164, 0, none⟩ = some (.int .i64 a0_0) := (blk_cell BK164.out 0).trans rfl; have hcz13_1 : w12.cell? ⟨gb164, 1, none⟩ = some (.slice A0_1 l0_1.length c0_1) := (blk_cell BK164.out 1).trans rfl; have hfz13_0 := blk_frozen BK164.out 0; have hfz13_1 := blk_frozen BK164.out 1; have hcz14_0 : w12.cell? ⟨gb165, 0, none⟩ = some (.int .i64 a1_0) := (blk_cell BK165.out 0).trans rfl; have hcz14_1 : w12.cell? ⟨gb165, 1, none⟩ = some (.int .i64 a1_1) := (blk_cell BK165.out 1).trans rfl; have hfz14_0 := blk_frozen BK165.out 0; have hfz14_1 := blk_frozen BK165.out 1) | (go_at_call 60; (with_reducible refine (impl_IsTerm.calls a0_0 a1_0 a1_1 true _ A5.out).mono ?_); rintro e w15 ⟨rfl, hb⟩; have n_ := z (blk_below (zb BK164.out) hb) <| z (blk_below (zb BK165.out) hb) <| z1 (below_step zee_ hb); clear BK164 BK165 HB; obtain ⟨BK164, BK165, HB⟩ := n_; clear hb; have hcz16_0 : w15.cell? ⟨gb164, 0, none⟩ = some (.int .i64 a0_0) := (blk_cell BK164.out 0).trans rfl; have hcz16_1 : w15.cell? ⟨gb164, 1, none⟩ = some (.slice A0_1 l0_1.length c0_1) := (blk_cell BK164.out 1).trans rfl; have hfz16_0 := blk_frozen BK164.out 0; have hfz16_1 := blk_frozen BK164.out 1; have hcz17_0 : w15.cell? ⟨gb165, 0, none⟩ = some (.int .i64 a1_0) := (blk_cell BK165.out 0).trans rfl; have hcz17_1 : w15.cell? ⟨gb165, 1, none⟩ = some (.int .i64 a1_1) := (blk_cell BK165.out 1).trans rfl; have hfz17_0 := blk_frozen BK165.out 0; have hfz17_1 := blk_frozen BK165.out 1) | ((with_reducible refine gate_callee (f := 140) rfl ?_); refine goesL_ (some 18) rfl rfl Try.func140 (by kernel_rfl) rfl #[.agg #[.int .i64 a0_0, .slice A0_1 l0_1.length c0_1], .agg #[.int .i64 a1_0, .int .i64 a1_1]] rfl ze_ ?_; (with_reducible refine (impl_implies.calls k a0_0 _ _ l0_1 a1_0 a1_1 t168 _ ?side1 ?side2 A7.out).mono ?_); (case side1 => exact zi_); (case side2 => exact HC0_1.out); rintro e w18 ⟨rfl, hb⟩; refine ⟨_, rfl, ?_⟩; have n_ := z (blk_below (zb BK164.out) hb) <| z (blk_below (zb BK165.out) hb) <| z1 (below_step zee_ hb); clear BK164 BK165 HB; obtain ⟨BK164, BK165, HB⟩ := n_; clear hb))
   go_ret2
   exact ⟨zf_, zee_⟩
  ·replace c6 := Bool.eq_false_iff.mpr c6
   subst c6; have H1 : (some (false, false)) = some (r1, r2) := by rw [if_neg (show ¬ (false = true) by decide)] at H; exact H
   clear H; have H := H1; clear H1
   simp only [Option.some.injEq, Prod.mk.injEq] at H
   obtain ⟨rfl, rfl⟩ := H
   go_enter Try.func54, Try.ntmps54
   go_wp2_with (first | ((with_reducible refine gate_dst (N := 2) rfl ?_); refine box_event ?hg (N := 2) ?hd (cs := #[.int .i64 a0_0, .slice A0_1 l0_1.length c0_1]) (t := 60) ?hr ?_; (case hd => rfl); (case hg => rfl); (case hr => exact zc_); intro gb164 hg w19 hbox hb; have n_ := z (below_step za_ hb) <| z (hbox) <| z ((by rw [hg]; exact (below_size za_) : w.heap.size ≤ gb164)) <| z1 ((by rw [hg]; exact (below_size za_) : w.heap.size ≤ gb164)); clear HB; obtain ⟨HB, BK164, GW164, GE164⟩ := n_; clear hb hbox hg) | ((with_reducible refine gate_dst (N := 3) rfl ?_); refine box_event ?hg (N := 3) ?hd (cs := #[.int .i64 a1_0, .int .i64 a1_1]) (t := 72) ?hr ?_; (case hd => rfl); (case hg => rfl); (case hr => exact zc_); intro gb165 hg w20 hbox hb; have n_ := z (blk_below (zb BK164.out) hb) <| z (below_step zed_ hb) <| z (hbox) <| z ((by rw [hg]; exact (below_size zed_) : w.heap.size ≤ gb165)) <| z ((by rw [hg]; exact (below_size zed_) : w.heap.size ≤ gb165)) <| z ((by rw [hg]; exact Nat.ne_of_lt (blk_lt (zb BK164.out)) : gb164 ≠ gb165)) <| z1 ((by rw [hg]; exact Nat.ne_of_gt (blk_lt (zb BK164.out)) : gb165 ≠ gb164)); clear BK164 HB; obtain ⟨BK164, HB, BK165, GW165, GE165, NB164_165, NB165_164⟩ := n_; clear hb hbox hg; have hnb21 := NB164_165.out; have hnc21 := NB165_164.out; have hcz22_0 : w20.cell? ⟨gb164, 0, none⟩ = some (.int .i64 a0_0) := (blk_cell BK164.out 0).trans rfl; have hcz22_1 : w20.cell? ⟨gb164, 1, none⟩ = some (.slice A0_1 l0_1.length c0_1) := (blk_cell BK164.out 1).trans rfl; have hfz22_0 := blk_frozen BK164.out 0; have hfz22_1 := blk_frozen BK164.out 1) | ((with_reducible refine gate_callee (f := 127) rfl ?_); refine goesL_ (some 7) rfl rfl Try.func127 (by kernel_rfl) rfl #[.agg #[.int .i64 a0_0, .slice A0_1 l0_1.length c0_1]] rfl ze_ ?_; (with_reducible refine (impl_IsTable.calls k a0_0 _ _ l0_1 true _ ?side1 ?side2 A3.out).mono ?_); (case side1 => exact zi_); (case side2 => exact HC0_1.out); rintro e w23 ⟨rfl, hb⟩; refine ⟨_, rfl, ?_⟩; have n_ := z (blk_below (zb BK164.out) hb) <| z (blk_below (zb BK165.out) hb) <| z1 (below_step zee_ hb); clear BK164 BK165 HB; obtain ⟨BK164, BK165, HB⟩ := n_; clear hb; have hcz24_0 : w23.cell? ⟨gb164, 0, none⟩ = some (.int .i64 a0_0) := (blk_cell BK164.out 0).trans rfl; have hcz24_1 : w23.cell? ⟨gb164, 1, none⟩ = some (.slice A0_1 l0_1.length c0_1) := (blk_cell BK164.out 1).trans rfl; have hfz24_0 := blk_frozen BK164.out 0; have hfz24_1 := blk_frozen BK164.out 1; have hcz25_0 : w23.cell? ⟨gb165, 0, none⟩ = some (.int .i64 a1_0) := (blk_cell BK165.out 0).trans rfl; have hcz25_1 : w23.cell? ⟨gb165, 1, none⟩ = some (.int .i64 a1_1) := (blk_cell BK165.out 1).trans rfl; have hfz25_0 := blk_frozen BK165.out 0; have hfz25_1 := blk_frozen BK165.out 1) | (go_at_call 60; (with_reducible refine (impl_IsTerm.calls a0_0 a1_0 a1_1 false _ A5.out).mono ?_); rintro e w26 ⟨rfl, hb⟩; have n_ := z (blk_below (zb BK164.out) hb) <| z (blk_below (zb BK165.out) hb) <| z1 (below_step zee_ hb); clear BK164 BK165 HB; obtain ⟨BK164, BK165, HB⟩ := n_; clear hb))
   go_ret2
   exact ⟨zf_, zee_⟩
 ·replace c4 := Bool.eq_false_iff.mpr c4
  subst c4; have H1 : (some (false, false)) = some (r1, r2) := by rw [if_neg (show ¬ (false = true) by decide)] at H; exact H
  clear H; have H := H1; clear H1
  simp only [Option.some.injEq, Prod.mk.injEq] at H
  obtain ⟨rfl, rfl⟩ := H
  go_enter Try.func54, Try.ntmps54
  go_wp2_with (first | ((with_reducible refine gate_dst (N := 2) rfl ?_); refine box_event ?hg (N := 2) ?hd (cs := #[.int .i64 a0_0, .slice A0_1 l0_1.length c0_1]) (t := 60) ?hr ?_; (case hd => rfl); (case hg => rfl); (case hr => exact zc_); intro gb164 hg w27 hbox hb; have n_ := z (below_step za_ hb) <| z (hbox) <| z ((by rw [hg]; exact (below_size za_) : w.heap.size ≤ gb164)) <| z1 ((by rw [hg]; exact (below_size za_) : w.heap.size ≤ gb164)); clear HB; obtain ⟨HB, BK164, GW164, GE164⟩ := n_; clear hb hbox hg) | ((with_reducible refine gate_dst (N := 3) rfl ?_); refine box_event ?hg (N := 3) ?hd (cs := #[.int .i64 a1_0, .int .i64 a1_1]) (t := 72) ?hr ?_; (case hd => rfl); (case hg => rfl); (case hr => exact zc_); intro gb165 hg w28 hbox hb; have n_ := z (blk_below (zb BK164.out) hb) <| z (below_step zed_ hb) <| z (hbox) <| z ((by rw [hg]; exact (below_size zed_) : w.heap.size ≤ gb165)) <| z ((by rw [hg]; exact (below_size zed_) : w.heap.size ≤ gb165)) <| z ((by rw [hg]; exact Nat.ne_of_lt (blk_lt (zb BK164.out)) : gb164 ≠ gb165)) <| z1 ((by rw [hg]; exact Nat.ne_of_gt (blk_lt (zb BK164.out)) : gb165 ≠ gb164)); clear BK164 HB; obtain ⟨BK164, HB, BK165, GW165, GE165, NB164_165, NB165_164⟩ := n_; clear hb hbox hg; have hnb29 := NB164_165.out; have hnc29 := NB165_164.out; have hcz30_0 : w28.cell? ⟨gb164, 0, none⟩ = some (.int .i64 a0_0) := (blk_cell BK164.out 0).trans rfl; have hcz30_1 : w28.cell? ⟨gb164, 1, none⟩ = some (.slice A0_1 l0_1.length c0_1) := (blk_cell BK164.out 1).trans rfl; have hfz30_0 := blk_frozen BK164.out 0; have hfz30_1 := blk_frozen BK164.out 1) | ((with_reducible refine gate_callee (f := 127) rfl ?_); refine goesL_ (some 7) rfl rfl Try.func127 (by kernel_rfl) rfl #[.agg #[.int .i64 a0_0, .slice A0_1 l0_1.length c0_1]] rfl ze_ ?_; (with_reducible refine (impl_IsTable.calls k a0_0 _ _ l0_1 false _ ?side1 ?side2 A3.out).mono ?_); (case side1 => exact zi_); (case side2 => exact HC0_1.out); rintro e w31 ⟨rfl, hb⟩; refine ⟨_, rfl, ?_⟩; have n_ := z (blk_below (zb BK164.out) hb) <| z (blk_below (zb BK165.out) hb) <| z1 (below_step zee_ hb); clear BK164 BK165 HB; obtain ⟨BK164, BK165, HB⟩ := n_; clear hb))
  go_ret2
  exact ⟨zf_, zee_⟩
def laws_qTerms.l0 : Nat → List (S72) → List (S72) → Int → Int → Option (Bool)
 | 0, _, _, _, _ => none
 | k + 1, x0, x1, x12, x13 => if x13 < x12 then (if 0 ≤ x13 then (if x13 < (x0.length : Int) then (if x13 < (x1.length : Int) then (if (!(((rd_T72 x0 x13).f0) == ((rd_T72 x1 x13).f0)) || (!(((rd_T72 x0 x13).f1) == ((rd_T72 x1 x13).f1)))) = true then (some false) else (laws_qTerms.l0 k x0 x1 x12 (wrap64 (x13 + 1)))) else (none)) else (none)) else (none)) else (some true)
def laws_qTerms.f (k : Nat) (l0 : List (S72)) (l1 : List (S72)) : Option (Bool) := if (l0.length : Int) = (l1.length : Int) then (laws_qTerms.l0 k l0 l1 (l0.length : Int) 0) else (some false)
theorem laws_qTerms.calls (k : Nat) (A0 : Option Addr) (c0 : Nat) (l0 : List (S72)) (A1 : Option Addr) (c1 : Nat) (l1 : List (S72)) (r : Bool) (w : World) (hr0 : Kd.C k72 w A0 l0.length l0) (hc0 : l0.length ≤ c0) (hr1 : Kd.C k72 w A1 l1.length l1) (hc1 : l1.length ≤ c1) (h : laws_qTerms.f k l0 l1 = some r) :
  Calls Try.prog 59 #[.slice A0 l0.length c0, .slice A1 l1.length c1] w fun e w' => e = .returned (.bool r) ∧ Drawn0 w w' := by
 have hu72 := Try.underlying72
 have HR0 := aM hr0
 have HC0 := aM hc0
 clear hr0 hc0
 have HR1 := aM hr1
 have HC1 := aM hc1
 clear hr1 hc1
 have H : (if (l0.length : Int) = (l1.length : Int) then (laws_qTerms.l0 k l0 l1 (l0.length : Int) 0) else (some false)) = some r := h
 clear h
 by_cases c3 : (l0.length : Int) = (l1.length : Int)
 ·rw [if_pos c3] at H
  have c3b0 := beq_iff_eq.mpr c3; have c3b1 := bne_eq_false_iff_eq.mpr c3; have c3b2 : (l0.length == l1.length) = true := by first | simpa using c3 | (simp at c3 ⊢; omega)
  clear c3; have H' := aM H; clear H
  go_enter Try.func59, Try.ntmps59
  go_wp2
  repeat (go_quiet (fail); try go_wp2)
  go_loopg [13] k (fun kq v13 w' => ∃ (x13_1 : Int), v13 = .int .i64 x13_1 ∧ Aside0 (laws_qTerms.l0 kq l0 l1 (l0.length : Int) x13_1 = some r) ∧ Aside0 (kq ≤ k) ∧ Drawn0 w w')
  case atStart => exact ⟨(0), zb_, H', ⟨Nat.le_refl _⟩, zj_⟩
  case round =>
   clear H'; (try clear c3b0); (try clear c3b1); (try clear c3b2); obtain ⟨x13_1, rfl, HA, HK1, ⟨m1, rfl⟩⟩ := hrel
   cases gk with
   | zero => exact absurd HA.out (by simp [laws_qTerms.l0])
   | succ k1 =>
    have H := HA.out; clear HA
    simp only [laws_qTerms.l0] at H
    by_cases c4 : x13_1 < (l0.length : Int)
    ·rw [if_pos c4] at H
     have c4b0 := decide_eq_true c4; clear c4
     by_cases c5 : 0 ≤ x13_1
     ·rw [if_pos c5] at H
      have c5b0 := decide_eq_true c5; clear c5
      by_cases c6 : x13_1 < (l0.length : Int)
      ·rw [if_pos c6] at H
       have c6b0 := decide_eq_true c6; clear c6
       by_cases c7 : x13_1 < (l1.length : Int)
       ·rw [if_pos c7] at H
        have c7b0 := decide_eq_true c7; clear c7
        by_cases c8 : (!(((rd_T72 l0 x13_1).f0) == ((rd_T72 l1 x13_1).f0)) || (!(((rd_T72 l0 x13_1).f1) == ((rd_T72 l1 x13_1).f1)))) = true
        ·rw [if_pos c8] at H
         have c8b0 : (!(((rd_T72 l0 x13_1).f0) == ((rd_T72 l1 x13_1).f0)) || (!(((rd_T72 l0 x13_1).f1) == ((rd_T72 l1 x13_1).f1)))) = true := c8; clear c8; obtain rfl := Option.some.inj H; have p169 : 0 ≤ (x13_1 : Int) := of_decide_eq_true zd_; have q169 : x13_1 < (l0.length : Int) := of_decide_eq_true zd_; obtain ⟨ad169, e169, hx169_0, hx169_1⟩ := at_T72 HR0.out x13_1 p169 q169
         cases e169
         replace p169 := eq_true p169; replace q169 := eq_true q169; have p170 : 0 ≤ (x13_1 : Int) := of_decide_eq_true zd_; have q170 : x13_1 < (l1.length : Int) := of_decide_eq_true zd_; obtain ⟨ad170, e170, hx170_0, hx170_1⟩ := at_T72 HR1.out x13_1 p170 q170
         cases e170
         replace p170 := eq_true p170; replace q170 := eq_true q170
         go_wp2
         repeat (go_quiet (fail); try go_wp2)
         go_ret
         exact ⟨zb_, zj_⟩
        ·rw [if_neg c8] at H
         have c8b0 : (!(((rd_T72 l0 x13_1).f0) == ((rd_T72 l1 x13_1).f0)) || (!(((rd_T72 l0 x13_1).f1) == ((rd_T72 l1 x13_1).f1)))) = false := by simpa using c8
         clear c8; have H' := aM H; clear H; have p169 : 0 ≤ (x13_1 : Int) := of_decide_eq_true zd_; have q169 : x13_1 < (l0.length : Int) := of_decide_eq_true zd_; obtain ⟨ad169, e169, hx169_0, hx169_1⟩ := at_T72 HR0.out x13_1 p169 q169
         cases e169
         replace p169 := eq_true p169; replace q169 := eq_true q169; have p170 : 0 ≤ (x13_1 : Int) := of_decide_eq_true zd_; have q170 : x13_1 < (l1.length : Int) := of_decide_eq_true zd_; obtain ⟨ad170, e170, hx170_0, hx170_1⟩ := at_T72 HR1.out x13_1 p170 q170
         cases e170
         replace p170 := eq_true p170; replace q170 := eq_true q170
         go_wp2
         repeat (go_quiet (fail); try go_wp2)
         go_roundg k1
         case measure => have := HK1.out; omega
         case rel => exact ⟨(wrap64 (x13_1 + 1)), zb_, H', ⟨zba_⟩, zj_⟩
       ·rw [if_neg c7] at H
        exact absurd H (by simp)
      ·rw [if_neg c6] at H
       exact absurd H (by simp)
     ·rw [if_neg c5] at H
      exact absurd H (by simp)
    ·rw [if_neg c4] at H
     have c4b0 := decide_eq_false c4; clear c4; obtain rfl := Option.some.inj H
     go_wp2
     repeat (go_quiet (fail); try go_wp2)
     go_ret
     exact ⟨zb_, zj_⟩
 ·rw [if_neg c3] at H
  have c3b0 := beq_eq_false_iff_ne.mpr c3; have c3b1 := bne_iff_ne.mpr c3; have c3b2 : (l0.length == l1.length) = false := by first | simpa using c3 | (simp at c3 ⊢; omega)
  obtain rfl := Option.some.inj H
  go_enter Try.func59, Try.ntmps59
  go_wp2
  repeat (go_quiet (fail); try go_wp2)
  go_ret
  exact ⟨zb_, zj_⟩
def IsS111 (w0 W : World) (g : Nat) (f0 : List Int) (f1 : Int) (f2 : Int) : Prop := ∃ A0 c0, W.heap[g]? = some (.cells #[.slice A0 f0.length c0, .int .i64 f1, .int .u64 f2] 111 (0, 0)) ∧ w0.heap.size ≤ g ∧ Kd.C (Kd.int .u8) w0 A0 f0.length f0
theorem IsS111.grown {w0 W : World} {g : Nat} {f0 : List Int} {f1 : Int} {f2 : Int} {W1 : World} {row : Option Nat} (h : IsS111 w0 W g f0 f1 f2) (hw : W.grownBy W1 row) (hne : some g ≠ row) : IsS111 w0 W1 g f0 f1 f2 := by
 obtain ⟨A0, c0, hb, hg, hr0⟩ := h
 exact ⟨A0, c0, blk_grown hb hw hne, hg, hr0⟩
theorem IsS111.own_neN {w0 W : World} {g : Nat} {f0 : List Int} {f1 : Int} {f2 : Int} {α : Type} {d : Kd α} {e : Nat} {base : Nat} {ok : Nat → Prop} {v : Value} {xs : List α} (h : IsS111 w0 W g f0 f1 f2) (ho : Kd.N d e W base ok v xs) (ht : e ≠ 111) : some g ≠ v.ownBlock := by
 obtain ⟨A0, c0, hb, hg, hr0⟩ := h
 exact Kd.N_ne ho hb ht
theorem IsS111.fresh {w0 W : World} {g : Nat} {f0 : List Int} {f1 : Int} {f2 : Int} (h : IsS111 w0 W g f0 f1 f2) : ∀ k, W.heap.size ≤ k → k ≠ g := by
 obtain ⟨A0, c0, hb, hg, hr0⟩ := h
 exact Kd.freshB hb
theorem IsS111.kept {w0 W : World} {g : Nat} {f0 : List Int} {f1 : Int} {f2 : Int} {W1 : World} {S : Nat → Prop} (h : IsS111 w0 W g f0 f1 f2) (hk : Kept W W1 S) (hne : ¬ S g) : IsS111 w0 W1 g f0 f1 f2 := by
 obtain ⟨A0, c0, hb, hg, hr0⟩ := h
 exact ⟨A0, c0, blk_kept hb hk hne, hg, hr0⟩
theorem IsS111.below {w0 W : World} {g : Nat} {f0 : List Int} {f1 : Int} {f2 : Int} {W1 : World} (h : IsS111 w0 W g f0 f1 f2) (hw : Below W.heap.size W W1) : IsS111 w0 W1 g f0 f1 f2 := h.grown (grown_of_below hw none) (by simp)
theorem IsS111.alloc {w0 W : World} {g : Nat} {f0 : List Int} {f1 : Int} {f2 : Int} (h : IsS111 w0 W g f0 f1 f2) (o : Obj) : IsS111 w0 (W.alloc o) g f0 f1 f2 := h.below (pA (Below.refl _ _) o)
theorem IsS111.drewN {w0 W : World} {g : Nat} {f0 : List Int} {f1 : Int} {f2 : Int} (h : IsS111 w0 W g f0 f1 f2) (m : Nat) : IsS111 w0 (W.drewN m) g f0 f1 f2 := h
theorem IsS111.drew {w0 W : World} {g : Nat} {f0 : List Int} {f1 : Int} {f2 : Int} (h : IsS111 w0 W g f0 f1 f2) : IsS111 w0 W.drew g f0 f1 f2 := h
theorem IsS111.at_ {w0 W : World} {g : Nat} {f0 : List Int} {f1 : Int} {f2 : Int} {w' : World} {m : Nat} (hq : W.drewN m = w') (h : IsS111 w0 W g f0 f1 f2) : IsS111 w0 w' g f0 f1 f2 := by subst hq; exact IsS111.drewN h m
theorem IsS111.apart {w0 W : World} {g : Nat} {f0 : List Int} {f1 : Int} {f2 : Int} {α : Type} {d : Kd α} {e : Nat} {base : Nat} {ok : Nat → Prop} {v : Value} {xs : List α} (h : IsS111 w0 W g f0 f1 f2) (ho : d.R e W base ok v xs) (ht : ∀ q, q ∈ e :: d.E → q ≠ 111) : d.R e W base (fun k => ok k ∧ k ≠ g) v xs := by
 obtain ⟨A0, c0, hb, hg, hr0⟩ := h
 exact Kd.R_types ho hb ht
theorem IsS111.own_ne {w0 W : World} {g : Nat} {f0 : List Int} {f1 : Int} {f2 : Int} {α : Type} {d : Kd α} {e : Nat} {base : Nat} {ok : Nat → Prop} {v : Value} {xs : List α} (h : IsS111 w0 W g f0 f1 f2) (ho : d.R e W base ok v xs) (ht : e ≠ 111) : some g ≠ v.ownBlock := by
 obtain ⟨A0, c0, hb, hg, hr0⟩ := h
 exact Kd.R_ne ho hb ht
theorem IsS111.apartQ {w0 W : World} {g : Nat} {f0 : List Int} {f1 : Int} {f2 : Int} {α : Type} {d : Kd α} {e : Nat} {base : Nat} {ok : Nat → Prop} {v : Value} {xs : List α} (h : IsS111 w0 W g f0 f1 f2) (ho : d.Q e W base ok v xs) (ht : ∀ q, q ∈ e :: d.E → q ≠ 111) : d.Q e W base (fun k => ok k ∧ k ≠ g) v xs := by
 obtain ⟨A0, c0, hb, hg, hr0⟩ := h
 exact Kd.Q_types ho hb ht
theorem IsS111.own_neQ {w0 W : World} {g : Nat} {f0 : List Int} {f1 : Int} {f2 : Int} {α : Type} {d : Kd α} {e : Nat} {base : Nat} {ok : Nat → Prop} {v : Value} {xs : List α} (h : IsS111 w0 W g f0 f1 f2) (ho : d.Q e W base ok v xs) (ht : e ≠ 111) : some g ≠ v.ownBlock := by
 obtain ⟨A0, c0, hb, hg, hr0⟩ := h
 exact Kd.Q_ne ho hb ht
theorem IsS111.apartS {w0 W : World} {g : Nat} {f0 : List Int} {f1 : Int} {f2 : Int} {α : Type} {d : Kd α} {e : Nat} {base : Nat} {ok : Nat → Prop} {v : Value} {xs : List α} (h : IsS111 w0 W g f0 f1 f2) (ho : d.S e W base ok v xs) (ht : ∀ q, q ∈ e :: d.E → q ≠ 111) : d.S e W base (fun k => ok k ∧ k ≠ g) v xs := by
 obtain ⟨A0, c0, hb, hg, hr0⟩ := h
 exact Kd.S_types ho hb ht
theorem IsS111.own_neS {w0 W : World} {g : Nat} {f0 : List Int} {f1 : Int} {f2 : Int} {α : Type} {d : Kd α} {e : Nat} {base : Nat} {ok : Nat → Prop} {v : Value} {xs : List α} (h : IsS111 w0 W g f0 f1 f2) (ho : d.S e W base ok v xs) (ht : e ≠ 111) : some g ≠ v.ownBlock := by
 obtain ⟨A0, c0, hb, hg, hr0⟩ := h
 exact Kd.S_ne ho hb ht
theorem IsS111.lt {w0 W : World} {g : Nat} {f0 : List Int} {f1 : Int} {f2 : Int} (h : IsS111 w0 W g f0 f1 f2) : g < W.heap.size := by
 obtain ⟨A0, c0, hb, hg, hr0⟩ := h
 exact blk_lt hb
theorem IsS111.ge {w0 W : World} {g : Nat} {f0 : List Int} {f1 : Int} {f2 : Int} (h : IsS111 w0 W g f0 f1 f2) : w0.heap.size ≤ g := by
 obtain ⟨A0, c0, hb, hg, hr0⟩ := h
 exact hg
theorem IsS111.ne_blk {w0 W : World} {g : Nat} {f0 : List Int} {f1 : Int} {f2 : Int} {a : Nat} {cs : Array Value} {t : TypeId} {fr : Nat × Nat} (h : IsS111 w0 W g f0 f1 f2) (hb2 : W.heap[a]? = some (.cells cs t fr)) (ht : t ≠ 111) : g ≠ a := by
 obtain ⟨A0, c0, hb, hg, hr0⟩ := h
 rintro rfl
 rw [hb] at hb2
 injection hb2 with hb2
 injection hb2 with _ ht2
 exact ht ht2.symm
theorem IsS111.far {w0 W : World} {g : Nat} {f0 : List Int} {f1 : Int} {f2 : Int} {p : Addr} (h : IsS111 w0 W g f0 f1 f2) (hne : g ≠ p.block) (u : Value) : IsS111 w0 (W.setCell p u) g f0 f1 f2 := by
 obtain ⟨A0, c0, hb, hg, hr0⟩ := h
 exact ⟨A0, c0, blk_far hb hne u, hg, hr0⟩
theorem cellS111_0 {W : World} {g : Nat} {A0 : Option Addr} {c0 : Nat} {f0 : List Int} {f1 : Int} {f2 : Int} (h : W.heap[g]? = some (.cells #[.slice A0 f0.length c0, .int .i64 f1, .int .u64 f2] 111 (0, 0))) : W.cell? ⟨g, 0, none⟩ = some (.slice A0 f0.length c0) := (blk_cell h 0).trans rfl
theorem cellS111_1 {W : World} {g : Nat} {A0 : Option Addr} {c0 : Nat} {f0 : List Int} {f1 : Int} {f2 : Int} (h : W.heap[g]? = some (.cells #[.slice A0 f0.length c0, .int .i64 f1, .int .u64 f2] 111 (0, 0))) : W.cell? ⟨g, 1, none⟩ = some (.int .i64 f1) := (blk_cell h 1).trans rfl
theorem IsS111.set_1 {w0 W : World} {g : Nat} {f0 : List Int} {f1 : Int} {f2 : Int} (h : IsS111 w0 W g f0 f1 f2) (x : Int) : IsS111 w0 (W.setCell ⟨g, 1, none⟩ (.int .i64 x)) g f0 x f2 := by
 obtain ⟨A0, c0, hb, hg, hr0⟩ := h
 exact ⟨A0, c0, by simpa using blk_set hb 1 (.int .i64 x), hg, hr0⟩
theorem cellS111_2 {W : World} {g : Nat} {A0 : Option Addr} {c0 : Nat} {f0 : List Int} {f1 : Int} {f2 : Int} (h : W.heap[g]? = some (.cells #[.slice A0 f0.length c0, .int .i64 f1, .int .u64 f2] 111 (0, 0))) : W.cell? ⟨g, 2, none⟩ = some (.int .u64 f2) := (blk_cell h 2).trans rfl
theorem IsS111.set_2 {w0 W : World} {g : Nat} {f0 : List Int} {f1 : Int} {f2 : Int} (h : IsS111 w0 W g f0 f1 f2) (x : Int) : IsS111 w0 (W.setCell ⟨g, 2, none⟩ (.int .u64 x)) g f0 f1 x := by
 obtain ⟨A0, c0, hb, hg, hr0⟩ := h
 exact ⟨A0, c0, by simpa using blk_set hb 2 (.int .u64 x), hg, hr0⟩
theorem IsS111.new (w0 W : World) (A0 : Option Addr) (c0 : Nat) (f0 : List Int) (f1 : Int) (f2 : Int) (hB : Below w0.heap.size w0 W) (hr0 : Kd.C (Kd.int .u8) w0 A0 f0.length f0) : IsS111 w0 (W.alloc (.cells #[.slice A0 f0.length c0, .int .i64 f1, .int .u64 f2] 111)) W.heap.size f0 f1 f2 := ⟨A0, c0, by simpa using heap_alloc_new W _, hB.size, hr0⟩
def spec_l1Cur_next.f (s0_0 : List Int) (s0_1 : Int) (s0_2 : Int) : Option (Int × Int × Int) := if s0_1 < (s0_0.length : Int) then (if 0 ≤ s0_1 then (if (wrap64 (s0_1 + 1)) ≤ (s0_0.length : Int) then (some (wrap64 (rd s0_0 s0_1), wrap64 (s0_1 + 1), IntKind.u64.wrap ((IntKind.u64.wrap ((IntKind.u64.wrap (s0_2 * 6364136223846793005)) + (IntKind.u64.wrap (wrap64 (rd s0_0 s0_1))))) + 1442695040888963407))) else (some (wrap64 (Go.bits .and .u64 ((IntKind.u64.wrap ((IntKind.u64.wrap ((IntKind.u64.wrap (s0_2 * 6364136223846793005)) + (IntKind.u64.wrap (wrap64 (rd s0_0 s0_1))))) + 1442695040888963407)) / 1099511627776) 255), wrap64 (s0_1 + 1), IntKind.u64.wrap ((IntKind.u64.wrap ((IntKind.u64.wrap (s0_2 * 6364136223846793005)) + (IntKind.u64.wrap (wrap64 (rd s0_0 s0_1))))) + 1442695040888963407)))) else (none)) else (if (wrap64 (s0_1 + 1)) ≤ (s0_0.length : Int) then (some (0, wrap64 (s0_1 + 1), IntKind.u64.wrap ((IntKind.u64.wrap (IntKind.u64.wrap (s0_2 * 6364136223846793005))) + 1442695040888963407))) else (some (wrap64 (Go.bits .and .u64 ((IntKind.u64.wrap ((IntKind.u64.wrap (IntKind.u64.wrap (s0_2 * 6364136223846793005))) + 1442695040888963407)) / 1099511627776) 255), wrap64 (s0_1 + 1), IntKind.u64.wrap ((IntKind.u64.wrap (IntKind.u64.wrap (s0_2 * 6364136223846793005))) + 1442695040888963407))))
theorem spec_l1Cur_next.calls (g : Nat) (s0_0 : List Int) (s0_1 : Int) (s0_2 : Int) (r1 : Int) (r2 : Int) (r3 : Int) (w0 w : World) (hI : IsS111 w0 w g s0_0 s0_1 s0_2) (hB : Below w0.heap.size w0 w) (h : spec_l1Cur_next.f s0_0 s0_1 s0_2 = some (r1, r2, r3)) :
  Calls Try.prog 174 #[.pointer (some ⟨g, 0, none⟩)] w fun e w' => e = .returned (.int .i64 r1) ∧ IsS111 w0 w' g s0_0 r2 r3 ∧ Below w0.heap.size w0 w' ∧ KeepBut w w' g none := by
 have HI0 := aM hI
 have HK := aM (KeepBut.refl w g none)
 have HL := aM hB.size
 clear hI
 have HW0 := aM hB.size
 have HB := aM hB
 clear hB
 have H : (if s0_1 < (s0_0.length : Int) then (if 0 ≤ s0_1 then (if (wrap64 (s0_1 + 1)) ≤ (s0_0.length : Int) then (some (wrap64 (rd s0_0 s0_1), wrap64 (s0_1 + 1), IntKind.u64.wrap ((IntKind.u64.wrap ((IntKind.u64.wrap (s0_2 * 6364136223846793005)) + (IntKind.u64.wrap (wrap64 (rd s0_0 s0_1))))) + 1442695040888963407))) else (some (wrap64 (Go.bits .and .u64 ((IntKind.u64.wrap ((IntKind.u64.wrap ((IntKind.u64.wrap (s0_2 * 6364136223846793005)) + (IntKind.u64.wrap (wrap64 (rd s0_0 s0_1))))) + 1442695040888963407)) / 1099511627776) 255), wrap64 (s0_1 + 1), IntKind.u64.wrap ((IntKind.u64.wrap ((IntKind.u64.wrap (s0_2 * 6364136223846793005)) + (IntKind.u64.wrap (wrap64 (rd s0_0 s0_1))))) + 1442695040888963407)))) else (none)) else (if (wrap64 (s0_1 + 1)) ≤ (s0_0.length : Int) then (some (0, wrap64 (s0_1 + 1), IntKind.u64.wrap ((IntKind.u64.wrap (IntKind.u64.wrap (s0_2 * 6364136223846793005))) + 1442695040888963407))) else (some (wrap64 (Go.bits .and .u64 ((IntKind.u64.wrap ((IntKind.u64.wrap (IntKind.u64.wrap (s0_2 * 6364136223846793005))) + 1442695040888963407)) / 1099511627776) 255), wrap64 (s0_1 + 1), IntKind.u64.wrap ((IntKind.u64.wrap (IntKind.u64.wrap (s0_2 * 6364136223846793005))) + 1442695040888963407))))) = some (r1, r2, r3) := h
 clear h
 by_cases c2 : s0_1 < (s0_0.length : Int)
 ·rw [if_pos c2] at H
  have c2b0 := decide_eq_true c2; clear c2
  by_cases c3 : 0 ≤ s0_1
  ·rw [if_pos c3] at H
   have c3b0 := decide_eq_true c3; clear c3
   by_cases c4 : (wrap64 (s0_1 + 1)) ≤ (s0_0.length : Int)
   ·rw [if_pos c4] at H
    have c4b0 := decide_eq_true c4; clear c4
    simp only [Option.some.injEq, Prod.mk.injEq] at H
    obtain ⟨rfl, rfl, rfl⟩ := H; obtain ⟨ASz5_0, cSz5_0, HGz5, hgz5, HSz5_0⟩ := HI0.out; have hcz5_0 := cellS111_0 HGz5; have hcz5_1 := cellS111_1 HGz5; have hcz5_2 := cellS111_2 HGz5; have hfz5_1 := blk_frozen HGz5 1; have hfz5_2 := blk_frozen HGz5 2; clear HGz5 hgz5; have p171 : 0 ≤ (s0_1 : Int) := of_decide_eq_true zd_; have q171 : s0_1 < (s0_0.length : Int) := of_decide_eq_true zd_; obtain ⟨ad171, e171, hx171_0⟩ := Kd.at_int HSz5_0 s0_1 p171 q171
    cases e171
    replace hx171_0 := pw_cell_below HB.out hx171_0; replace p171 := eq_true p171; replace q171 := eq_true q171
    go_enter Try.func174, Try.ntmps174
    go_wp2
    repeat (go_quiet (fail); try go_wp2)
    go_ret
    exact ⟨zf_, zg_, zbc_, zh_⟩
   ·rw [if_neg c4] at H
    have c4b0 := decide_eq_false c4; clear c4
    simp only [Option.some.injEq, Prod.mk.injEq] at H
    obtain ⟨rfl, rfl, rfl⟩ := H; obtain ⟨ASz6_0, cSz6_0, HGz6, hgz6, HSz6_0⟩ := HI0.out; have hcz6_0 := cellS111_0 HGz6; have hcz6_1 := cellS111_1 HGz6; have hcz6_2 := cellS111_2 HGz6; have hfz6_1 := blk_frozen HGz6 1; have hfz6_2 := blk_frozen HGz6 2; clear HGz6 hgz6; have p171 : 0 ≤ (s0_1 : Int) := of_decide_eq_true zd_; have q171 : s0_1 < (s0_0.length : Int) := of_decide_eq_true zd_; obtain ⟨ad171, e171, hx171_0⟩ := Kd.at_int HSz6_0 s0_1 p171 q171
    cases e171
    replace hx171_0 := pw_cell_below HB.out hx171_0; replace p171 := eq_true p171; replace q171 := eq_true q171
    go_enter Try.func174, Try.ntmps174
    go_wp2
    repeat (go_quiet (fail); try go_wp2)
    go_ret
    exact ⟨zf_, zg_, zbc_, zh_⟩
  ·rw [if_neg c3] at H
   exact absurd H (by simp)
 ·rw [if_neg c2] at H
  have c2b0 := decide_eq_false c2; clear c2
  by_cases c7 : (wrap64 (s0_1 + 1)) ≤ (s0_0.length : Int)
  ·rw [if_pos c7] at H
   have c7b0 := decide_eq_true c7; clear c7
   simp only [Option.some.injEq, Prod.mk.injEq] at H
   obtain ⟨rfl, rfl, rfl⟩ := H; obtain ⟨ASz8_0, cSz8_0, HGz8, hgz8, HSz8_0⟩ := HI0.out; have hcz8_0 := cellS111_0 HGz8; have hcz8_1 := cellS111_1 HGz8; have hcz8_2 := cellS111_2 HGz8; have hfz8_1 := blk_frozen HGz8 1; have hfz8_2 := blk_frozen HGz8 2; clear HGz8 hgz8
   go_enter Try.func174, Try.ntmps174
   go_wp2
   repeat (go_quiet (fail); try go_wp2)
   go_ret
   exact ⟨zf_, zg_, zbc_, zh_⟩
  ·rw [if_neg c7] at H
   have c7b0 := decide_eq_false c7; clear c7
   simp only [Option.some.injEq, Prod.mk.injEq] at H
   obtain ⟨rfl, rfl, rfl⟩ := H; obtain ⟨ASz9_0, cSz9_0, HGz9, hgz9, HSz9_0⟩ := HI0.out; have hcz9_0 := cellS111_0 HGz9; have hcz9_1 := cellS111_1 HGz9; have hcz9_2 := cellS111_2 HGz9; have hfz9_1 := blk_frozen HGz9 1; have hfz9_2 := blk_frozen HGz9 2; clear HGz9 hgz9
   go_enter Try.func174, Try.ntmps174
   go_wp2
   repeat (go_quiet (fail); try go_wp2)
   go_ret
   exact ⟨zf_, zg_, zbc_, zh_⟩
def spec_l1Cur_pick.f (s0_0 : List Int) (s0_1 : Int) (s0_2 : Int) (a1 : Int) : Option (Int × Int × Int) := if a1 ≤ 1 then (some (0, s0_1, s0_2)) else ((spec_l1Cur_next.f s0_0 s0_1 s0_2).bind fun bt172 => (if a1 > 200 then ((spec_l1Cur_next.f s0_0 bt172.2.1 bt172.2.2).bind fun bt175 => (if a1 = 0 then (none) else (some (Int.tmod (wrap64 ((wrap64 (bt172.1 * 256)) + bt175.1)) a1, bt175.2.1, bt175.2.2)))) else (if a1 = 0 then (none) else (some (Int.tmod bt172.1 a1, bt172.2.1, bt172.2.2)))))
theorem spec_l1Cur_pick.calls (g : Nat) (s0_0 : List Int) (s0_1 : Int) (s0_2 : Int) (a1 : Int) (r1 : Int) (r2 : Int) (r3 : Int) (w0 w : World) (hI : IsS111 w0 w g s0_0 s0_1 s0_2) (hB : Below w0.heap.size w0 w) (h : spec_l1Cur_pick.f s0_0 s0_1 s0_2 a1 = some (r1, r2, r3)) :
  Calls Try.prog 109 #[.pointer (some ⟨g, 0, none⟩), .int .i64 a1] w fun e w' => e = .returned (.int .i64 r1) ∧ IsS111 w0 w' g s0_0 r2 r3 ∧ Below w0.heap.size w0 w' ∧ KeepBut w w' g none := by
 have HI0 := aM hI
 have HK := aM (KeepBut.refl w g none)
 have HL := aM hB.size
 clear hI
 have HW0 := aM hB.size
 have HB := aM hB
 clear hB
 have H : (if a1 ≤ 1 then (some (0, s0_1, s0_2)) else ((spec_l1Cur_next.f s0_0 s0_1 s0_2).bind fun bt172 => (if a1 > 200 then ((spec_l1Cur_next.f s0_0 bt172.2.1 bt172.2.2).bind fun bt175 => (if a1 = 0 then (none) else (some (Int.tmod (wrap64 ((wrap64 (bt172.1 * 256)) + bt175.1)) a1, bt175.2.1, bt175.2.2)))) else (if a1 = 0 then (none) else (some (Int.tmod bt172.1 a1, bt172.2.1, bt172.2.2)))))) = some (r1, r2, r3) := h
 clear h
 by_cases c3 : a1 ≤ 1
 ·rw [if_pos c3] at H
  have c3b0 := decide_eq_true c3; clear c3
  simp only [Option.some.injEq, Prod.mk.injEq] at H
  obtain ⟨rfl, rfl, rfl⟩ := H
  go_enter Try.func109, Try.ntmps109
  go_wp2
  go_ret
  exact ⟨zf_, zg_, zbc_, zh_⟩
 ·rw [if_neg c3] at H
  have c3b0 := decide_eq_false c3; clear c3; replace H := oB.mp H; obtain ⟨⟨t172, t173, t174⟩, A40, H⟩ := H; replace H : (if a1 > 200 then ((spec_l1Cur_next.f s0_0 t173 t174).bind fun bt175 => (if a1 = 0 then (none) else (some (Int.tmod (wrap64 ((wrap64 (t172 * 256)) + bt175.1)) a1, bt175.2.1, bt175.2.2)))) else (if a1 = 0 then (none) else (some (Int.tmod t172 a1, t173, t174)))) = some (r1, r2, r3) := H; have A4 := aM A40; clear A40
  by_cases c5 : a1 > 200
  ·rw [if_pos c5] at H
   have c5b0 : decide (200 < a1) = true := decide_eq_true c5; clear c5; replace H := oB.mp H; obtain ⟨⟨t175, t176, t177⟩, A60, H⟩ := H; replace H : (if a1 = 0 then (none) else (some (Int.tmod (wrap64 ((wrap64 (t172 * 256)) + t175)) a1, t176, t177))) = some (r1, r2, r3) := H; have A6 := aM A60; clear A60
   by_cases c7 : a1 = 0
   ·rw [if_pos c7] at H
    exact absurd H (by simp)
   ·rw [if_neg c7] at H
    have c7b0 := beq_eq_false_iff_ne.mpr c7; have c7b1 := bne_iff_ne.mpr c7
    simp only [Option.some.injEq, Prod.mk.injEq] at H
    obtain ⟨rfl, rfl, rfl⟩ := H
    go_enter Try.func109, Try.ntmps109
    go_wp2_with (first | ((with_reducible refine gate_callee (f := 174) rfl ?_); refine goesL_ (some 9) rfl rfl Try.func174 (by kernel_rfl) rfl #[.pointer (some ⟨g, 0, none⟩)] rfl ze_ ?_; (with_reducible refine (spec_l1Cur_next.calls g s0_0 s0_1 s0_2 t172 t173 t174 w0 _ ?side1 ?side2 A4.out).mono ?_); (case side1 => exact zg_); (case side2 => exact zbc_); rintro e w8 ⟨rfl, hi, hb, hk⟩; refine ⟨_, rfl, ?_⟩; have n_ := z (KeepBut.trans zh_ hk (.inl rfl)) <| z (hb) <| z1 (hi); clear HK HB HI0; obtain ⟨HK, HB, HI0⟩ := n_; clear hb hk hi) | ((with_reducible refine gate_callee (f := 174) rfl ?_); refine goesL_ (some 15) rfl rfl Try.func174 (by kernel_rfl) rfl #[.pointer (some ⟨g, 0, none⟩)] rfl ze_ ?_; (with_reducible refine (spec_l1Cur_next.calls g s0_0 t173 t174 t175 t176 t177 w0 _ ?side1 ?side2 A6.out).mono ?_); (case side1 => exact zg_); (case side2 => exact zbc_); rintro e w9 ⟨rfl, hi, hb, hk⟩; refine ⟨_, rfl, ?_⟩; have n_ := z (KeepBut.trans zh_ hk (.inl rfl)) <| z (hb) <| z1 (hi); clear HK HB HI0; obtain ⟨HK, HB, HI0⟩ := n_; clear hb hk hi))
    go_ret
    exact ⟨zf_, zg_, zbc_, zh_⟩
  ·rw [if_neg c5] at H
   have c5b0 : decide (200 < a1) = false := decide_eq_false c5; clear c5
   by_cases c10 : a1 = 0
   ·rw [if_pos c10] at H
    exact absurd H (by simp)
   ·rw [if_neg c10] at H
    have c10b0 := beq_eq_false_iff_ne.mpr c10; have c10b1 := bne_iff_ne.mpr c10
    simp only [Option.some.injEq, Prod.mk.injEq] at H
    obtain ⟨rfl, rfl, rfl⟩ := H
    go_enter Try.func109, Try.ntmps109
    go_wp2_with (first | ((with_reducible refine gate_callee (f := 174) rfl ?_); refine goesL_ (some 9) rfl rfl Try.func174 (by kernel_rfl) rfl #[.pointer (some ⟨g, 0, none⟩)] rfl ze_ ?_; (with_reducible refine (spec_l1Cur_next.calls g s0_0 s0_1 s0_2 t172 t173 t174 w0 _ ?side1 ?side2 A4.out).mono ?_); (case side1 => exact zg_); (case side2 => exact zbc_); rintro e w11 ⟨rfl, hi, hb, hk⟩; refine ⟨_, rfl, ?_⟩; have n_ := z (KeepBut.trans zh_ hk (.inl rfl)) <| z (hb) <| z1 (hi); clear HK HB HI0; obtain ⟨HK, HB, HI0⟩ := n_; clear hb hk hi))
    go_ret
    exact ⟨zf_, zg_, zbc_, zh_⟩
def spec_l1Cur_among.f (s0_0 : List Int) (s0_1 : Int) (s0_2 : Int) (l1 : List Int) : Option (Int × Int × Int) := (spec_l1Cur_pick.f s0_0 s0_1 s0_2 (l1.length : Int)).bind fun bt178 => (if 0 ≤ bt178.1 then (if bt178.1 < (l1.length : Int) then (some (rd l1 bt178.1, bt178.2.1, bt178.2.2)) else (none)) else (none))
theorem spec_l1Cur_among.calls (g : Nat) (s0_0 : List Int) (s0_1 : Int) (s0_2 : Int) (A1 : Option Addr) (c1 : Nat) (l1 : List Int) (r1 : Int) (r2 : Int) (r3 : Int) (w0 w : World) (hI : IsS111 w0 w g s0_0 s0_1 s0_2) (hB : Below w0.heap.size w0 w) (hr1 : Kd.C (Kd.int .i64) w A1 l1.length l1) (hc1 : l1.length ≤ c1) (hf1 : ∀ ad, A1 = some ad → 0 < l1.length → ad.block ≠ g) (h : spec_l1Cur_among.f s0_0 s0_1 s0_2 l1 = some (r1, r2, r3)) :
  Calls Try.prog 110 #[.pointer (some ⟨g, 0, none⟩), .slice A1 l1.length c1] w fun e w' => e = .returned (.int .i64 r1) ∧ IsS111 w0 w' g s0_0 r2 r3 ∧ Below w0.heap.size w0 w' ∧ KeepBut w w' g none := by
 have HR1 := aM hr1
 have HC1 := aM hc1
 clear hr1 hc1
 have HI0 := aM hI
 have HK := aM (KeepBut.refl w g none)
 have HL := aM hB.size
 clear hI
 have HW0 := aM hB.size
 have HB := aM hB
 clear hB
 have H : ((spec_l1Cur_pick.f s0_0 s0_1 s0_2 (l1.length : Int)).bind fun bt178 => (if 0 ≤ bt178.1 then (if bt178.1 < (l1.length : Int) then (some (rd l1 bt178.1, bt178.2.1, bt178.2.2)) else (none)) else (none))) = some (r1, r2, r3) := h
 clear h
 replace H := oB.mp H
 obtain ⟨⟨t178, t179, t180⟩, A30, H⟩ := H
 replace H : (if 0 ≤ t178 then (if t178 < (l1.length : Int) then (some (rd l1 t178, t179, t180)) else (none)) else (none)) = some (r1, r2, r3) := H
 have A3 := aM A30
 clear A30
 by_cases c4 : 0 ≤ t178
 ·rw [if_pos c4] at H
  have c4b0 := decide_eq_true c4; clear c4
  by_cases c5 : t178 < (l1.length : Int)
  ·rw [if_pos c5] at H
   have c5b0 := decide_eq_true c5; clear c5
   simp only [Option.some.injEq, Prod.mk.injEq] at H
   obtain ⟨rfl, rfl, rfl⟩ := H
   go_enter Try.func110, Try.ntmps110
   go_wp2_with (first | ((with_reducible refine gate_callee (f := 109) rfl ?_); refine goesL_ (some 9) rfl rfl Try.func109 (by kernel_rfl) rfl #[.pointer (some ⟨g, 0, none⟩), .int .i64 (l1.length : Int)] rfl ze_ ?_; (with_reducible refine (spec_l1Cur_pick.calls g s0_0 s0_1 s0_2 (l1.length : Int) t178 t179 t180 w0 _ ?side1 ?side2 A3.out).mono ?_); (case side1 => exact zg_); (case side2 => exact zbc_); rintro e w6 ⟨rfl, hi, hb, hk⟩; refine ⟨_, rfl, ?_⟩; have n_ := z (KeepBut.trans zh_ hk (.inl rfl)) <| z (hb) <| z1 (hi); clear HK HB HI0; obtain ⟨HK, HB, HI0⟩ := n_; clear hb hk hi; have p181 : 0 ≤ (t178 : Int) := of_decide_eq_true zd_; have q181 : t178 < (l1.length : Int) := of_decide_eq_true zd_; obtain ⟨ad181, e181, hx181_0⟩ := Kd.at_int HR1.out t178 p181 q181; cases e181; replace hx181_0 := keep_cell HK.out hx181_0 (by first | (rw [add_block]; exact hf1 _ rfl (by omega)) | exact hf1 _ rfl (by omega) | exact hf1 ad181 rfl (by omega)); replace p181 := eq_true p181; replace q181 := eq_true q181))
   go_ret
   exact ⟨zf_, zg_, zbc_, zh_⟩
  ·rw [if_neg c5] at H
   exact absurd H (by simp)
 ·rw [if_neg c4] at H
  exact absurd H (by simp)
def spec_l1Cur_one.f (s0_0 : List Int) (s0_1 : Int) (s0_2 : Int) (a1 : Int) : Option (Bool × Int × Int) := (spec_l1Cur_pick.f s0_0 s0_1 s0_2 a1).bind fun bt182 => (some ((bt182.1 == 0), bt182.2.1, bt182.2.2))
theorem spec_l1Cur_one.calls (g : Nat) (s0_0 : List Int) (s0_1 : Int) (s0_2 : Int) (a1 : Int) (r1 : Bool) (r2 : Int) (r3 : Int) (w0 w : World) (hI : IsS111 w0 w g s0_0 s0_1 s0_2) (hB : Below w0.heap.size w0 w) (h : spec_l1Cur_one.f s0_0 s0_1 s0_2 a1 = some (r1, r2, r3)) :
  Calls Try.prog 139 #[.pointer (some ⟨g, 0, none⟩), .int .i64 a1] w fun e w' => e = .returned (.bool r1) ∧ IsS111 w0 w' g s0_0 r2 r3 ∧ Below w0.heap.size w0 w' ∧ KeepBut w w' g none := by
 have HI0 := aM hI
 have HK := aM (KeepBut.refl w g none)
 have HL := aM hB.size
 clear hI
 have HW0 := aM hB.size
 have HB := aM hB
 clear hB
 have H : ((spec_l1Cur_pick.f s0_0 s0_1 s0_2 a1).bind fun bt182 => (some ((bt182.1 == 0), bt182.2.1, bt182.2.2))) = some (r1, r2, r3) := h
 clear h
 replace H := oB.mp H
 obtain ⟨⟨t182, t183, t184⟩, A30, H⟩ := H
 replace H : (some ((t182 == 0), t183, t184)) = some (r1, r2, r3) := H
 have A3 := aM A30
 clear A30
 simp only [Option.some.injEq, Prod.mk.injEq] at H
 obtain ⟨rfl, rfl, rfl⟩ := H
 go_enter Try.func139, Try.ntmps139
 go_wp2_with (first | ((with_reducible refine gate_callee (f := 109) rfl ?_); refine goesL_ (some 7) rfl rfl Try.func109 (by kernel_rfl) rfl #[.pointer (some ⟨g, 0, none⟩), .int .i64 a1] rfl ze_ ?_; (with_reducible refine (spec_l1Cur_pick.calls g s0_0 s0_1 s0_2 a1 t182 t183 t184 w0 _ ?side1 ?side2 A3.out).mono ?_); (case side1 => exact zg_); (case side2 => exact zbc_); rintro e w4 ⟨rfl, hi, hb, hk⟩; refine ⟨_, rfl, ?_⟩; have n_ := z (KeepBut.trans zh_ hk (.inl rfl)) <| z (hb) <| z1 (hi); clear HK HB HI0; obtain ⟨HK, HB, HI0⟩ := n_; clear hb hk hi))
 go_ret
 exact ⟨zf_, zg_, zbc_, zh_⟩
def spec_ttBit.f (a0 : Int) (a1 : Int) : Option (Int) := if 0 ≤ (IntKind.u64.wrap (a1)) then (some (Go.bits .and .i64 (shr .i64 a0 (IntKind.u64.wrap (a1))) 1)) else (none)
theorem spec_ttBit.calls (a0 : Int) (a1 : Int) (r : Int) (w : World) (h : spec_ttBit.f a0 a1 = some r) :
  Calls Try.prog 181 #[.int .i64 a0, .int .i64 a1] w fun e w' => e = .returned (.int .i64 r) ∧ Drawn0 w w' := by
 have H : (if 0 ≤ (IntKind.u64.wrap (a1)) then (some (Go.bits .and .i64 (shr .i64 a0 (IntKind.u64.wrap (a1))) 1)) else (none)) = some r := h
 clear h
 obtain ⟨ji3, hji3⟩ : ∃ j_ : Int, (IntKind.u64.wrap (a1)) = j_ := ⟨_, rfl⟩
 replace H : (if 0 ≤ (ji3) then (some (Go.bits .and .i64 (shr .i64 a0 (ji3)) 1)) else (none)) = some r := by first | (rw [hji3] at H; exact H) | (simp only [hji3] at H ⊢; exact H)
 by_cases c4 : 0 ≤ (ji3)
 ·rw [if_pos c4] at H
  have c4b0 := eq_true c4; have c4b1 := decide_eq_true c4; clear c4; obtain ⟨ji5, hji5⟩ : ∃ j_ : Int, (shr .i64 a0 (ji3)) = j_ := ⟨_, rfl⟩; replace H : (some (Go.bits .and .i64 (ji5) 1)) = some r := by first | (rw [hji5] at H; exact H) | (simp only [hji5] at H ⊢; exact H)
  have hji5_ : (a0 / 2 ^ min (ji3).toNat 64) = ji5 := hji5; have hji5z : (ji3) ≤ 64 → (a0 / 2 ^ (ji3).toNat) = ji5 := shr_small hji5; obtain rfl := Option.some.inj H
  go_enter Try.func181, Try.ntmps181
  go_wp2
  go_ret
  exact ⟨by first | rfl | (simp; done) | (simp only [← hji3, ← hji5] <;> (first | rfl | simp)) | (simp [*]; done), zj_⟩
 ·rw [if_neg c4] at H
  exact absurd H (by simp)
mutual
def spec_l1Cur_tableOf.l0 : Nat → Int → Int → Int → List Int → Int → Int → Int → List Int → Option (Int × List Int × Int × Int)
 | 0, _, _, _, _, _, _, _, _ => none
 | k + 1, x1, x6, x7, x1000, x1001, x1002, x187000, x187001 => if 0 ≤ (IntKind.u64.wrap (x1)) then (if x7 < (shl .i64 1 (IntKind.u64.wrap (x1))) then (if x6 = 8 then (spec_l1Cur_tableOf.l1 k x1 x6 x7 0 0 x1000 x1001 x1002 x187000 x187001) else ((spec_l1Cur_one.f x1000 x1001 x1002 x6).bind fun bt197 => (if bt197.1 = true then (if x187001.length < 17592186044416 then (spec_l1Cur_tableOf.l0 k x1 x6 (wrap64 (x7 + 1)) x1000 bt197.2.1 bt197.2.2 x187000 (x187001 ++ [1])) else (none)) else (if x187001.length < 17592186044416 then (spec_l1Cur_tableOf.l0 k x1 x6 (wrap64 (x7 + 1)) x1000 bt197.2.1 bt197.2.2 x187000 (x187001 ++ [0])) else (none))))) else (some (x187000, x187001, x1001, x1002))) else (none)
def spec_l1Cur_tableOf.l1 : Nat → Int → Int → Int → Int → Int → List Int → Int → Int → Int → List Int → Option (Int × List Int × Int × Int)
 | 0, _, _, _, _, _, _, _, _, _, _ => none
 | k + 1, x1, x6, x7, x8, x9, x1000, x1001, x1002, x187000, x187001 => if x9 < x1 then ((spec_ttBit.f x7 x9).bind fun t193 => (spec_l1Cur_tableOf.l1 k x1 x6 x7 (wrap64 (x8 + t193)) (wrap64 (x9 + 1)) x1000 x1001 x1002 x187000 x187001)) else (if x187001.length < 17592186044416 then (spec_l1Cur_tableOf.l0 k x1 x6 (wrap64 (x7 + 1)) x1000 x1001 x1002 x187000 (x187001 ++ [Int.tmod (wrap64 (Int.tdiv x8 2)) 2])) else (none))
end
def spec_l1Cur_tableOf.f (k : Nat) (s0_0 : List Int) (s0_1 : Int) (s0_2 : Int) (a1 : Int) : Option (Int × List Int × Int × Int) := (spec_l1Cur_among.f s0_0 s0_1 s0_2 (([2, 2, 4, 8] : List Int))).bind fun bt190 => (spec_l1Cur_tableOf.l0 k a1 bt190.1 0 s0_0 bt190.2.1 bt190.2.2 a1 ([] : List Int))
theorem spec_l1Cur_tableOf.calls (k : Nat) (g : Nat) (s0_0 : List Int) (s0_1 : Int) (s0_2 : Int) (a1 : Int) (r1 : Int) (r2 : List Int) (r3 : Int) (r4 : Int) (w0 w : World) (hI : IsS111 w0 w g s0_0 s0_1 s0_2) (hB : Below w0.heap.size w0 w) (h : spec_l1Cur_tableOf.f k s0_0 s0_1 s0_2 a1 = some (r1, r2, r3, r4)) :
  Calls Try.prog 191 #[.pointer (some ⟨g, 0, none⟩), .int .i64 a1] w fun e w' => ∃ v1_ : Value, e = .returned (.agg #[.int .i64 r1, v1_]) ∧ Kd.R (Kd.int .i64) 3 w' w.heap.size (fun _ => True) v1_ r2 ∧ IsS111 w0 w' g s0_0 r3 r4 ∧ Below w0.heap.size w0 w' ∧ KeepBut w w' g none := by
 have hu60 := Try.underlying60
 have HI0 := aM hI
 have HK := aM (KeepBut.refl w g none)
 have HL := aM hB.size
 clear hI
 have HW0 := aM hB.size
 have HB := aM hB
 clear hB
 have H : ((spec_l1Cur_among.f s0_0 s0_1 s0_2 (([2, 2, 4, 8] : List Int))).bind fun bt190 => (spec_l1Cur_tableOf.l0 k a1 bt190.1 0 s0_0 bt190.2.1 bt190.2.2 a1 ([] : List Int))) = some (r1, r2, r3, r4) := h
 clear h
 obtain ⟨y187, hy187⟩ : ∃ y_ : List Int, y_ = (([2, 2, 4, 8] : List Int)) := ⟨_, rfl⟩
 replace H : ((spec_l1Cur_among.f s0_0 s0_1 s0_2 y187).bind fun bt190 => (spec_l1Cur_tableOf.l0 k a1 bt190.1 0 s0_0 bt190.2.1 bt190.2.2 a1 ([] : List Int))) = some (r1, r2, r3, r4) := by first | (rw [hy187]; with_reducible exact H) | (have H2_ := (oS _ _).symm.trans H; rw [hy187]; with_reducible exact H2_) | (have H2_ := (oS _ _).symm.trans H; with_reducible exact H2_) | with_reducible exact H | (rw [hy187]; exact H) | exact H
 have Ny187 := aM hy187
 clear hy187
 replace H := oB.mp H
 obtain ⟨⟨t190, t191, t192⟩, A30, H⟩ := H
 replace H : (spec_l1Cur_tableOf.l0 k a1 t190 0 s0_0 t191 t192 a1 ([] : List Int)) = some (r1, r2, r3, r4) := H
 have A3 := aM A30
 clear A30
 have H' := aM H
 clear H
 go_enter Try.func191, Try.ntmps191
 go_wp2_with (first | ((with_reducible refine gate_dst (N := 4) rfl ?_); refine box_event ?hg (N := 4) ?hd (cs := #[.int .i64 0, .slice none 0 0]) (t := 60) ?hr ?_; (case hd => rfl); (case hg => rfl); (case hr => exact zc_); intro gb185 hg w4 hbox hb; have n_ := z (IsS111.below zg_ hb) <| z (KeepBut.trans zh_ (KeepBut.of_below hb g none) (.inl rfl)) <| z (below_step zbc_ hb) <| z (hbox) <| z ((by rw [hg]; exact (keep_size (w := w) (g := g) (row := none) zh_) : w.heap.size ≤ gb185)) <| z ((Nat.le_trans HW0.out (by rw [hg]; exact (keep_size (w := w) (g := g) (row := none) zh_) : w.heap.size ≤ gb185) : w0.heap.size ≤ gb185)) <| z ((by rw [hg]; exact Nat.ne_of_lt (IsS111.lt (show IsS111 w0 _ g s0_0 s0_1 s0_2 from zg_)) : g ≠ gb185)) <| z1 ((by rw [hg]; exact Nat.ne_of_gt (IsS111.lt (show IsS111 w0 _ g s0_0 s0_1 s0_2 from zg_)) : gb185 ≠ g)); clear HI0 HK HB; obtain ⟨HI0, HK, HB, BK185, GW185, GE185, NB0_185, NB185_0⟩ := n_; clear hb hbox hg) | ((with_reducible refine gate_dst (N := 5) rfl ?_); refine box_event ?hg (N := 5) ?hd (cs := #[.int .i64 0, .slice none 0 0]) (t := 60) ?hr ?_; (case hd => rfl); (case hg => rfl); (case hr => exact zc_); intro gb186 hg w5 hbox hb; have n_ := z (IsS111.below zbah_ hb) <| z (blk_below (zb BK185.out) hb) <| z (KeepBut.trans zbai_ (KeepBut.of_below hb g none) (.inl rfl)) <| z (below_step (by repeat (first | (with_reducible first | exact HB.out | apply pA | apply pN | apply p1 | refine below_set ?_ (IsS111.ge HI0.out) | refine below_set ?_ GE185.out) | exact HB.out)) hb) <| z (hbox) <| z ((by rw [hg]; exact (keep_size (w := w) (g := g) (row := none) zbai_) : w.heap.size ≤ gb186)) <| z ((Nat.le_trans HW0.out (by rw [hg]; exact (keep_size (w := w) (g := g) (row := none) zbai_) : w.heap.size ≤ gb186) : w0.heap.size ≤ gb186)) <| z ((by rw [hg]; exact Nat.ne_of_lt (blk_lt (zb BK185.out)) : gb185 ≠ gb186)) <| z ((by rw [hg]; exact Nat.ne_of_gt (blk_lt (zb BK185.out)) : gb186 ≠ gb185)) <| z ((by rw [hg]; exact Nat.ne_of_lt (IsS111.lt (show IsS111 w0 _ g s0_0 s0_1 s0_2 from zbah_)) : g ≠ gb186)) <| z1 ((by rw [hg]; exact Nat.ne_of_gt (IsS111.lt (show IsS111 w0 _ g s0_0 s0_1 s0_2 from zbah_)) : gb186 ≠ g)); clear HI0 BK185 HK HB; obtain ⟨HI0, BK185, HK, HB, BK186, GW186, GE186, NB185_186, NB186_185, NB0_186, NB186_0⟩ := n_; clear hb hbox hg; have hnb6 := NB186_185.out; have hnc6 := NB185_186.out; have hnb7 := NB186_0.out; have hnc7 := NB0_186.out; have hcz8_0 : w5.cell? ⟨gb186, 0, none⟩ = some (.int .i64 0) := (blk_cell BK186.out 0).trans rfl; have hcz8_1 : w5.cell? ⟨gb186, 1, none⟩ = some (.slice none 0 0) := (blk_cell BK186.out 1).trans rfl; have hfz8_0 := blk_frozen BK186.out 0; have hfz8_1 := blk_frozen BK186.out 1) | ((with_reducible refine gate_dst (N := 13) rfl ?_); refine Kd.R_lit (Kd.int .i64) _ 3 ?hg (N := 13) ?hd (xs := ([2, 2, 4, 8] : List Int)) (inner := [.int .i64 2, .int .i64 2, .int .i64 4, .int .i64 8]) (ok := fun _ => True) (okp := fun _ => True) ?hr ?hp (fun _ hk => hk) trivial (Below.refl _ _) (Nat.le_refl _) (by simp) ?_; (case hd => rfl); (case hg => rfl); (case hr => exact zc_); (case hp => exact (Reps.one (show Kd.M (Kd.int .i64) _ _ _ 2 [.int .i64 2] from rfl) (Reps.one (show Kd.M (Kd.int .i64) _ _ _ 2 [.int .i64 2] from rfl) (Reps.one (show Kd.M (Kd.int .i64) _ _ _ 4 [.int .i64 4] from rfl) (Reps.one (show Kd.M (Kd.int .i64) _ _ _ 8 [.int .i64 8] from rfl) (Reps.none _ _)))))); intro v188 w9 ho10 hb hg_ hnew_; clear hg_ hnew_; (first | rw [← Ny187.out] at ho10 | (simp only [Int.reduceToNat] at ho10; rw [← Ny187.out] at ho10)); have n_ := z (Kd.R_lower ho10 (keep_size (w := w) (g := g) (row := none) zdc_)) <| z (IsS111.below (show IsS111 w0 ((w5.setCell ⟨gb186, 0, none⟩ (.int .i64 a1)).setCell ⟨gb186, 1, none⟩ (.slice none 0 0)) g s0_0 s0_1 s0_2 from zce_) hb) <| z (blk_below (g := gb185) (o := .cells #[.int .i64 0, .slice none 0 0] 60 (0, 0)) (by refine zb ?_; refine blk_far ?_ NB185_186.out _; refine zb ?_; refine blk_far ?_ NB185_186.out _; refine zb ?_; exact BK185.out) hb) <| z (blk_below (g := gb186) (o := .cells #[.int .i64 a1, .slice none 0 0] 60 (0, 0)) (by refine zb ?_; refine blk_put (cs := #[.int .i64 a1, .slice none 0 0]) ?_ 1 _ rfl; refine zb ?_; refine blk_put (cs := #[.int .i64 0, .slice none 0 0]) ?_ 0 _ rfl; refine zb ?_; exact BK186.out) hb) <| z (KeepBut.trans zdc_ (KeepBut.of_below hb g none) (.inl rfl)) <| z1 (below_step zde_ hb); clear HI0 BK185 BK186 HK HB; obtain ⟨HO189, HI0, BK185, BK186, HK, HB⟩ := n_; clear hb ho10; obtain ⟨Ao11, co11, eo11⟩ := Kd.R_slice HO189.out; subst eo11) | ((with_reducible refine gate_callee (f := 110) rfl ?_); refine goesL_ (some 14) rfl rfl Try.func110 (by kernel_rfl) rfl #[.pointer (some ⟨g, 0, none⟩), .slice Ao11 y187.length co11] rfl ze_ ?_; (with_reducible refine (spec_l1Cur_among.calls g s0_0 s0_1 s0_2 _ _ y187 t190 t191 t192 w0 _ ?side1 ?side2 ?side3 ?side4 ?side5 A3.out).mono ?_); (case side1 => exact zce_); (case side2 => exact zde_); (case side3 => repeat (first | exact (Kd.R_reads' HO189.out).2.2 | (with_reducible refine cA ?_ _) | (with_reducible refine cN ?_ _) | (with_reducible refine cD ?_))); (case side4 => exact (Kd.R_reads' HO189.out).2.1); (case side5 => exact far_slice (IsS111.own_ne HI0.out HO189.out (by decide))); rintro e w12 ⟨rfl, hi, hb, hk⟩; refine ⟨_, rfl, ?_⟩; have n_ := z (KeepBut.blk hk (zb BK185.out) NB185_0.out (by simp)) <| z (KeepBut.blk hk (zb BK186.out) NB186_0.out (by simp)) <| z (Kd.R_mono (Kd.R_keep (IsS111.apart (show IsS111 w0 _ g s0_0 s0_1 s0_2 from zce_) (zr HO189.out) (by decide)) hk (fun _ h => h.2)) (fun _ h => h.1)) <| z (KeepBut.trans zdc_ hk (.inl rfl)) <| z (hb) <| z1 (hi); clear BK185 BK186 HO189 HK HB HI0; obtain ⟨BK185, BK186, HO189, HK, HB, HI0⟩ := n_; clear hb hk hi))
 go_loopg [7] k (fun kq v7 w' => ∃ (x7_1 : Int) (x1001_1 : Int) (x1002_1 : Int) (x187001_1 : List Int) (u187001 : Value), v7 = .int .i64 x7_1 ∧ Aside0 (spec_l1Cur_tableOf.l0 kq a1 t190 x7_1 s0_0 x1001_1 x1002_1 a1 x187001_1 = some (r1, r2, r3, r4)) ∧ Aside0 (kq ≤ k) ∧ Aside0 (Kd.R (Kd.int .i64) 3 w' w.heap.size (fun _ => True) u187001 x187001_1) ∧ Aside0 (w'.heap[gb185]? = some (.cells #[.int .i64 0, (.slice none 0 0)] 60 (0, 0))) ∧ Aside0 (w'.heap[gb186]? = some (.cells #[.int .i64 a1, u187001] 60 (0, 0))) ∧ Aside0 (IsS111 w0 w' g s0_0 x1001_1 x1002_1) ∧ Aside0 (KeepBut w w' g none) ∧ Aside0 (Below w0.heap.size w0 w'))
 case atStart => exact ⟨(0), (t191), (t192), (([] : List Int)), (.slice none 0 0), zb_, H', ⟨Nat.le_refl _⟩, ⟨zbi_⟩, ⟨zb BK185.out⟩, ⟨zb BK186.out⟩, ⟨zce_⟩, ⟨zdc_⟩, ⟨zde_⟩⟩
 case round =>
  clear H'; (try clear hcz8_0); (try clear hcz8_1); (try clear hfz8_0); (try clear hfz8_1); obtain ⟨x7_1, x1001_1, x1002_1, x187001_1, u187001, rfl, HA, HK1, HO_187001, BK185, BK186, HI0, HK, HB⟩ := hrel
  cases gk with
  | zero => exact absurd HA.out (by simp [spec_l1Cur_tableOf.l0])
  | succ k1 =>
   have H := HA.out; clear HA
   simp only [spec_l1Cur_tableOf.l0] at H
   obtain ⟨ji13, hji13⟩ : ∃ j_ : Int, (IntKind.u64.wrap (a1)) = j_ := ⟨_, rfl⟩; replace H : (if 0 ≤ (ji13) then (if x7_1 < (shl .i64 1 (ji13)) then (if t190 = 8 then (spec_l1Cur_tableOf.l1 k1 a1 t190 x7_1 0 0 s0_0 x1001_1 x1002_1 a1 x187001_1) else ((spec_l1Cur_one.f s0_0 x1001_1 x1002_1 t190).bind fun bt197 => (if bt197.1 = true then (if x187001_1.length < 17592186044416 then (spec_l1Cur_tableOf.l0 k1 a1 t190 (wrap64 (x7_1 + 1)) s0_0 bt197.2.1 bt197.2.2 a1 (x187001_1 ++ [1])) else (none)) else (if x187001_1.length < 17592186044416 then (spec_l1Cur_tableOf.l0 k1 a1 t190 (wrap64 (x7_1 + 1)) s0_0 bt197.2.1 bt197.2.2 a1 (x187001_1 ++ [0])) else (none))))) else (some (a1, x187001_1, x1001_1, x1002_1))) else (none)) = some (r1, r2, r3, r4) := by first | (rw [hji13] at H; exact H) | (simp only [hji13] at H ⊢; exact H)
   by_cases c14 : 0 ≤ (ji13)
   ·rw [if_pos c14] at H
    have c14b0 := eq_true c14; have c14b1 := decide_eq_true c14; clear c14; obtain ⟨ji15, hji15⟩ : ∃ j_ : Int, (shl .i64 1 (ji13)) = j_ := ⟨_, rfl⟩; replace H : (if x7_1 < (ji15) then (if t190 = 8 then (spec_l1Cur_tableOf.l1 k1 a1 t190 x7_1 0 0 s0_0 x1001_1 x1002_1 a1 x187001_1) else ((spec_l1Cur_one.f s0_0 x1001_1 x1002_1 t190).bind fun bt197 => (if bt197.1 = true then (if x187001_1.length < 17592186044416 then (spec_l1Cur_tableOf.l0 k1 a1 t190 (wrap64 (x7_1 + 1)) s0_0 bt197.2.1 bt197.2.2 a1 (x187001_1 ++ [1])) else (none)) else (if x187001_1.length < 17592186044416 then (spec_l1Cur_tableOf.l0 k1 a1 t190 (wrap64 (x7_1 + 1)) s0_0 bt197.2.1 bt197.2.2 a1 (x187001_1 ++ [0])) else (none))))) else (some (a1, x187001_1, x1001_1, x1002_1))) = some (r1, r2, r3, r4) := by first | (rw [hji15] at H; exact H) | (simp only [hji15] at H ⊢; exact H)
    have hji15_ : (IntKind.i64.wrap (1 * 2 ^ min (ji13).toNat 64)) = ji15 := hji15; have hji15z : (ji13) ≤ 64 → (IntKind.i64.wrap (1 * 2 ^ (ji13).toNat)) = ji15 := shl_small hji15; have hji15u : (IntKind.i64.wrap (2 ^ min (ji13).toNat 64)) = ji15 := by have h_ := hji15_; rw [Int.one_mul] at h_; exact h_
    have hji15v : (ji13) ≤ 64 → (IntKind.i64.wrap (2 ^ (ji13).toNat)) = ji15 := fun hle_ => by have h_ := hji15z hle_; rw [Int.one_mul] at h_; exact h_
    have hji15y : (wrap64 (1 * 2 ^ min (ji13).toNat 64)) = ji15 := (i64_w _).symm.trans hji15_; have hji15x : (ji13) ≤ 64 → (wrap64 (1 * 2 ^ (ji13).toNat)) = ji15 := fun h_ => (i64_w _).symm.trans (hji15z h_)
    by_cases c16 : x7_1 < (ji15)
    ·rw [if_pos c16] at H
     have c16b0 := decide_eq_true c16; clear c16
     by_cases c17 : t190 = 8
     ·rw [if_pos c17] at H
      have c17b0 := beq_iff_eq.mpr c17; have c17b1 := bne_eq_false_iff_eq.mpr c17; clear c17; have H' := aM H; clear H
      go_wp2
      go_loopg [8, 9] k1 (fun kq v8 v9 w' => ∃ (x8_2 : Int) (x9_2 : Int), v8 = .int .i64 x8_2 ∧ v9 = .int .i64 x9_2 ∧ Aside0 (spec_l1Cur_tableOf.l1 kq a1 t190 x7_1 x8_2 x9_2 s0_0 x1001_1 x1002_1 a1 x187001_1 = some (r1, r2, r3, r4)) ∧ Aside0 (kq ≤ k1) ∧ Aside0 (Kd.R (Kd.int .i64) 3 w' w.heap.size (fun _ => True) u187001 x187001_1) ∧ Aside0 (w'.heap[gb185]? = some (.cells #[.int .i64 0, (.slice none 0 0)] 60 (0, 0))) ∧ Aside0 (w'.heap[gb186]? = some (.cells #[.int .i64 a1, u187001] 60 (0, 0))) ∧ Aside0 (IsS111 w0 w' g s0_0 x1001_1 x1002_1) ∧ Aside0 (KeepBut w w' g none) ∧ Aside0 (Below w0.heap.size w0 w'))
      case atStart => exact ⟨(0), (0), zb_, zb_, H', ⟨Nat.le_refl _⟩, ⟨zr HO_187001.out⟩, ⟨zb BK185.out⟩, ⟨zb BK186.out⟩, ⟨zce_⟩, ⟨zdc_⟩, ⟨zde_⟩⟩
      case round =>
       clear H'; (try clear c14b0); (try clear c14b1); (try clear c16b0); (try clear c17b0); (try clear c17b1); obtain ⟨x8_2, x9_2, rfl, rfl, HA, HK2, HO_187001, BK185, BK186, HI0, HK, HB⟩ := hrel
       cases gk with
       | zero => exact absurd HA.out (by simp [spec_l1Cur_tableOf.l1])
       | succ k2 =>
        have H := HA.out; clear HA
        simp only [spec_l1Cur_tableOf.l1] at H
        by_cases c18 : x9_2 < a1
        ·rw [if_pos c18] at H
         have c18b0 := decide_eq_true c18; clear c18; replace H := oB.mp H; obtain ⟨t193, A190, H⟩ := H; replace H : (spec_l1Cur_tableOf.l1 k2 a1 t190 x7_1 (wrap64 (x8_2 + t193)) (wrap64 (x9_2 + 1)) s0_0 x1001_1 x1002_1 a1 x187001_1) = some (r1, r2, r3, r4) := H; have A19 := aM A190; clear A190; have H' := aM H; clear H
         go_wp2_with (first | ((with_reducible refine gate_callee (f := 181) rfl ?_); refine goesL_ (some 33) rfl rfl Try.func181 (by kernel_rfl) rfl #[.int .i64 x7_1, .int .i64 x9_2] rfl ze_ ?_; (with_reducible refine (spec_ttBit.calls x7_1 x9_2 t193 _ A19.out).mono ?_); rintro e w' ⟨rfl, ⟨nd, rfl⟩⟩; refine ⟨_, rfl, ?_⟩))
         go_roundg k2
         case measure => have := HK1.out; have := HK2.out; omega
         case rel => exact ⟨(wrap64 (x8_2 + t193)), (wrap64 (x9_2 + 1)), zb_, zb_, H', ⟨zci_⟩, ⟨zr HO_187001.out⟩, ⟨zb BK185.out⟩, ⟨zb BK186.out⟩, ⟨zce_⟩, ⟨zdc_⟩, ⟨zde_⟩⟩
        ·rw [if_neg c18] at H
         have c18b0 := decide_eq_false c18; clear c18
         by_cases c20 : x187001_1.length < 17592186044416
         ·rw [if_pos c20] at H
          have LMc20 := aM c20; clear c20; obtain ⟨y194, hy194⟩ : ∃ y_ : List Int, y_ = (x187001_1 ++ [Int.tmod (wrap64 (Int.tdiv x8_2 2)) 2]) := ⟨_, rfl⟩; replace H : (spec_l1Cur_tableOf.l0 k2 a1 t190 (wrap64 (x7_1 + 1)) s0_0 x1001_1 x1002_1 a1 y194) = some (r1, r2, r3, r4) := by first | (rw [hy194]; with_reducible exact H) | (have H2_ := (oS _ _).symm.trans H; rw [hy194]; with_reducible exact H2_) | (have H2_ := (oS _ _).symm.trans H; with_reducible exact H2_) | with_reducible exact H | (rw [hy194]; exact H) | exact H
          have Ny194 := aM hy194; clear hy194; have H' := aM H; clear H; have hnb21 := NB186_185.out; have hnc21 := NB185_186.out; have hnb22 := NB186_0.out; have hnc22 := NB0_186.out; have hcz23_0 : wr.cell? ⟨gb186, 0, none⟩ = some (.int .i64 a1) := (blk_cell BK186.out 0).trans rfl; have hcz23_1 : wr.cell? ⟨gb186, 1, none⟩ = some (u187001) := (blk_cell BK186.out 1).trans rfl; have hfz23_0 := blk_frozen BK186.out 0; have hfz23_1 := blk_frozen BK186.out 1
          go_wp2_with (first | ((with_reducible refine gate_builtin (b := .append) (xs := #[.tmp 43, .tmp 45]) rfl ?_); at_builtin; refine Kd.R_append (Kd.int .i64) w.heap.size rfl (.tmp 43) (.tmp 45) 24 3 (.int .i64 0) 8 rfl Try.underlying24 info3 rfl (by decide) (by omega) u187001 x187001_1 (Int.tmod (wrap64 (Int.tdiv x8_2 2)) 2) [.int .i64 (Int.tmod (wrap64 (Int.tdiv x8_2 2)) 2)] (fun _ => True) (fun _ => False) rfl rfl ?aP (fun _ hk => hk.elim) ?aF ?aO (Below.refl _ _) ?aS ?aL ?_; (case aP => exact rfl); (case aF => exact (fun _ _ => trivial)); (case aO => exact (zr HO_187001.out)); (case aS => exact zbaj_); (case aL => have := LMc20.out; omega); intro v195 w24 ho hb hg hat; rw [← Ny194.out] at ho; have n_ := z (blk_grown (g := gb185) (o := .cells #[.int .i64 0, .slice none 0 0] 60 (0, 0)) (zb BK185.out) hg (Kd.R_ne HO_187001.out BK185.out (by decide))) <| z (blk_grown (g := gb186) (o := .cells #[.int .i64 a1, u187001] 60 (0, 0)) (zb BK186.out) hg (Kd.R_ne HO_187001.out BK186.out (by decide))) <| z (IsS111.grown zce_ hg (IsS111.own_ne HI0.out HO_187001.out (by decide))) <| z (below_weaken zde_ HL.out hb) <| z (KeepBut.trans zdc_ (KeepBut.of_grown hg g) (Kd.R_base2 HO_187001.out)) <| z1 (ho); clear BK185 BK186 HI0 HB HK HO_187001; obtain ⟨BK185, BK186, HI0, HB, HK, HO196⟩ := n_; clear ho hb hg hat; obtain ⟨Ao25, co25, eo25⟩ := Kd.R_slice HO196.out; subst eo25; have hcz26_0 : w24.cell? ⟨gb186, 0, none⟩ = some (.int .i64 a1) := (blk_cell BK186.out 0).trans rfl; have hcz26_1 : w24.cell? ⟨gb186, 1, none⟩ = some (u187001) := (blk_cell BK186.out 1).trans rfl; have hfz26_0 := blk_frozen BK186.out 0; have hfz26_1 := blk_frozen BK186.out 1))
          go_roundg k2
          case measure => have := HK1.out; have := HK2.out; omega
          case rel => exact ⟨(wrap64 (x7_1 + 1)), (x1001_1), (x1002_1), (y194), (.slice Ao25 y194.length co25), zb_, H', ⟨zci_⟩, ⟨by refine zr ?_; exact Kd.R_mono (Kd.R_far (p := ⟨gb186, 1, none⟩) (Kd.R_types HO196.out BK186.out (by decide)) (fun _ hk => hk.2) (.slice Ao25 y194.length co25)) (fun _ hk => trivial)⟩, ⟨by refine zb ?_; refine blk_far ?_ NB185_186.out _; refine zb ?_; exact BK185.out⟩, ⟨zbba_⟩, ⟨zce_⟩, ⟨zdc_⟩, ⟨zde_⟩⟩
         ·rw [if_neg c20] at H
          exact absurd H (by simp)
     ·rw [if_neg c17] at H
      have c17b0 := beq_eq_false_iff_ne.mpr c17; have c17b1 := bne_iff_ne.mpr c17; replace H := oB.mp H; obtain ⟨⟨t197, t198, t199⟩, A270, H⟩ := H; replace H : (if t197 = true then (if x187001_1.length < 17592186044416 then (spec_l1Cur_tableOf.l0 k1 a1 t190 (wrap64 (x7_1 + 1)) s0_0 t198 t199 a1 (x187001_1 ++ [1])) else (none)) else (if x187001_1.length < 17592186044416 then (spec_l1Cur_tableOf.l0 k1 a1 t190 (wrap64 (x7_1 + 1)) s0_0 t198 t199 a1 (x187001_1 ++ [0])) else (none))) = some (r1, r2, r3, r4) := H; have A27 := aM A270; clear A270
      by_cases c28 : t197 = true
      ·subst c28
       have H1 : (if x187001_1.length < 17592186044416 then (spec_l1Cur_tableOf.l0 k1 a1 t190 (wrap64 (x7_1 + 1)) s0_0 t198 t199 a1 (x187001_1 ++ [1])) else (none)) = some (r1, r2, r3, r4) := by rw [if_pos rfl] at H; exact H
       clear H; have H := H1; clear H1
       by_cases c29 : x187001_1.length < 17592186044416
       ·rw [if_pos c29] at H
        have LMc29 := aM c29; clear c29; obtain ⟨y200, hy200⟩ : ∃ y_ : List Int, y_ = (x187001_1 ++ [1]) := ⟨_, rfl⟩; replace H : (spec_l1Cur_tableOf.l0 k1 a1 t190 (wrap64 (x7_1 + 1)) s0_0 t198 t199 a1 y200) = some (r1, r2, r3, r4) := by first | (rw [hy200]; with_reducible exact H) | (have H2_ := (oS _ _).symm.trans H; rw [hy200]; with_reducible exact H2_) | (have H2_ := (oS _ _).symm.trans H; with_reducible exact H2_) | with_reducible exact H | (rw [hy200]; exact H) | exact H
        have Ny200 := aM hy200; clear hy200; have H' := aM H; clear H
        go_wp2_with (first | ((with_reducible refine gate_callee (f := 139) rfl ?_); refine goesL_ (some 41) rfl rfl Try.func139 (by kernel_rfl) rfl #[.pointer (some ⟨g, 0, none⟩), .int .i64 t190] rfl ze_ ?_; (with_reducible refine (spec_l1Cur_one.calls g s0_0 x1001_1 x1002_1 t190 true t198 t199 w0 _ ?side1 ?side2 A27.out).mono ?_); (case side1 => exact zce_); (case side2 => exact zde_); rintro e w30 ⟨rfl, hi, hb, hk⟩; refine ⟨_, rfl, ?_⟩; have n_ := z (Kd.R_mono (Kd.R_keep (IsS111.apart (show IsS111 w0 _ g s0_0 x1001_1 x1002_1 from zce_) (zr HO_187001.out) (by decide)) hk (fun _ h => h.2)) (fun _ h => h.1)) <| z (KeepBut.blk hk (zb BK185.out) NB185_0.out (by simp)) <| z (KeepBut.blk hk (zb BK186.out) NB186_0.out (by simp)) <| z (KeepBut.trans zdc_ hk (.inl rfl)) <| z (hb) <| z1 (hi); clear HO_187001 BK185 BK186 HK HB HI0; obtain ⟨HO_187001, BK185, BK186, HK, HB, HI0⟩ := n_; clear hb hk hi; have hnb31 := NB186_185.out; have hnc31 := NB185_186.out; have hnb32 := NB186_0.out; have hnc32 := NB0_186.out; have hcz33_0 : w30.cell? ⟨gb186, 0, none⟩ = some (.int .i64 a1) := (blk_cell BK186.out 0).trans rfl; have hcz33_1 : w30.cell? ⟨gb186, 1, none⟩ = some (u187001) := (blk_cell BK186.out 1).trans rfl; have hfz33_0 := blk_frozen BK186.out 0; have hfz33_1 := blk_frozen BK186.out 1) | ((with_reducible refine gate_builtin (b := .append) (xs := #[.tmp 43, .tmp 45]) rfl ?_); at_builtin; refine Kd.R_append (Kd.int .i64) w.heap.size rfl (.tmp 43) (.tmp 45) 24 3 (.int .i64 0) 8 rfl Try.underlying24 info3 rfl (by decide) (by omega) u187001 x187001_1 1 [.int .i64 1] (fun _ => True) (fun _ => False) rfl rfl ?aP (fun _ hk => hk.elim) ?aF ?aO (Below.refl _ _) ?aS ?aL ?_; (case aP => exact rfl); (case aF => exact (fun _ _ => trivial)); (case aO => exact (zr HO_187001.out)); (case aS => exact zbaj_); (case aL => have := LMc29.out; omega); intro v201 w34 ho hb hg hat; rw [← Ny200.out] at ho; have n_ := z (blk_grown (g := gb185) (o := .cells #[.int .i64 0, .slice none 0 0] 60 (0, 0)) (zb BK185.out) hg (Kd.R_ne HO_187001.out BK185.out (by decide))) <| z (blk_grown (g := gb186) (o := .cells #[.int .i64 a1, u187001] 60 (0, 0)) (zb BK186.out) hg (Kd.R_ne HO_187001.out BK186.out (by decide))) <| z (IsS111.grown zce_ hg (IsS111.own_ne HI0.out HO_187001.out (by decide))) <| z (below_weaken zde_ HL.out hb) <| z (KeepBut.trans zdc_ (KeepBut.of_grown hg g) (Kd.R_base2 HO_187001.out)) <| z1 (ho); clear BK185 BK186 HI0 HB HK HO_187001; obtain ⟨BK185, BK186, HI0, HB, HK, HO202⟩ := n_; clear ho hb hg hat; obtain ⟨Ao35, co35, eo35⟩ := Kd.R_slice HO202.out; subst eo35; have hcz36_0 : w34.cell? ⟨gb186, 0, none⟩ = some (.int .i64 a1) := (blk_cell BK186.out 0).trans rfl; have hcz36_1 : w34.cell? ⟨gb186, 1, none⟩ = some (u187001) := (blk_cell BK186.out 1).trans rfl; have hfz36_0 := blk_frozen BK186.out 0; have hfz36_1 := blk_frozen BK186.out 1))
        go_roundg k1
        case measure => have := HK1.out; omega
        case rel => exact ⟨(wrap64 (x7_1 + 1)), (t198), (t199), (y200), (.slice Ao35 y200.length co35), zb_, H', ⟨zba_⟩, ⟨by refine zr ?_; exact Kd.R_mono (Kd.R_far (p := ⟨gb186, 1, none⟩) (Kd.R_types HO202.out BK186.out (by decide)) (fun _ hk => hk.2) (.slice Ao35 y200.length co35)) (fun _ hk => trivial)⟩, ⟨by refine zb ?_; refine blk_far ?_ NB185_186.out _; refine zb ?_; exact BK185.out⟩, ⟨zbba_⟩, ⟨zce_⟩, ⟨zdc_⟩, ⟨zde_⟩⟩
       ·rw [if_neg c29] at H
        exact absurd H (by simp)
      ·replace c28 := Bool.eq_false_iff.mpr c28
       subst c28; have H1 : (if x187001_1.length < 17592186044416 then (spec_l1Cur_tableOf.l0 k1 a1 t190 (wrap64 (x7_1 + 1)) s0_0 t198 t199 a1 (x187001_1 ++ [0])) else (none)) = some (r1, r2, r3, r4) := by rw [if_neg (show ¬ (false = true) by decide)] at H; exact H
       clear H; have H := H1; clear H1
       by_cases c37 : x187001_1.length < 17592186044416
       ·rw [if_pos c37] at H
        have LMc37 := aM c37; clear c37; obtain ⟨y203, hy203⟩ : ∃ y_ : List Int, y_ = (x187001_1 ++ [0]) := ⟨_, rfl⟩; replace H : (spec_l1Cur_tableOf.l0 k1 a1 t190 (wrap64 (x7_1 + 1)) s0_0 t198 t199 a1 y203) = some (r1, r2, r3, r4) := by first | (rw [hy203]; with_reducible exact H) | (have H2_ := (oS _ _).symm.trans H; rw [hy203]; with_reducible exact H2_) | (have H2_ := (oS _ _).symm.trans H; with_reducible exact H2_) | with_reducible exact H | (rw [hy203]; exact H) | exact H
        have Ny203 := aM hy203; clear hy203; have H' := aM H; clear H
        go_wp2_with (first | ((with_reducible refine gate_callee (f := 139) rfl ?_); refine goesL_ (some 41) rfl rfl Try.func139 (by kernel_rfl) rfl #[.pointer (some ⟨g, 0, none⟩), .int .i64 t190] rfl ze_ ?_; (with_reducible refine (spec_l1Cur_one.calls g s0_0 x1001_1 x1002_1 t190 false t198 t199 w0 _ ?side1 ?side2 A27.out).mono ?_); (case side1 => exact zce_); (case side2 => exact zde_); rintro e w38 ⟨rfl, hi, hb, hk⟩; refine ⟨_, rfl, ?_⟩; have n_ := z (Kd.R_mono (Kd.R_keep (IsS111.apart (show IsS111 w0 _ g s0_0 x1001_1 x1002_1 from zce_) (zr HO_187001.out) (by decide)) hk (fun _ h => h.2)) (fun _ h => h.1)) <| z (KeepBut.blk hk (zb BK185.out) NB185_0.out (by simp)) <| z (KeepBut.blk hk (zb BK186.out) NB186_0.out (by simp)) <| z (KeepBut.trans zdc_ hk (.inl rfl)) <| z (hb) <| z1 (hi); clear HO_187001 BK185 BK186 HK HB HI0; obtain ⟨HO_187001, BK185, BK186, HK, HB, HI0⟩ := n_; clear hb hk hi; have hnb39 := NB186_185.out; have hnc39 := NB185_186.out; have hnb40 := NB186_0.out; have hnc40 := NB0_186.out; have hcz41_0 : w38.cell? ⟨gb186, 0, none⟩ = some (.int .i64 a1) := (blk_cell BK186.out 0).trans rfl; have hcz41_1 : w38.cell? ⟨gb186, 1, none⟩ = some (u187001) := (blk_cell BK186.out 1).trans rfl; have hfz41_0 := blk_frozen BK186.out 0; have hfz41_1 := blk_frozen BK186.out 1) | ((with_reducible refine gate_builtin (b := .append) (xs := #[.tmp 43, .tmp 45]) rfl ?_); at_builtin; refine Kd.R_append (Kd.int .i64) w.heap.size rfl (.tmp 43) (.tmp 45) 24 3 (.int .i64 0) 8 rfl Try.underlying24 info3 rfl (by decide) (by omega) u187001 x187001_1 0 [.int .i64 0] (fun _ => True) (fun _ => False) rfl rfl ?aP (fun _ hk => hk.elim) ?aF ?aO (Below.refl _ _) ?aS ?aL ?_; (case aP => exact rfl); (case aF => exact (fun _ _ => trivial)); (case aO => exact (zr HO_187001.out)); (case aS => exact zbaj_); (case aL => have := LMc37.out; omega); intro v204 w42 ho hb hg hat; rw [← Ny203.out] at ho; have n_ := z (blk_grown (g := gb185) (o := .cells #[.int .i64 0, .slice none 0 0] 60 (0, 0)) (zb BK185.out) hg (Kd.R_ne HO_187001.out BK185.out (by decide))) <| z (blk_grown (g := gb186) (o := .cells #[.int .i64 a1, u187001] 60 (0, 0)) (zb BK186.out) hg (Kd.R_ne HO_187001.out BK186.out (by decide))) <| z (IsS111.grown zce_ hg (IsS111.own_ne HI0.out HO_187001.out (by decide))) <| z (below_weaken zde_ HL.out hb) <| z (KeepBut.trans zdc_ (KeepBut.of_grown hg g) (Kd.R_base2 HO_187001.out)) <| z1 (ho); clear BK185 BK186 HI0 HB HK HO_187001; obtain ⟨BK185, BK186, HI0, HB, HK, HO205⟩ := n_; clear ho hb hg hat; obtain ⟨Ao43, co43, eo43⟩ := Kd.R_slice HO205.out; subst eo43; have hcz44_0 : w42.cell? ⟨gb186, 0, none⟩ = some (.int .i64 a1) := (blk_cell BK186.out 0).trans rfl; have hcz44_1 : w42.cell? ⟨gb186, 1, none⟩ = some (u187001) := (blk_cell BK186.out 1).trans rfl; have hfz44_0 := blk_frozen BK186.out 0; have hfz44_1 := blk_frozen BK186.out 1))
        go_roundg k1
        case measure => have := HK1.out; omega
        case rel => exact ⟨(wrap64 (x7_1 + 1)), (t198), (t199), (y203), (.slice Ao43 y203.length co43), zb_, H', ⟨zba_⟩, ⟨by refine zr ?_; exact Kd.R_mono (Kd.R_far (p := ⟨gb186, 1, none⟩) (Kd.R_types HO205.out BK186.out (by decide)) (fun _ hk => hk.2) (.slice Ao43 y203.length co43)) (fun _ hk => trivial)⟩, ⟨by refine zb ?_; refine blk_far ?_ NB185_186.out _; refine zb ?_; exact BK185.out⟩, ⟨zbba_⟩, ⟨zce_⟩, ⟨zdc_⟩, ⟨zde_⟩⟩
       ·rw [if_neg c37] at H
        exact absurd H (by simp)
    ·rw [if_neg c16] at H
     have c16b0 := decide_eq_false c16; clear c16
     simp only [Option.some.injEq, Prod.mk.injEq] at H
     obtain ⟨rfl, rfl, rfl, rfl⟩ := H; have hnb45 := NB186_185.out; have hnc45 := NB185_186.out; have hnb46 := NB186_0.out; have hnc46 := NB0_186.out; have hcz47_0 : wr.cell? ⟨gb186, 0, none⟩ = some (.int .i64 a1) := (blk_cell BK186.out 0).trans rfl; have hcz47_1 : wr.cell? ⟨gb186, 1, none⟩ = some (u187001) := (blk_cell BK186.out 1).trans rfl; have hfz47_0 := blk_frozen BK186.out 0; have hfz47_1 := blk_frozen BK186.out 1; have hnb48 := NB185_0.out; have hnc48 := NB0_185.out; have hcz49_0 : wr.cell? ⟨gb185, 0, none⟩ = some (.int .i64 0) := (blk_cell BK185.out 0).trans rfl; have hcz49_1 : wr.cell? ⟨gb185, 1, none⟩ = some (.slice none 0 0) := (blk_cell BK185.out 1).trans rfl; have hfz49_0 := blk_frozen BK185.out 0; have hfz49_1 := blk_frozen BK185.out 1; obtain ⟨Ao50, co50, eo50⟩ := Kd.R_slice HO_187001.out; subst eo50
     go_wp2
     refine bodyPost_ret (results_cell_row rfl _ _ gb185 60 #[.int .i64 a1, .slice Ao50 x187001_1.length co50] (0, 0) _ rfl (by refine zb ?_; refine blk_put (cs := #[.int .i64 a1, .slice none 0 0]) ?_ 1 _ rfl; refine zb ?_; refine blk_put (cs := #[.int .i64 0, .slice none 0 0]) ?_ 0 _ rfl; refine zb ?_; exact BK185.out) Try.underlying60 rfl (by kernel_rfl)) rfl ?_
     exact ⟨_, by first | rfl | (simp [errW_none, errW_some] <;> rfl) | (simp only [← hji13, ← hji15]; first | rfl | (simp [errW_none, errW_some] <;> rfl)) | (simp [*, errW_none, errW_some] <;> rfl), by refine zr ?_; exact Kd.R_mono (Kd.R_far (p := ⟨gb185, 1, none⟩) (Kd.R_far (p := ⟨gb185, 0, none⟩) (Kd.R_types HO_187001.out BK185.out (by decide)) (fun _ hk => hk.2) (.int .i64 a1)) (fun _ hk => hk.2) (.slice Ao50 x187001_1.length co50)) (fun _ hk => trivial), zce_, zde_, zdc_⟩
   ·rw [if_neg c14] at H
    exact absurd H (by simp)
end Go.Proofs.Ytbkighlfgaifeaa.QFnLeastSums
