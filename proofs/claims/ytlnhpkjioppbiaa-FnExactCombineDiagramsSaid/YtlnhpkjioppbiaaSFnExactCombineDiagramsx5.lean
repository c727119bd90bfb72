/- Functions of FnExactCombineDiagrams, each as a Lean function, with the proof that the Go code comes to its answers. -/
import Derived.Test.YtlnhpkjioppbiaaSFnExactCombineDiagramsx0
import Derived.Test.YtlnhpkjioppbiaaSFnExactCombineDiagramsx3
import Derived.Test.YtlnhpkjioppbiaaSFnExactCombineDiagramsx4
namespace Go.Proofs.Ytlnhpkjioppbiaa.QFnExactCombineDiagrams
open Go.RowKit Go.Proofs.YtlnhpkjioppbiaaW.PrintWords Go.Proofs.YtlnhpkjioppbiaaW.PrintLast Go.Proofs.YtlnhpkjioppbiaaW.PrintMore
open Go.Proofs.YtlnhpkjioppbiaaW.PrintWords renaming pw_below_drewN → pN, below_drew1 → p1, below_alloc → pA
open Go.Proofs.YtlnhpkjioppbiaaW.PrintWords.Kd renaming R_alloc → kA, R_drewN → kN, R_drew → kD, C_alloc → cA, C_drewN → cN, C_drew → cD
open Go.Proofs.YtlnhpkjioppbiaaW.PrintWords.Aside0 renaming mk → aM
open List renaming setIfInBounds_toArray → sI, set_cons_zero → s0, set_cons_succ → sS, map_toArray → mT, length_take → lT, length_drop → lD, map_cons → mC, map_nil → mN
open Option renaming bind_eq_some_iff → oB, bind_some → oS
attribute [local go_sem] max2_int min2_int max_two min_two max_three min_three max_four min_four
set_option maxHeartbeats 8000000
set_option maxRecDepth 100000
set_option linter.unusedVariables false
set_option linter.unusedSimpArgs false
mutual
def spec_CombineTables.j0 : Nat → Int → Bool → Int → List Int → Int → List Int → Option (Int × List Int × Bool)
 | 0, _, _, _, _, _, _ => none
 | k + 1, x0, x30, x146000, x146001, x147000, x147001 => if x30 = true then (some (0, ([] : List Int), false)) else (spec_CombineTables.l0 k x0 x146001 (x146001.length : Int) 0 x147000 x147001 x146000 ([] : List Int))
def spec_CombineTables.l0 : Nat → Int → List Int → Int → Int → Int → List Int → Int → List Int → Option (Int × List Int × Bool)
 | 0, _, _, _, _, _, _, _, _ => none
 | k + 1, x0, x36, x37, x38, x147000, x147001, x152000, x152001 => if x38 < x37 then (if 0 ≤ x38 then (if x38 < (x36.length : Int) then (if x38 < (x147001.length : Int) then ((spec_ttCombine.f x0 (rd x36 x38) (rd x147001 x38)).bind fun t154 => (if x152001.length < 17592186044416 then (spec_CombineTables.l0 k x0 x36 x37 (wrap64 (x38 + 1)) x147000 x147001 x152000 (x152001 ++ [t154])) else (none))) else (none)) else (none)) else (none)) else (some (x152000, x152001, true))
end
def spec_CombineTables.f (k : Nat) (a0 : Int) (a1_0 : Int) (l1_1 : List Int) (a2_0 : Int) (l2_1 : List Int) : Option (Int × List Int × Bool) := (spec_l1In.f a0 1 4).bind fun t148 => (if t148 = true then ((spec_ttGood.f k a1_0 l1_1).bind fun t149 => (if t149 = true then ((spec_ttGood.f k a2_0 l2_1).bind fun t150 => (if t150 = true then (spec_CombineTables.j0 k a0 (a1_0 != a2_0) a1_0 l1_1 a2_0 l2_1) else (spec_CombineTables.j0 k a0 true a1_0 l1_1 a2_0 l2_1))) else (spec_CombineTables.j0 k a0 true a1_0 l1_1 a2_0 l2_1))) else (spec_CombineTables.j0 k a0 true a1_0 l1_1 a2_0 l2_1))
theorem spec_CombineTables.mono_l : ∀ k, (∀ y0 y1 y2 y3 y4 y5, LeO (spec_CombineTables.j0 k y0 y1 y2 y3 y4 y5) (spec_CombineTables.j0 (k + 1) y0 y1 y2 y3 y4 y5)) ∧ (∀ y0 y1 y2 y3 y4 y5 y6 y7, LeO (spec_CombineTables.l0 k y0 y1 y2 y3 y4 y5 y6 y7) (spec_CombineTables.l0 (k + 1) y0 y1 y2 y3 y4 y5 y6 y7))
 | 0 => ⟨fun _ _ _ _ _ _ r h => by simp [spec_CombineTables.j0] at h, fun _ _ _ _ _ _ _ _ r h => by simp [spec_CombineTables.l0] at h⟩
 | k + 1 => by
  obtain ⟨ih0, ih1⟩ := spec_CombineTables.mono_l k
  refine ⟨?_, ?_⟩
  ·intro y0 y1 y2 y3 y4 y5
   unfold spec_CombineTables.j0
   repeat' first
   | (with_reducible exact ih0 _ _ _ _ _ _)
   | (with_reducible exact ih1 _ _ _ _ _ _ _ _)
   | (with_reducible exact spec_ttGood.mono _ _ _)
   | (with_reducible exact LeO.refl _)
   | (with_reducible exact LeO.none _)
   | (with_reducible refine LeO.ite ?_ ?_)
   | (with_reducible refine LeO.bind ?_ (fun _ => ?_))
   | exact ih0 _ _ _ _ _ _
   | exact ih1 _ _ _ _ _ _ _ _
   | exact spec_ttGood.mono _ _ _
   | exact LeO.none _
   | refine LeO.ite ?_ ?_
   | refine LeO.bind ?_ (fun _ => ?_)
  ·intro y0 y1 y2 y3 y4 y5 y6 y7
   unfold spec_CombineTables.l0
   repeat' first
   | (with_reducible exact ih0 _ _ _ _ _ _)
   | (with_reducible exact ih1 _ _ _ _ _ _ _ _)
   | (with_reducible exact spec_ttGood.mono _ _ _)
   | (with_reducible exact LeO.refl _)
   | (with_reducible exact LeO.none _)
   | (with_reducible refine LeO.ite ?_ ?_)
   | (with_reducible refine LeO.bind ?_ (fun _ => ?_))
   | exact ih0 _ _ _ _ _ _
   | exact ih1 _ _ _ _ _ _ _ _
   | exact spec_ttGood.mono _ _ _
   | exact LeO.none _
   | refine LeO.ite ?_ ?_
   | refine LeO.bind ?_ (fun _ => ?_)
theorem spec_CombineTables.mono : ∀ a0 a1 a2 a3 a4 k, LeO (spec_CombineTables.f k a0 a1 a2 a3 a4) (spec_CombineTables.f (k + 1) a0 a1 a2 a3 a4) := by
 intro a0 a1 a2 a3 a4 k
 obtain ⟨ih0, ih1⟩ := spec_CombineTables.mono_l k
 unfold spec_CombineTables.f
 repeat' first
   | (with_reducible exact ih0 _ _ _ _ _ _)
   | (with_reducible exact ih1 _ _ _ _ _ _ _ _)
   | (with_reducible exact spec_ttGood.mono _ _ _)
   | (with_reducible exact LeO.refl _)
   | (with_reducible exact LeO.none _)
   | (with_reducible refine LeO.ite ?_ ?_)
   | (with_reducible refine LeO.bind ?_ (fun _ => ?_))
   | exact ih0 _ _ _ _ _ _
   | exact ih1 _ _ _ _ _ _ _ _
   | exact spec_ttGood.mono _ _ _
   | exact LeO.none _
   | refine LeO.ite ?_ ?_
   | refine LeO.bind ?_ (fun _ => ?_)
def spec_CombineTables.T7 : Bool × List (List Nat × List Nat) := (true, [([], []), ([0], [0]), ([], []), ([], []), ([], []), ([4], [4]), ([], []), ([5, 6], [5, 6]), ([7], [7]), ([2, 3, 8], [2, 3, 8]), ([9], [9]), ([1, 10, 9], [1, 10]), ([0, 1, 2, 3, 4, 5, 6, 7, 8, 9, 10, 11], []), ([12, 11, 11, 0, 1, 2, 3, 4, 5, 6, 7, 8, 9, 10, 11], [11, 12])])
def spec_CombineTables.B7 : List Nat := [0, 1, 0, 0, 0, 16, 0, 112, 240, 508, 1020, 2047, 4095, 8191]
theorem spec_CombineTables.tab7 : rtab .any (opsOf Try.f52 7) = spec_CombineTables.T7 := by kernel_rfl
theorem spec_CombineTables.bits7 : waitsOk spec_CombineTables.T7.2 spec_CombineTables.B7 = true := by kernel_rfl
theorem spec_CombineTables.calls (k : Nat) (a0 : Int) (a1_0 : Int) (A1_1 : Option Addr) (c1_1 : Nat) (l1_1 : List Int) (a2_0 : Int) (A2_1 : Option Addr) (c2_1 : Nat) (l2_1 : List Int) (r1 : Int) (r2 : List Int) (r3 : Bool) (w : World) (hr1_1 : Kd.C (Kd.int .i64) w A1_1 l1_1.length l1_1) (hc1_1 : l1_1.length ≤ c1_1) (hr2_1 : Kd.C (Kd.int .i64) w A2_1 l2_1.length l2_1) (hc2_1 : l2_1.length ≤ c2_1) (h : spec_CombineTables.f k a0 a1_0 l1_1 a2_0 l2_1 = some (r1, r2, r3)) :
  Calls Try.prog 52 #[.int .i64 a0, .agg #[.int .i64 a1_0, .slice A1_1 l1_1.length c1_1], .agg #[.int .i64 a2_0, .slice A2_1 l2_1.length c2_1]] w fun e w' => ∃ v1_ : Value, e = .returned (.tuple #[.agg #[.int .i64 r1, v1_], .bool r3]) ∧ Kd.R (Kd.int .i64) 3 w' w.heap.size (fun _ => True) v1_ r2 ∧ Below w.heap.size w w' := by
 have hu41 := Try.underlying41
 have HR1_1 := aM hr1_1
 have HC1_1 := aM hc1_1
 clear hr1_1 hc1_1
 have HR2_1 := aM hr2_1
 have HC2_1 := aM hc2_1
 clear hr2_1 hc2_1
 have HB := aM (Below.refl w.heap.size w)
 have H : ((spec_l1In.f a0 1 4).bind fun t148 => (if t148 = true then ((spec_ttGood.f k a1_0 l1_1).bind fun t149 => (if t149 = true then ((spec_ttGood.f k a2_0 l2_1).bind fun t150 => (if t150 = true then (spec_CombineTables.j0 k a0 (a1_0 != a2_0) a1_0 l1_1 a2_0 l2_1) else (spec_CombineTables.j0 k a0 true a1_0 l1_1 a2_0 l2_1))) else (spec_CombineTables.j0 k a0 true a1_0 l1_1 a2_0 l2_1))) else (spec_CombineTables.j0 k a0 true a1_0 l1_1 a2_0 l2_1))) = some (r1, r2, r3) := h
 clear h
 have HC4 := aM H
 clear H
 go_enter Try.func52, Try.ntmps52
 go_upto_region 1 with (first | ((with_reducible refine gate_dst (N := 4) rfl ?_); refine box_event ?hg (N := 4) ?hd (cs := #[.int .i64 a1_0, .slice A1_1 l1_1.length c1_1]) (t := 41) ?hr ?_; (case hd => rfl); (case hg => rfl); (case hr => exact zb_); intro gb145 hg w5 hbox hb; have n_ := z (below_step za_ hb) <| z (hbox) <| z ((by rw [hg]; exact (below_size za_) : w.heap.size ≤ gb145)) <| z1 ((by rw [hg]; exact (below_size za_) : w.heap.size ≤ gb145)); clear HB; obtain ⟨HB, BK145, GW145, GE145⟩ := n_; clear hb hbox hg) | ((with_reducible refine gate_dst (N := 5) rfl ?_); refine box_event ?hg (N := 5) ?hd (cs := #[.int .i64 a2_0, .slice A2_1 l2_1.length c2_1]) (t := 41) ?hr ?_; (case hd => rfl); (case hg => rfl); (case hr => exact zb_); intro gb146 hg w6 hbox hb; have n_ := z (blk_below (zb BK145.out) hb) <| z (below_step zbag_ hb) <| z (hbox) <| z ((by rw [hg]; exact (below_size zbag_) : w.heap.size ≤ gb146)) <| z ((by rw [hg]; exact (below_size zbag_) : w.heap.size ≤ gb146)) <| z ((by rw [hg]; exact Nat.ne_of_lt (blk_lt (zb BK145.out)) : gb145 ≠ gb146)) <| z1 ((by rw [hg]; exact Nat.ne_of_gt (blk_lt (zb BK145.out)) : gb146 ≠ gb145)); clear BK145 HB; obtain ⟨BK145, HB, BK146, GW146, GE146, NB145_146, NB146_145⟩ := n_; clear hb hbox hg) | ((with_reducible refine gate_dst (N := 6) rfl ?_); refine box_event ?hg (N := 6) ?hd (cs := #[.int .i64 0, .slice none 0 0]) (t := 41) ?hr ?_; (case hd => rfl); (case hg => rfl); (case hr => exact zb_); intro gb147 hg w7 hbox hb; have n_ := z (blk_below (zb BK145.out) hb) <| z (blk_below (zb BK146.out) hb) <| z (below_step zbah_ hb) <| z (hbox) <| z ((by rw [hg]; exact (below_size zbah_) : w.heap.size ≤ gb147)) <| z ((by rw [hg]; exact (below_size zbah_) : w.heap.size ≤ gb147)) <| z ((by rw [hg]; exact Nat.ne_of_lt (blk_lt (zb BK145.out)) : gb145 ≠ gb147)) <| z ((by rw [hg]; exact Nat.ne_of_gt (blk_lt (zb BK145.out)) : gb147 ≠ gb145)) <| z ((by rw [hg]; exact Nat.ne_of_lt (blk_lt (zb BK146.out)) : gb146 ≠ gb147)) <| z1 ((by rw [hg]; exact Nat.ne_of_gt (blk_lt (zb BK146.out)) : gb147 ≠ gb146)); clear BK145 BK146 HB; obtain ⟨BK145, BK146, HB, BK147, GW147, GE147, NB145_147, NB147_145, NB146_147, NB147_146⟩ := n_; clear hb hbox hg))
 (try simp only [Act.put, sI, s0, sS])
 go_cut [30] (fun v30 wc => ∃ (kq : Nat) (x30_3 : Bool), v30 = .bool x30_3 ∧ Aside0 (spec_CombineTables.j0 kq a0 x30_3 a1_0 l1_1 a2_0 l2_1 = some (r1, r2, r3)) ∧ Aside0 (kq ≤ k) ∧ Aside0 (wc.heap[gb145]? = some (.cells #[.int .i64 a1_0, (.slice A1_1 l1_1.length c1_1)] 41 (0, 0))) ∧ Aside0 (wc.heap[gb146]? = some (.cells #[.int .i64 a2_0, (.slice A2_1 l2_1.length c2_1)] 41 (0, 0))) ∧ Aside0 (wc.heap[gb147]? = some (.cells #[.int .i64 0, (.slice none 0 0)] 41 (0, 0))) ∧ Aside0 (Below w.heap.size w wc))
 case first =>
  have H := HC4.out; clear HC4; replace H := oB.mp H; obtain ⟨t148, A80, H⟩ := H; replace H : (if t148 = true then ((spec_ttGood.f k a1_0 l1_1).bind fun t149 => (if t149 = true then ((spec_ttGood.f k a2_0 l2_1).bind fun t150 => (if t150 = true then (spec_CombineTables.j0 k a0 (a1_0 != a2_0) a1_0 l1_1 a2_0 l2_1) else (spec_CombineTables.j0 k a0 true a1_0 l1_1 a2_0 l2_1))) else (spec_CombineTables.j0 k a0 true a1_0 l1_1 a2_0 l2_1))) else (spec_CombineTables.j0 k a0 true a1_0 l1_1 a2_0 l2_1)) = some (r1, r2, r3) := H; have A8 := aM A80; clear A80
  by_cases c9 : t148 = true
  ·subst c9
   have H1 : ((spec_ttGood.f k a1_0 l1_1).bind fun t149 => (if t149 = true then ((spec_ttGood.f k a2_0 l2_1).bind fun t150 => (if t150 = true then (spec_CombineTables.j0 k a0 (a1_0 != a2_0) a1_0 l1_1 a2_0 l2_1) else (spec_CombineTables.j0 k a0 true a1_0 l1_1 a2_0 l2_1))) else (spec_CombineTables.j0 k a0 true a1_0 l1_1 a2_0 l2_1))) = some (r1, r2, r3) := by rw [if_pos rfl] at H; exact H
   clear H; have H := H1; clear H1; replace H := oB.mp H; obtain ⟨t149, A100, H⟩ := H; replace H : (if t149 = true then ((spec_ttGood.f k a2_0 l2_1).bind fun t150 => (if t150 = true then (spec_CombineTables.j0 k a0 (a1_0 != a2_0) a1_0 l1_1 a2_0 l2_1) else (spec_CombineTables.j0 k a0 true a1_0 l1_1 a2_0 l2_1))) else (spec_CombineTables.j0 k a0 true a1_0 l1_1 a2_0 l2_1)) = some (r1, r2, r3) := H; have A10 := aM A100; clear A100
   by_cases c11 : t149 = true
   ·subst c11
    have H1 : ((spec_ttGood.f k a2_0 l2_1).bind fun t150 => (if t150 = true then (spec_CombineTables.j0 k a0 (a1_0 != a2_0) a1_0 l1_1 a2_0 l2_1) else (spec_CombineTables.j0 k a0 true a1_0 l1_1 a2_0 l2_1))) = some (r1, r2, r3) := by rw [if_pos rfl] at H; exact H
    clear H; have H := H1; clear H1; replace H := oB.mp H; obtain ⟨t150, A120, H⟩ := H; replace H : (if t150 = true then (spec_CombineTables.j0 k a0 (a1_0 != a2_0) a1_0 l1_1 a2_0 l2_1) else (spec_CombineTables.j0 k a0 true a1_0 l1_1 a2_0 l2_1)) = some (r1, r2, r3) := H; have A12 := aM A120; clear A120
    by_cases c13 : t150 = true
    ·subst c13
     have H1 : (spec_CombineTables.j0 k a0 (a1_0 != a2_0) a1_0 l1_1 a2_0 l2_1) = some (r1, r2, r3) := by rw [if_pos rfl] at H; exact H
     clear H; have H := H1; clear H1; have H' := aM H; clear H
     go_wp2_with (first | ((with_reducible refine gate_callee (f := 101) rfl ?_); refine goesL_ (some 12) rfl rfl Try.func101 (by kernel_rfl) rfl #[.int .i64 a0, .int .i64 1, .int .i64 4] rfl zd_ ?_; (with_reducible refine (spec_l1In.calls a0 1 4 true _ A8.out).mono ?_); rintro e w' ⟨rfl, ⟨nd, rfl⟩⟩; refine ⟨_, rfl, ?_⟩; have hnb14 := NB145_146.out; have hnc14 := NB146_145.out; have hnb15 := NB145_147.out; have hnc15 := NB147_145.out; have hcz16_0 : w7.cell? ⟨gb145, 0, none⟩ = some (.int .i64 a1_0) := (blk_cell BK145.out 0).trans rfl; have hcz16_1 : w7.cell? ⟨gb145, 1, none⟩ = some (.slice A1_1 l1_1.length c1_1) := (blk_cell BK145.out 1).trans rfl; have hfz16_0 := blk_frozen BK145.out 0; have hfz16_1 := blk_frozen BK145.out 1) | (go_at_call 76; (with_reducible refine (spec_ttGood.calls k a1_0 _ _ l1_1 true _ ?side1 ?side2 A10.out).mono ?_); (case side1 => exact zbai_); (case side2 => exact HC1_1.out); rintro e w17 ⟨rfl, hb⟩; have n_ := z (blk_below (zb BK145.out) hb) <| z (blk_below (zb BK146.out) hb) <| z (blk_below (zb BK147.out) hb) <| z1 (below_step zda_ hb); clear BK145 BK146 BK147 HB; obtain ⟨BK145, BK146, BK147, HB⟩ := n_; clear hb; have hnb18 := NB146_147.out; have hnc18 := NB147_146.out; have hcz19_0 : w17.cell? ⟨gb146, 0, none⟩ = some (.int .i64 a2_0) := (blk_cell BK146.out 0).trans rfl; have hcz19_1 : w17.cell? ⟨gb146, 1, none⟩ = some (.slice A2_1 l2_1.length c2_1) := (blk_cell BK146.out 1).trans rfl; have hfz19_0 := blk_frozen BK146.out 0; have hfz19_1 := blk_frozen BK146.out 1) | (go_at_call 76; (with_reducible refine (spec_ttGood.calls k a2_0 _ _ l2_1 true _ ?side1 ?side2 A12.out).mono ?_); (case side1 => exact zba_); (case side2 => exact HC2_1.out); rintro e w20 ⟨rfl, hb⟩; have n_ := z (blk_below (zb BK145.out) hb) <| z (blk_below (zb BK146.out) hb) <| z (blk_below (zb BK147.out) hb) <| z1 (below_step zda_ hb); clear BK145 BK146 BK147 HB; obtain ⟨BK145, BK146, BK147, HB⟩ := n_; clear hb; have hcz21_0 : w20.cell? ⟨gb145, 0, none⟩ = some (.int .i64 a1_0) := (blk_cell BK145.out 0).trans rfl; have hcz21_1 : w20.cell? ⟨gb145, 1, none⟩ = some (.slice A1_1 l1_1.length c1_1) := (blk_cell BK145.out 1).trans rfl; have hfz21_0 := blk_frozen BK145.out 0; have hfz21_1 := blk_frozen BK145.out 1; have hcz22_0 : w20.cell? ⟨gb146, 0, none⟩ = some (.int .i64 a2_0) := (blk_cell BK146.out 0).trans rfl; have hcz22_1 : w20.cell? ⟨gb146, 1, none⟩ = some (.slice A2_1 l2_1.length c2_1) := (blk_cell BK146.out 1).trans rfl; have hfz22_0 := blk_frozen BK146.out 0; have hfz22_1 := blk_frozen BK146.out 1))
     go_meet
     case rel => exact ⟨_, ((a1_0 != a2_0)), ze_, H', ⟨zbh_⟩, ⟨zb BK145.out⟩, ⟨zb BK146.out⟩, ⟨zb BK147.out⟩, ⟨zda_⟩⟩
    ·replace c13 := Bool.eq_false_iff.mpr c13
     subst c13; have H1 : (spec_CombineTables.j0 k a0 true a1_0 l1_1 a2_0 l2_1) = some (r1, r2, r3) := by rw [if_neg (show ¬ (false = true) by decide)] at H; exact H
     clear H; have H := H1; clear H1; have H' := aM H; clear H
     go_wp2_with (first | ((with_reducible refine gate_callee (f := 101) rfl ?_); refine goesL_ (some 12) rfl rfl Try.func101 (by kernel_rfl) rfl #[.int .i64 a0, .int .i64 1, .int .i64 4] rfl zd_ ?_; (with_reducible refine (spec_l1In.calls a0 1 4 true _ A8.out).mono ?_); rintro e w' ⟨rfl, ⟨nd, rfl⟩⟩; refine ⟨_, rfl, ?_⟩; have hnb23 := NB145_146.out; have hnc23 := NB146_145.out; have hnb24 := NB145_147.out; have hnc24 := NB147_145.out; have hcz25_0 : w7.cell? ⟨gb145, 0, none⟩ = some (.int .i64 a1_0) := (blk_cell BK145.out 0).trans rfl; have hcz25_1 : w7.cell? ⟨gb145, 1, none⟩ = some (.slice A1_1 l1_1.length c1_1) := (blk_cell BK145.out 1).trans rfl; have hfz25_0 := blk_frozen BK145.out 0; have hfz25_1 := blk_frozen BK145.out 1) | (go_at_call 76; (with_reducible refine (spec_ttGood.calls k a1_0 _ _ l1_1 true _ ?side1 ?side2 A10.out).mono ?_); (case side1 => exact zbai_); (case side2 => exact HC1_1.out); rintro e w26 ⟨rfl, hb⟩; have n_ := z (blk_below (zb BK145.out) hb) <| z (blk_below (zb BK146.out) hb) <| z (blk_below (zb BK147.out) hb) <| z1 (below_step zda_ hb); clear BK145 BK146 BK147 HB; obtain ⟨BK145, BK146, BK147, HB⟩ := n_; clear hb; have hnb27 := NB146_147.out; have hnc27 := NB147_146.out; have hcz28_0 : w26.cell? ⟨gb146, 0, none⟩ = some (.int .i64 a2_0) := (blk_cell BK146.out 0).trans rfl; have hcz28_1 : w26.cell? ⟨gb146, 1, none⟩ = some (.slice A2_1 l2_1.length c2_1) := (blk_cell BK146.out 1).trans rfl; have hfz28_0 := blk_frozen BK146.out 0; have hfz28_1 := blk_frozen BK146.out 1) | (go_at_call 76; (with_reducible refine (spec_ttGood.calls k a2_0 _ _ l2_1 false _ ?side1 ?side2 A12.out).mono ?_); (case side1 => exact zba_); (case side2 => exact HC2_1.out); rintro e w29 ⟨rfl, hb⟩; have n_ := z (blk_below (zb BK145.out) hb) <| z (blk_below (zb BK146.out) hb) <| z (blk_below (zb BK147.out) hb) <| z1 (below_step zda_ hb); clear BK145 BK146 BK147 HB; obtain ⟨BK145, BK146, BK147, HB⟩ := n_; clear hb))
     go_meet
     case rel => exact ⟨_, (true), ze_, H', ⟨zbh_⟩, ⟨zb BK145.out⟩, ⟨zb BK146.out⟩, ⟨zb BK147.out⟩, ⟨zda_⟩⟩
   ·replace c11 := Bool.eq_false_iff.mpr c11
    subst c11; have H1 : (spec_CombineTables.j0 k a0 true a1_0 l1_1 a2_0 l2_1) = some (r1, r2, r3) := by rw [if_neg (show ¬ (false = true) by decide)] at H; exact H
    clear H; have H := H1; clear H1; have H' := aM H; clear H
    go_wp2_with (first | ((with_reducible refine gate_callee (f := 101) rfl ?_); refine goesL_ (some 12) rfl rfl Try.func101 (by kernel_rfl) rfl #[.int .i64 a0, .int .i64 1, .int .i64 4] rfl zd_ ?_; (with_reducible refine (spec_l1In.calls a0 1 4 true _ A8.out).mono ?_); rintro e w' ⟨rfl, ⟨nd, rfl⟩⟩; refine ⟨_, rfl, ?_⟩; have hnb30 := NB145_146.out; have hnc30 := NB146_145.out; have hnb31 := NB145_147.out; have hnc31 := NB147_145.out; have hcz32_0 : w7.cell? ⟨gb145, 0, none⟩ = some (.int .i64 a1_0) := (blk_cell BK145.out 0).trans rfl; have hcz32_1 : w7.cell? ⟨gb145, 1, none⟩ = some (.slice A1_1 l1_1.length c1_1) := (blk_cell BK145.out 1).trans rfl; have hfz32_0 := blk_frozen BK145.out 0; have hfz32_1 := blk_frozen BK145.out 1) | (go_at_call 76; (with_reducible refine (spec_ttGood.calls k a1_0 _ _ l1_1 false _ ?side1 ?side2 A10.out).mono ?_); (case side1 => exact zbai_); (case side2 => exact HC1_1.out); rintro e w33 ⟨rfl, hb⟩; have n_ := z (blk_below (zb BK145.out) hb) <| z (blk_below (zb BK146.out) hb) <| z (blk_below (zb BK147.out) hb) <| z1 (below_step zda_ hb); clear BK145 BK146 BK147 HB; obtain ⟨BK145, BK146, BK147, HB⟩ := n_; clear hb))
    go_meet
    case rel => exact ⟨_, (true), ze_, H', ⟨zbh_⟩, ⟨zb BK145.out⟩, ⟨zb BK146.out⟩, ⟨zb BK147.out⟩, ⟨zda_⟩⟩
  ·replace c9 := Bool.eq_false_iff.mpr c9
   subst c9; have H1 : (spec_CombineTables.j0 k a0 true a1_0 l1_1 a2_0 l2_1) = some (r1, r2, r3) := by rw [if_neg (show ¬ (false = true) by decide)] at H; exact H
   clear H; have H := H1; clear H1; have H' := aM H; clear H
   go_wp2_with (first | ((with_reducible refine gate_callee (f := 101) rfl ?_); refine goesL_ (some 12) rfl rfl Try.func101 (by kernel_rfl) rfl #[.int .i64 a0, .int .i64 1, .int .i64 4] rfl zd_ ?_; (with_reducible refine (spec_l1In.calls a0 1 4 false _ A8.out).mono ?_); rintro e w' ⟨rfl, ⟨nd, rfl⟩⟩; refine ⟨_, rfl, ?_⟩))
   go_meet
   case rel => exact ⟨_, (true), ze_, H', ⟨zbh_⟩, ⟨zb BK145.out⟩, ⟨zb BK146.out⟩, ⟨zb BK147.out⟩, ⟨zda_⟩⟩
 case rest =>
  clear HC4; obtain ⟨kq, x30_3, rfl, HA, HJ3, BK145, BK146, BK147, HB⟩ := hcut
  cases kq with
  | zero => exact absurd HA.out (by simp [spec_CombineTables.j0])
  | succ kj3 =>
   have H := HA.out; clear HA
   simp only [spec_CombineTables.j0] at H
   by_cases c34 : x30_3 = true
   ·subst c34
    have H1 : (some (0, ([] : List Int), false)) = some (r1, r2, r3) := by rw [if_pos rfl] at H; exact H
    clear H; have H := H1; clear H1
    simp only [Option.some.injEq, Prod.mk.injEq] at H
    obtain ⟨rfl, rfl, rfl⟩ := H; have hnb35 := NB147_145.out; have hnc35 := NB145_147.out; have hnb36 := NB147_146.out; have hnc36 := NB146_147.out; have hcz37_0 : wc.cell? ⟨gb147, 0, none⟩ = some (.int .i64 0) := (blk_cell BK147.out 0).trans rfl; have hcz37_1 : wc.cell? ⟨gb147, 1, none⟩ = some (.slice none 0 0) := (blk_cell BK147.out 1).trans rfl; have hfz37_0 := blk_frozen BK147.out 0; have hfz37_1 := blk_frozen BK147.out 1
    go_wp2
    refine bodyPost_ret (results_ct rfl _ _ gb147 41 #[.int .i64 0, .slice none 0 0] (0, 0) _ rfl (by refine zb ?_; refine blk_put (cs := #[.int .i64 0, .slice none 0 0]) ?_ 1 _ rfl; refine zb ?_; refine blk_put (cs := #[.int .i64 0, .slice none 0 0]) ?_ 0 _ rfl; refine zb ?_; exact BK147.out) Try.underlying41 rfl (by kernel_rfl)) rfl ?_
    exact ⟨_, zf_, zdg_, zda_⟩
   ·replace c34 := Bool.eq_false_iff.mpr c34
    subst c34; have H1 : (spec_CombineTables.l0 kj3 a0 l1_1 (l1_1.length : Int) 0 a2_0 l2_1 a1_0 ([] : List Int)) = some (r1, r2, r3) := by rw [if_neg (show ¬ (false = true) by decide)] at H; exact H
    clear H; have H := H1; clear H1; have H' := aM H; clear H; have hnb38 := NB145_146.out; have hnc38 := NB146_145.out; have hnb39 := NB145_147.out; have hnc39 := NB147_145.out; have hcz40_0 : wc.cell? ⟨gb145, 0, none⟩ = some (.int .i64 a1_0) := (blk_cell BK145.out 0).trans rfl; have hcz40_1 : wc.cell? ⟨gb145, 1, none⟩ = some (.slice A1_1 l1_1.length c1_1) := (blk_cell BK145.out 1).trans rfl; have hfz40_0 := blk_frozen BK145.out 0; have hfz40_1 := blk_frozen BK145.out 1
    go_wp2_with (first | ((with_reducible refine gate_dst (N := 8) rfl ?_); refine box_event ?hg (N := 8) ?hd (cs := #[.int .i64 0, .slice none 0 0]) (t := 41) ?hr ?_; (case hd => rfl); (case hg => rfl); (case hr => exact zb_); intro gb151 hg w41 hbox hb; have n_ := z (blk_below (zb BK145.out) hb) <| z (blk_below (zb BK146.out) hb) <| z (blk_below (zb BK147.out) hb) <| z (below_step zda_ hb) <| z (hbox) <| z ((by rw [hg]; exact (below_size zda_) : w.heap.size ≤ gb151)) <| z ((by rw [hg]; exact (below_size zda_) : w.heap.size ≤ gb151)) <| z ((by rw [hg]; exact Nat.ne_of_lt (blk_lt (zb BK145.out)) : gb145 ≠ gb151)) <| z ((by rw [hg]; exact Nat.ne_of_gt (blk_lt (zb BK145.out)) : gb151 ≠ gb145)) <| z ((by rw [hg]; exact Nat.ne_of_lt (blk_lt (zb BK146.out)) : gb146 ≠ gb151)) <| z ((by rw [hg]; exact Nat.ne_of_gt (blk_lt (zb BK146.out)) : gb151 ≠ gb146)) <| z ((by rw [hg]; exact Nat.ne_of_lt (blk_lt (zb BK147.out)) : gb147 ≠ gb151)) <| z1 ((by rw [hg]; exact Nat.ne_of_gt (blk_lt (zb BK147.out)) : gb151 ≠ gb147)); clear BK145 BK146 BK147 HB; obtain ⟨BK145, BK146, BK147, HB, BK151, GW151, GE151, NB145_151, NB151_145, NB146_151, NB151_146, NB147_151, NB151_147⟩ := n_; clear hb hbox hg; have hnb42 := NB151_145.out; have hnc42 := NB145_151.out; have hnb43 := NB151_146.out; have hnc43 := NB146_151.out; have hnb44 := NB151_147.out; have hnc44 := NB147_151.out; have hcz45_0 : w41.cell? ⟨gb151, 0, none⟩ = some (.int .i64 0) := (blk_cell BK151.out 0).trans rfl; have hcz45_1 : w41.cell? ⟨gb151, 1, none⟩ = some (.slice none 0 0) := (blk_cell BK151.out 1).trans rfl; have hfz45_0 := blk_frozen BK151.out 0; have hfz45_1 := blk_frozen BK151.out 1; have hcz46_0 : w41.cell? ⟨gb145, 0, none⟩ = some (.int .i64 a1_0) := (blk_cell BK145.out 0).trans rfl; have hcz46_1 : w41.cell? ⟨gb145, 1, none⟩ = some (.slice A1_1 l1_1.length c1_1) := (blk_cell BK145.out 1).trans rfl; have hfz46_0 := blk_frozen BK145.out 0; have hfz46_1 := blk_frozen BK145.out 1))
    go_loopg [38] kj3 (fun kq v38 w' => ∃ (x38_2 : Int) (x152001_2 : List Int) (u152001 : Value), v38 = .int .i64 x38_2 ∧ Aside0 (spec_CombineTables.l0 kq a0 l1_1 (l1_1.length : Int) x38_2 a2_0 l2_1 a1_0 x152001_2 = some (r1, r2, r3)) ∧ Aside0 (kq ≤ kj3) ∧ Aside0 (Kd.R (Kd.int .i64) 3 w' w.heap.size (fun _ => True) u152001 x152001_2) ∧ Aside0 (w'.heap[gb145]? = some (.cells #[.int .i64 a1_0, (.slice A1_1 l1_1.length c1_1)] 41 (0, 0))) ∧ Aside0 (w'.heap[gb146]? = some (.cells #[.int .i64 a2_0, (.slice A2_1 l2_1.length c2_1)] 41 (0, 0))) ∧ Aside0 (w'.heap[gb147]? = some (.cells #[.int .i64 0, (.slice none 0 0)] 41 (0, 0))) ∧ Aside0 (w'.heap[gb151]? = some (.cells #[.int .i64 a1_0, u152001] 41 (0, 0))) ∧ Aside0 (Below w.heap.size w w'))
    case atStart => exact ⟨(0), (([] : List Int)), (.slice none 0 0), ze_, H', ⟨Nat.le_refl _⟩, ⟨zdg_⟩, ⟨by refine zb ?_; refine blk_far ?_ NB145_151.out _; refine zb ?_; refine blk_far ?_ NB145_151.out _; refine zb ?_; exact BK145.out⟩, ⟨by refine zb ?_; refine blk_far ?_ NB146_151.out _; refine zb ?_; refine blk_far ?_ NB146_151.out _; refine zb ?_; exact BK146.out⟩, ⟨by refine zb ?_; refine blk_far ?_ NB147_151.out _; refine zb ?_; refine blk_far ?_ NB147_151.out _; refine zb ?_; exact BK147.out⟩, ⟨by refine zb ?_; refine blk_put (cs := #[.int .i64 a1_0, .slice none 0 0]) ?_ 1 _ rfl; refine zb ?_; refine blk_put (cs := #[.int .i64 0, .slice none 0 0]) ?_ 0 _ rfl; refine zb ?_; exact BK151.out⟩, ⟨zgj_⟩⟩
    case round =>
     clear H'; (try clear hcz40_0); (try clear hcz40_1); (try clear hcz45_0); (try clear hcz45_1); (try clear hcz46_0); (try clear hcz46_1); (try clear hfz40_0); (try clear hfz40_1); (try clear hfz45_0); (try clear hfz45_1); (try clear hfz46_0); (try clear hfz46_1); obtain ⟨x38_2, x152001_2, u152001, rfl, HA, HK2, HO_152001, BK145, BK146, BK147, BK151, HB⟩ := hrel
     cases gk with
     | zero => exact absurd HA.out (by simp [spec_CombineTables.l0])
     | succ k2 =>
      have H := HA.out; clear HA
      simp only [spec_CombineTables.l0] at H
      by_cases c47 : x38_2 < (l1_1.length : Int)
      ·rw [if_pos c47] at H
       have c47b0 := decide_eq_true c47; clear c47
       by_cases c48 : 0 ≤ x38_2
       ·rw [if_pos c48] at H
        have c48b0 := decide_eq_true c48; clear c48
        by_cases c49 : x38_2 < (l1_1.length : Int)
        ·rw [if_pos c49] at H
         have c49b0 := decide_eq_true c49; clear c49
         by_cases c50 : x38_2 < (l2_1.length : Int)
         ·rw [if_pos c50] at H
          have c50b0 := decide_eq_true c50; clear c50; replace H := oB.mp H; obtain ⟨t154, A510, H⟩ := H; replace H : (if x152001_2.length < 17592186044416 then (spec_CombineTables.l0 k2 a0 l1_1 (l1_1.length : Int) (wrap64 (x38_2 + 1)) a2_0 l2_1 a1_0 (x152001_2 ++ [t154])) else (none)) = some (r1, r2, r3) := H; have A51 := aM A510; clear A510
          by_cases c52 : x152001_2.length < 17592186044416
          ·rw [if_pos c52] at H
           have LMc52 := aM c52; clear c52; obtain ⟨y155, hy155⟩ : ∃ y_ : List Int, y_ = (x152001_2 ++ [t154]) := ⟨_, rfl⟩; replace H : (spec_CombineTables.l0 k2 a0 l1_1 (l1_1.length : Int) (wrap64 (x38_2 + 1)) a2_0 l2_1 a1_0 y155) = some (r1, r2, r3) := by first | (rw [hy155]; with_reducible exact H) | (have H2_ := (oS _ _).symm.trans H; rw [hy155]; with_reducible exact H2_) | (have H2_ := (oS _ _).symm.trans H; with_reducible exact H2_) | with_reducible exact H | (rw [hy155]; exact H) | exact H
           have Ny155 := aM hy155; clear hy155; have H' := aM H; clear H; have p152 : 0 ≤ (x38_2 : Int) := of_decide_eq_true zc_; have q152 : x38_2 < (l1_1.length : Int) := of_decide_eq_true zc_; obtain ⟨ad152, e152, hx152_0⟩ := Kd.at_int HR1_1.out x38_2 p152 q152
           cases e152
           (try (replace hx152_0 := (HB.out.cell (World.block_lt_of_cell? w _ hx152_0)).trans hx152_0)); replace p152 := eq_true p152; replace q152 := eq_true q152; (try go_wp2); have n_ := z (kD HO_152001.out) <| z (blk_drew BK145.out) <| z (blk_drew BK146.out) <| z (blk_drew BK147.out) <| z (blk_drew BK151.out) <| z1 (p1 HB.out)
           clear HO_152001 BK145 BK146 BK147 BK151 HB; obtain ⟨HO_152001, BK145, BK146, BK147, BK151, HB⟩ := n_; have p153 : 0 ≤ (x38_2 : Int) := of_decide_eq_true zc_; have q153 : x38_2 < (l2_1.length : Int) := of_decide_eq_true zc_; obtain ⟨ad153, e153, hx153_0⟩ := Kd.at_int HR2_1.out x38_2 p153 q153; have hw153_0 := hx153_0
           cases e153
           (try (replace hx153_0 := (HB.out.cell (World.block_lt_of_cell? w _ hx153_0)).trans hx153_0)); replace p153 := eq_true p153; replace q153 := eq_true q153
           refine start_ (n := 14) (S := fun w' => w'.cell? ⟨gb151, 0, none⟩ = some (.int .i64 a1_0) ∧ w'.cell? ⟨gb151, 1, none⟩ = some (u152001) ∧ w'.cell? ⟨gb146, 0, none⟩ = some (.int .i64 a2_0) ∧ w'.cell? ⟨gb146, 1, none⟩ = some (.slice (some ad153) l2_1.length c2_1) ∧ w'.cell? (ad153.add (x38_2).toNat) = some (.int .i64 (rd l2_1 x38_2))) (ds := [13]) #[fi,fi,fi,fi,fi,fi,fi,fi,fi,fi,fi,fi,fi,fi] (by kernel_rfl) rfl rfl ⟨(blk_cell BK151.out 0).trans rfl, (blk_cell BK151.out 1).trans rfl, (blk_cell BK146.out 0).trans rfl, (blk_cell BK146.out 1).trans rfl, ((HB.out.cell (World.block_lt_of_cell? w _ hw153_0)).trans hw153_0)⟩ (fun hHeld => ?_); refine with_tabW spec_CombineTables.tab7 spec_CombineTables.bits7 (fun HT_ HW_ => ?_)
           generalize wr.drew = w53 at HO_152001 BK145 BK146 BK147 BK151 HB hx153_0 hHeld ⊢; refine py_ 0 43 HT_.out ?_; refine py_ 2 45 HT_.out ?_; refine py_ 3 46 HT_.out ?_; refine py_ 4 47 HT_.out ?_; refine py_ 6 49 HT_.out ?_
           refine take_ (i := 1) (N := some 44) (v := ?_) (a' := ?_) #[ti,ti,ti,ti,ti,fi,ti,fi,fi,fi,fi,fi,fi,fi] rfl rfl (take_ofW HT_.out HW_.out (by kernel_rfl)) (fun _ _ _ h => h) (Or.inl ⟨by rfl, ?_⟩) hHeld ?_ ?_
           rotate_left
           ·rintro w' ⟨s0, s1, s2, s3, s4⟩
            go_simp
            with_reducible rfl
           rotate_left
           ·simp only [Act.put, sI, s0, sS, i64_w, i32_w]
            rfl
           refine take_ (i := 5) (N := some 48) (v := ?_) (a' := ?_) #[ti,ti,ti,ti,ti,ti,ti,fi,fi,fi,fi,fi,fi,fi] rfl rfl (take_ofW HT_.out HW_.out (by kernel_rfl)) (fun _ _ _ h => h) (Or.inl ⟨by rfl, ?_⟩) hHeld ?_ ?_
           rotate_left
           ·rintro w' ⟨s0, s1, s2, s3, s4⟩
            go_simp
            with_reducible rfl
           rotate_left
           ·simp only [Act.put, sI, s0, sS, i64_w, i32_w]
            rfl
           refine py_ 7 50 HT_.out ?_
           refine take_ (i := 8) (N := some 51) (v := ?_) (a' := ?_) #[ti,ti,ti,ti,ti,ti,ti,ti,ti,fi,fi,fi,fi,fi] rfl rfl (take_ofW HT_.out HW_.out (by kernel_rfl)) (fun _ _ _ h => h) (Or.inl ⟨by rfl, ?_⟩) hHeld ?_ ?_
           rotate_left
           ·rintro w' ⟨s0, s1, s2, s3, s4⟩
            go_simp
            with_reducible rfl
           rotate_left
           ·simp only [Act.put, sI, s0, sS, i64_w, i32_w]
            rfl
           refine one_ (i := 9) (N := some 52) #[ti,ti,ti,ti,ti,ti,ti,ti,ti,ti,fi,fi,fi,fi] rfl rfl (one_of HT_.out (by kernel_rfl)) (by decide) (fun K hK => ?_)
           refine goes_ Try.func103 (by kernel_rfl) rfl #[.int .i64 a0, .int .i64 (rd l1_1 x38_2), .int .i64 (rd l2_1 x38_2)] (by rfl) rfl rfl zd_ ?_
           with_reducible refine (spec_ttCombine.calls a0 (rd l1_1 x38_2) (rd l2_1 x38_2) t154 _ A51.out).mono ?_
           rintro e w' ⟨rfl, ⟨nd, rfl⟩⟩
           refine ⟨_, rfl, ?_⟩
           refine hK.out _ _ ⟨(blk_cell BK151.out 0).trans rfl, (blk_cell BK151.out 1).trans rfl, (blk_cell BK146.out 0).trans rfl, (blk_cell BK146.out 1).trans rfl, ((HB.out.cell (World.block_lt_of_cell? w _ hw153_0)).trans hw153_0)⟩ (fun hHeld => ?_)
           clear hK K
           refine norm_ (a' := ?_) ?_ ?_
           rotate_left
           ·show Act.put _ (some 52) _ = _
            simp only [Act.put, sI, s0, sS, i64_w, i32_w]
            rfl
           refine one_ (i := 10) (N := some 53) #[ti,ti,ti,ti,ti,ti,ti,ti,ti,ti,ti,fi,fi,fi] rfl rfl (one_of HT_.out (by kernel_rfl)) (by decide) (fun K hK => ?_)
           refine value_ (w1 := ?_) (v := ?_) (by rfl) rfl ?_ ?_
           rotate_left 2
           ·go_simp
            constructor
            ·rfl
            ·rfl
           refine hK.out _ _ ⟨(blk_cell (blk_alloc BK151.out _) 0).trans rfl, (blk_cell (blk_alloc BK151.out _) 1).trans rfl, (blk_cell (blk_alloc BK146.out _) 0).trans rfl, (blk_cell (blk_alloc BK146.out _) 1).trans rfl, (World.cell?_alloc_lt _ _ _ (World.block_lt_of_cell? _ _ (((HB.out.cell (World.block_lt_of_cell? w _ hw153_0)).trans hw153_0)))).trans (((HB.out.cell (World.block_lt_of_cell? w _ hw153_0)).trans hw153_0))⟩ (fun hHeld => ?_)
           clear hK K
           refine norm_ (a' := ?_) ?_ ?_
           rotate_left
           ·show Act.put _ (some 53) _ = _
            simp only [Act.put, sI, s0, sS, i64_w, i32_w]
            rfl
           refine one_ (i := 11) (N := some 54) #[ti,ti,ti,ti,ti,ti,ti,ti,ti,ti,ti,ti,fi,fi] rfl rfl (one_of HT_.out (by kernel_rfl)) (by decide) (fun K hK => ?_)
           refine Kd.R_append_step (Kd.int .i64) (w0 := w) w.heap.size (by rfl) (.tmp 44) (.tmp 53) 39 3 (.int .i64 0) 8 rfl Try.underlying39 info3 rfl (by decide) (by omega) u152001 x152001_2 t154 [.int .i64 t154] (fun _ => True) (fun _ => False) rfl rfl ?aP (fun _ hk => hk.elim) ?aF ?aO ?aB ?aS ?aL ?_
           (case aP => exact rfl)
           (case aB => exact zgj_)
           (case aF => exact zcj_)
           (case aO => exact (zr HO_152001.out))
           (case aS => exact (below_size zgj_))
           (case aL => have := LMc52.out; omega)
           intro v156 w54 ho hb hg hat
           rw [← Ny155.out] at ho; have n_ := z (blk_grown (g := gb145) (o := .cells #[.int .i64 a1_0, .slice (some ad152) l1_1.length c1_1] 41 (0, 0)) (zb BK145.out) hg (Kd.R_ne HO_152001.out BK145.out (by decide))) <| z (blk_grown (g := gb146) (o := .cells #[.int .i64 a2_0, .slice (some ad153) l2_1.length c2_1] 41 (0, 0)) (zb BK146.out) hg (Kd.R_ne HO_152001.out BK146.out (by decide))) <| z (blk_grown (g := gb147) (o := .cells #[.int .i64 0, .slice none 0 0] 41 (0, 0)) (zb BK147.out) hg (Kd.R_ne HO_152001.out BK147.out (by decide))) <| z (blk_grown (g := gb151) (o := .cells #[.int .i64 a1_0, u152001] 41 (0, 0)) (zb BK151.out) hg (Kd.R_ne HO_152001.out BK151.out (by decide))) <| z (hb) <| z1 (ho)
           clear BK145 BK146 BK147 BK151 HB HO_152001; obtain ⟨BK145, BK146, BK147, BK151, HB, HO157⟩ := n_; clear ho hb hg hat; obtain ⟨Ao55, co55, eo55⟩ := Kd.R_slice HO157.out; (first | subst eo55 | (injection eo55 with f1_ f2_ f3_; have f4_ := f1_.symm; have f5_ := f3_.symm; clear f1_ f2_ f3_; subst f4_; subst f5_))
           refine hK.out _ _ ⟨(blk_cell BK151.out 0).trans rfl, (blk_cell BK151.out 1).trans rfl, (blk_cell BK146.out 0).trans rfl, (blk_cell BK146.out 1).trans rfl, ((HB.out.cell (World.block_lt_of_cell? w _ hw153_0)).trans hw153_0)⟩ (fun hHeld => ?_)
           clear hK K
           refine norm_ (a' := ?_) ?_ ?_
           rotate_left
           ·show Act.put _ (some 54) _ = _
            simp only [Act.put, sI, s0, sS, i64_w, i32_w]
            rfl
           refine py_ 12 55 HT_.out ?_
           refine last_ (i := 13) (N := none) #[ti,ti,ti,ti,ti,ti,ti,ti,ti,ti,ti,ti,ti,ti] rfl rfl (one_of HT_.out (by kernel_rfl)) (by decide) (fun K hK => ?_)
           have hs56 : w54.cell? ⟨gb151, 1, none⟩ = some (u152001) := (blk_cell BK151.out 1).trans rfl; have hfs56 := blk_frozen BK151.out 1; have hns56_0 := NB145_151.out; have hns56_1 := NB146_151.out; have hns56_2 := NB147_151.out; have hms56_0 := NB151_145.out; have hms56_1 := NB151_146.out; have hms56_2 := NB151_147.out
           refine skip_ (w1 := ?_) (by rfl) rfl ?_ ?_
           rotate_left
           ·go_simp
            rfl
           refine hK.out _ _ ?_
           clear hK K
           refine done_ (done_of HT_.out (by kernel_rfl)) ?_
           (try go_wp2)
           go_roundg k2
           case measure => have := HJ3.out; have := HK2.out; omega
           case rel => exact ⟨(wrap64 (x38_2 + 1)), (y155), (.slice Ao55 y155.length co55), ze_, H', ⟨zha_⟩, ⟨by refine zr ?_; exact Kd.R_mono (Kd.R_far (p := ⟨gb151, 1, none⟩) (Kd.R_types HO157.out BK151.out (by decide)) (fun _ hk => hk.2) (.slice Ao55 y155.length co55)) (fun _ hk => trivial)⟩, ⟨by refine zb ?_; refine blk_far ?_ NB145_151.out _; refine zb ?_; exact BK145.out⟩, ⟨by refine zb ?_; refine blk_far ?_ NB146_151.out _; refine zb ?_; exact BK146.out⟩, ⟨by refine zb ?_; refine blk_far ?_ NB147_151.out _; refine zb ?_; exact BK147.out⟩, ⟨by refine zb ?_; refine blk_put (cs := #[.int .i64 a1_0, u152001]) ?_ 1 _ rfl; refine zb ?_; exact BK151.out⟩, ⟨zgj_⟩⟩
          ·rw [if_neg c52] at H
           exact absurd H (by simp)
         ·rw [if_neg c50] at H
          exact absurd H (by simp)
        ·rw [if_neg c49] at H
         exact absurd H (by simp)
       ·rw [if_neg c48] at H
        exact absurd H (by simp)
      ·rw [if_neg c47] at H
       have c47b0 := decide_eq_false c47; clear c47
       simp only [Option.some.injEq, Prod.mk.injEq] at H
       obtain ⟨rfl, rfl, rfl⟩ := H; have hnb57 := NB151_145.out; have hnc57 := NB145_151.out; have hnb58 := NB151_146.out; have hnc58 := NB146_151.out; have hnb59 := NB151_147.out; have hnc59 := NB147_151.out; have hcz60_0 : wr.cell? ⟨gb151, 0, none⟩ = some (.int .i64 a1_0) := (blk_cell BK151.out 0).trans rfl; have hcz60_1 : wr.cell? ⟨gb151, 1, none⟩ = some (u152001) := (blk_cell BK151.out 1).trans rfl; have hfz60_0 := blk_frozen BK151.out 0; have hfz60_1 := blk_frozen BK151.out 1; have hnb61 := NB147_145.out; have hnc61 := NB145_147.out; have hnb62 := NB147_146.out; have hnc62 := NB146_147.out; have hcz63_0 : wr.cell? ⟨gb147, 0, none⟩ = some (.int .i64 0) := (blk_cell BK147.out 0).trans rfl; have hcz63_1 : wr.cell? ⟨gb147, 1, none⟩ = some (.slice none 0 0) := (blk_cell BK147.out 1).trans rfl; have hfz63_0 := blk_frozen BK147.out 0; have hfz63_1 := blk_frozen BK147.out 1; obtain ⟨Ao64, co64, eo64⟩ := Kd.R_slice HO_152001.out; subst eo64
       go_wp2
       refine bodyPost_ret (results_ct rfl _ _ gb147 41 #[.int .i64 a1_0, .slice Ao64 x152001_2.length co64] (0, 0) _ rfl (by refine zb ?_; refine blk_put (cs := #[.int .i64 a1_0, .slice none 0 0]) ?_ 1 _ rfl; refine zb ?_; refine blk_put (cs := #[.int .i64 0, .slice none 0 0]) ?_ 0 _ rfl; refine zb ?_; exact BK147.out) Try.underlying41 rfl (by kernel_rfl)) rfl ?_
       exact ⟨_, zf_, by refine zr ?_; exact Kd.R_mono (Kd.R_far (p := ⟨gb147, 1, none⟩) (Kd.R_far (p := ⟨gb147, 0, none⟩) (Kd.R_types HO_152001.out BK147.out (by decide)) (fun _ hk => hk.2) (.int .i64 a1_0)) (fun _ hk => hk.2) (.slice Ao64 x152001_2.length co64)) (fun _ hk => trivial), zgj_⟩
end Go.Proofs.Ytlnhpkjioppbiaa.QFnExactCombineDiagrams
