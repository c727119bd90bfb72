/- Functions of FnExactCombineDiagrams, each as a Lean function, with the proof that the Go code comes to its answers. -/
import Derived.Test.YtlnhpkjioppbiaaSFnExactCombineDiagramsx0
import Derived.Test.YtlnhpkjioppbiaaSFnExactCombineDiagramsx2
import Derived.Test.YtlnhpkjioppbiaaSFnExactCombineDiagramsx3
import Derived.Test.YtlnhpkjioppbiaaSFnExactCombineDiagramsx4
import Derived.Test.YtlnhpkjioppbiaaSFnExactCombineDiagramsx5
namespace Go.Proofs.Ytlnhpkjioppbiaa.QFnExactCombineDiagrams
open Go.RowKit Go.Proofs.YtlnhpkjioppbiaaW.PrintWords Go.Proofs.YtlnhpkjioppbiaaW.PrintLast Go.Proofs.YtlnhpkjioppbiaaW.PrintMore
open Go.Proofs.YtlnhpkjioppbiaaW.PrintWords renaming pw_below_drewN → pN, below_drew1 → p1, below_alloc → pA
open Go.Proofs.YtlnhpkjioppbiaaW.PrintWords.Kd renaming R_alloc → kA, R_drewN → kN, R_drew → kD, C_alloc → cA, C_drewN → cN, C_drew → cD
open Go.Proofs.YtlnhpkjioppbiaaW.PrintWords.Aside0 renaming mk → aM
open List renaming setIfInBounds_toArray → sI, set_cons_zero → s0, set_cons_succ → sS, map_toArray → mT, length_take → lT, length_drop → lD, map_cons → mC, map_nil → mN
open Option renaming bind_eq_some_iff → oB
attribute [local go_sem] max2_int min2_int max_two min_two max_three min_three max_four min_four
set_option maxHeartbeats 8000000
set_option maxRecDepth 100000
set_option linter.unusedVariables false
set_option linter.unusedSimpArgs false
def spec_CombineDiagrams.j0 : Nat → Int → Bool → Int → List (S93) → Int → Int → List (S93) → Int → Option (Int × (List (S93)) × Int × Bool)
 | 0, _, _, _, _, _, _, _, _ => none
 | k + 1, x0, x17, x159000, x159001, x159002, x160000, x160001, x160002 => if x17 = true then (some (0, ([] : List (S93)), 0, false)) else ((spec_ddTable.f k x159000 x159001 x159002).bind fun bt163 => ((spec_ddTable.f k x160000 x160001 x160002).bind fun bt167 => ((spec_CombineTables.f k x0 bt163.1 bt163.2 bt167.1 bt167.2).bind fun bt171 => (if bt171.2.2 = true then ((spec_ddMake.f k bt171.1 bt171.2.1).bind fun bt177 => (some (bt177.1, bt177.2.1, bt177.2.2, true))) else (some (0, ([] : List (S93)), 0, false))))))
def spec_CombineDiagrams.f (k : Nat) (a0 : Int) (a1_0 : Int) (l1_1 : List (S93)) (a1_2 : Int) (a2_0 : Int) (l2_1 : List (S93)) (a2_2 : Int) : Option (Int × (List (S93)) × Int × Bool) := (spec_ddGood.f k a1_0 l1_1 a1_2).bind fun t161 => (if t161 = true then ((spec_ddGood.f k a2_0 l2_1 a2_2).bind fun t162 => (spec_CombineDiagrams.j0 k a0 (!t162) a1_0 l1_1 a1_2 a2_0 l2_1 a2_2)) else (spec_CombineDiagrams.j0 k a0 true a1_0 l1_1 a1_2 a2_0 l2_1 a2_2))
theorem spec_CombineDiagrams.mono_l : ∀ k, (∀ y0 y1 y2 y3 y4 y5 y6 y7, LeO (spec_CombineDiagrams.j0 k y0 y1 y2 y3 y4 y5 y6 y7) (spec_CombineDiagrams.j0 (k + 1) y0 y1 y2 y3 y4 y5 y6 y7))
 | 0 => fun _ _ _ _ _ _ _ _ r h => by simp [spec_CombineDiagrams.j0] at h
 | k + 1 => by
  have ih0 := spec_CombineDiagrams.mono_l k
  ·intro y0 y1 y2 y3 y4 y5 y6 y7
   unfold spec_CombineDiagrams.j0
   repeat' first
   | (with_reducible exact ih0 _ _ _ _ _ _ _ _)
   | (with_reducible exact spec_CombineTables.mono _ _ _ _ _ _)
   | (with_reducible exact spec_ddGood.mono _ _ _ _)
   | (with_reducible exact spec_ddMake.mono _ _ _)
   | (with_reducible exact spec_ddTable.mono _ _ _ _)
   | (with_reducible exact LeO.refl _)
   | (with_reducible exact LeO.none _)
   | (with_reducible refine LeO.ite ?_ ?_)
   | (with_reducible refine LeO.bind ?_ (fun _ => ?_))
   | exact ih0 _ _ _ _ _ _ _ _
   | exact spec_CombineTables.mono _ _ _ _ _ _
   | exact spec_ddGood.mono _ _ _ _
   | exact spec_ddMake.mono _ _ _
   | exact spec_ddTable.mono _ _ _ _
   | exact LeO.none _
   | refine LeO.ite ?_ ?_
   | refine LeO.bind ?_ (fun _ => ?_)
theorem spec_CombineDiagrams.mono : ∀ a0 a1 a2 a3 a4 a5 a6 k, LeO (spec_CombineDiagrams.f k a0 a1 a2 a3 a4 a5 a6) (spec_CombineDiagrams.f (k + 1) a0 a1 a2 a3 a4 a5 a6) := by
 intro a0 a1 a2 a3 a4 a5 a6 k
 have ih0 := spec_CombineDiagrams.mono_l k
 unfold spec_CombineDiagrams.f
 repeat' first
   | (with_reducible exact ih0 _ _ _ _ _ _ _ _)
   | (with_reducible exact spec_CombineTables.mono _ _ _ _ _ _)
   | (with_reducible exact spec_ddGood.mono _ _ _ _)
   | (with_reducible exact spec_ddMake.mono _ _ _)
   | (with_reducible exact spec_ddTable.mono _ _ _ _)
   | (with_reducible exact LeO.refl _)
   | (with_reducible exact LeO.none _)
   | (with_reducible refine LeO.ite ?_ ?_)
   | (with_reducible refine LeO.bind ?_ (fun _ => ?_))
   | exact ih0 _ _ _ _ _ _ _ _
   | exact spec_CombineTables.mono _ _ _ _ _ _
   | exact spec_ddGood.mono _ _ _ _
   | exact spec_ddMake.mono _ _ _
   | exact spec_ddTable.mono _ _ _ _
   | exact LeO.none _
   | refine LeO.ite ?_ ?_
   | refine LeO.bind ?_ (fun _ => ?_)
def spec_CombineDiagrams.T3 : Bool × List (List Nat × List Nat) := (true, [([], []), ([], []), ([1], [1]), ([], []), ([3, 2], [3]), ([0, 2, 4, 4], [0, 2, 4]), ([5], [5]), ([6], [6]), ([6], [6]), ([], []), ([9, 7, 5, 0, 1, 2, 3, 4, 5, 6, 7, 9], [7, 9]), ([8, 10, 0, 1, 2, 3, 4, 5, 6, 7, 8, 9, 10], [8])])
def spec_CombineDiagrams.B3 : List Nat := [0, 0, 2, 0, 14, 31, 63, 127, 127, 0, 767, 2047]
theorem spec_CombineDiagrams.tab3 : rtab .any (opsOf Try.f7 3) = spec_CombineDiagrams.T3 := by kernel_rfl
theorem spec_CombineDiagrams.bits3 : waitsOk spec_CombineDiagrams.T3.2 spec_CombineDiagrams.B3 = true := by kernel_rfl
theorem spec_CombineDiagrams.calls (k : Nat) (a0 : Int) (a1_0 : Int) (A1_1 : Option Addr) (c1_1 : Nat) (l1_1 : List (S93)) (a1_2 : Int) (a2_0 : Int) (A2_1 : Option Addr) (c2_1 : Nat) (l2_1 : List (S93)) (a2_2 : Int) (r1 : Int) (r2 : List (S93)) (r3 : Int) (r4 : Bool) (w : World) (hr1_1 : Kd.C k93 w A1_1 l1_1.length l1_1) (hc1_1 : l1_1.length ≤ c1_1) (hr2_1 : Kd.C k93 w A2_1 l2_1.length l2_1) (hc2_1 : l2_1.length ≤ c2_1) (h : spec_CombineDiagrams.f k a0 a1_0 l1_1 a1_2 a2_0 l2_1 a2_2 = some (r1, r2, r3, r4)) :
  Calls Try.prog 7 #[.int .i64 a0, .agg #[.int .i64 a1_0, .slice A1_1 l1_1.length c1_1, .int .i64 a1_2], .agg #[.int .i64 a2_0, .slice A2_1 l2_1.length c2_1, .int .i64 a2_2]] w fun e w' => ∃ v1_ : Value, e = .returned (.tuple #[.agg #[.int .i64 r1, v1_, .int .i64 r3], .bool r4]) ∧ Kd.R k93 93 w' w.heap.size (fun _ => True) v1_ r2 ∧ Below w.heap.size w w' := by
 have hu28 := Try.underlying28
 have hu41 := Try.underlying41
 have HR1_1 := aM hr1_1
 have HC1_1 := aM hc1_1
 clear hr1_1 hc1_1
 have HR2_1 := aM hr2_1
 have HC2_1 := aM hc2_1
 clear hr2_1 hc2_1
 have HB := aM (Below.refl w.heap.size w)
 have H : ((spec_ddGood.f k a1_0 l1_1 a1_2).bind fun t161 => (if t161 = true then ((spec_ddGood.f k a2_0 l2_1 a2_2).bind fun t162 => (spec_CombineDiagrams.j0 k a0 (!t162) a1_0 l1_1 a1_2 a2_0 l2_1 a2_2)) else (spec_CombineDiagrams.j0 k a0 true a1_0 l1_1 a1_2 a2_0 l2_1 a2_2))) = some (r1, r2, r3, r4) := h
 clear h
 have HC4 := aM H
 clear H
 go_enter Try.func7, Try.ntmps7
 go_upto_region 1 with (first | ((with_reducible refine gate_dst (N := 4) rfl ?_); refine box_event ?hg (N := 4) ?hd (cs := #[.int .i64 a1_0, .slice A1_1 l1_1.length c1_1, .int .i64 a1_2]) (t := 28) ?hr ?_; (case hd => rfl); (case hg => rfl); (case hr => exact zb_); intro gb158 hg w5 hbox hb; have n_ := z (below_step za_ hb) <| z (hbox) <| z ((by rw [hg]; exact (below_size za_) : w.heap.size ≤ gb158)) <| z1 ((by rw [hg]; exact (below_size za_) : w.heap.size ≤ gb158)); clear HB; obtain ⟨HB, BK158, GW158, GE158⟩ := n_; clear hb hbox hg) | ((with_reducible refine gate_dst (N := 5) rfl ?_); refine box_event ?hg (N := 5) ?hd (cs := #[.int .i64 a2_0, .slice A2_1 l2_1.length c2_1, .int .i64 a2_2]) (t := 28) ?hr ?_; (case hd => rfl); (case hg => rfl); (case hr => exact zb_); intro gb159 hg w6 hbox hb; have n_ := z (blk_below (zb BK158.out) hb) <| z (below_step zbaj_ hb) <| z (hbox) <| z ((by rw [hg]; exact (below_size zbaj_) : w.heap.size ≤ gb159)) <| z ((by rw [hg]; exact (below_size zbaj_) : w.heap.size ≤ gb159)) <| z ((by rw [hg]; exact Nat.ne_of_lt (blk_lt (zb BK158.out)) : gb158 ≠ gb159)) <| z1 ((by rw [hg]; exact Nat.ne_of_gt (blk_lt (zb BK158.out)) : gb159 ≠ gb158)); clear BK158 HB; obtain ⟨BK158, HB, BK159, GW159, GE159, NB158_159, NB159_158⟩ := n_; clear hb hbox hg) | ((with_reducible refine gate_dst (N := 6) rfl ?_); refine box_event ?hg (N := 6) ?hd (cs := #[.int .i64 0, .slice none 0 0, .int .i64 0]) (t := 28) ?hr ?_; (case hd => rfl); (case hg => rfl); (case hr => exact zb_); intro gb160 hg w7 hbox hb; have n_ := z (blk_below (zb BK158.out) hb) <| z (blk_below (zb BK159.out) hb) <| z (below_step zbba_ hb) <| z (hbox) <| z ((by rw [hg]; exact (below_size zbba_) : w.heap.size ≤ gb160)) <| z ((by rw [hg]; exact (below_size zbba_) : w.heap.size ≤ gb160)) <| z ((by rw [hg]; exact Nat.ne_of_lt (blk_lt (zb BK158.out)) : gb158 ≠ gb160)) <| z ((by rw [hg]; exact Nat.ne_of_gt (blk_lt (zb BK158.out)) : gb160 ≠ gb158)) <| z ((by rw [hg]; exact Nat.ne_of_lt (blk_lt (zb BK159.out)) : gb159 ≠ gb160)) <| z1 ((by rw [hg]; exact Nat.ne_of_gt (blk_lt (zb BK159.out)) : gb160 ≠ gb159)); clear BK158 BK159 HB; obtain ⟨BK158, BK159, HB, BK160, GW160, GE160, NB158_160, NB160_158, NB159_160, NB160_159⟩ := n_; clear hb hbox hg))
 (try simp only [Act.put, sI, s0, sS])
 go_cut [17] (fun v17 wc => ∃ (kq : Nat) (x17_3 : Bool), v17 = .bool x17_3 ∧ Aside0 (spec_CombineDiagrams.j0 kq a0 x17_3 a1_0 l1_1 a1_2 a2_0 l2_1 a2_2 = some (r1, r2, r3, r4)) ∧ Aside0 (kq ≤ k) ∧ Aside0 (wc.heap[gb158]? = some (.cells #[.int .i64 a1_0, (.slice A1_1 l1_1.length c1_1), .int .i64 a1_2] 28 (0, 0))) ∧ Aside0 (wc.heap[gb159]? = some (.cells #[.int .i64 a2_0, (.slice A2_1 l2_1.length c2_1), .int .i64 a2_2] 28 (0, 0))) ∧ Aside0 (wc.heap[gb160]? = some (.cells #[.int .i64 0, (.slice none 0 0), .int .i64 0] 28 (0, 0))) ∧ Aside0 (Below w.heap.size w wc))
 case first =>
  have H := HC4.out; clear HC4; replace H := oB.mp H; obtain ⟨t161, A80, H⟩ := H; replace H : (if t161 = true then ((spec_ddGood.f k a2_0 l2_1 a2_2).bind fun t162 => (spec_CombineDiagrams.j0 k a0 (!t162) a1_0 l1_1 a1_2 a2_0 l2_1 a2_2)) else (spec_CombineDiagrams.j0 k a0 true a1_0 l1_1 a1_2 a2_0 l2_1 a2_2)) = some (r1, r2, r3, r4) := H; have A8 := aM A80; clear A80
  by_cases c9 : t161 = true
  ·subst c9
   have H1 : ((spec_ddGood.f k a2_0 l2_1 a2_2).bind fun t162 => (spec_CombineDiagrams.j0 k a0 (!t162) a1_0 l1_1 a1_2 a2_0 l2_1 a2_2)) = some (r1, r2, r3, r4) := by rw [if_pos rfl] at H; exact H
   clear H; have H := H1; clear H1; replace H := oB.mp H; obtain ⟨t162, A100, H⟩ := H; replace H : (spec_CombineDiagrams.j0 k a0 (!t162) a1_0 l1_1 a1_2 a2_0 l2_1 a2_2) = some (r1, r2, r3, r4) := H; have A10 := aM A100; clear A100; have H' := aM H; clear H; have hnb11 := NB158_159.out; have hnc11 := NB159_158.out; have hnb12 := NB158_160.out; have hnc12 := NB160_158.out; have hcz13_0 : w7.cell? ⟨gb158, 0, none⟩ = some (.int .i64 a1_0) := (blk_cell BK158.out 0).trans rfl; have hcz13_1 : w7.cell? ⟨gb158, 1, none⟩ = some (.slice A1_1 l1_1.length c1_1) := (blk_cell BK158.out 1).trans rfl; have hcz13_2 : w7.cell? ⟨gb158, 2, none⟩ = some (.int .i64 a1_2) := (blk_cell BK158.out 2).trans rfl; have hfz13_0 := blk_frozen BK158.out 0; have hfz13_1 := blk_frozen BK158.out 1; have hfz13_2 := blk_frozen BK158.out 2
   go_wp2_with (first | ((with_reducible refine gate_callee (f := 51) rfl ?_); refine goesL_ (some 11) rfl rfl Try.func51 (by kernel_rfl) rfl #[.agg #[.int .i64 a1_0, .slice A1_1 l1_1.length c1_1, .int .i64 a1_2]] rfl zd_ ?_; (with_reducible refine (spec_ddGood.calls k a1_0 _ _ l1_1 a1_2 true _ ?side1 ?side2 A8.out).mono ?_); (case side1 => exact zj_); (case side2 => exact HC1_1.out); rintro e w14 ⟨rfl, hb⟩; refine ⟨_, rfl, ?_⟩; have n_ := z (blk_below (zb BK158.out) hb) <| z (blk_below (zb BK159.out) hb) <| z (blk_below (zb BK160.out) hb) <| z1 (below_step zg_ hb); clear BK158 BK159 BK160 HB; obtain ⟨BK158, BK159, BK160, HB⟩ := n_; clear hb; have hnb15 := NB159_160.out; have hnc15 := NB160_159.out; have hcz16_0 : w14.cell? ⟨gb159, 0, none⟩ = some (.int .i64 a2_0) := (blk_cell BK159.out 0).trans rfl; have hcz16_1 : w14.cell? ⟨gb159, 1, none⟩ = some (.slice A2_1 l2_1.length c2_1) := (blk_cell BK159.out 1).trans rfl; have hcz16_2 : w14.cell? ⟨gb159, 2, none⟩ = some (.int .i64 a2_2) := (blk_cell BK159.out 2).trans rfl; have hfz16_0 := blk_frozen BK159.out 0; have hfz16_1 := blk_frozen BK159.out 1; have hfz16_2 := blk_frozen BK159.out 2) | (go_at_call 51; (with_reducible refine (spec_ddGood.calls k a2_0 _ _ l2_1 a2_2 t162 _ ?side1 ?side2 A10.out).mono ?_); (case side1 => exact zba_); (case side2 => exact HC2_1.out); rintro e w17 ⟨rfl, hb⟩; have n_ := z (blk_below (zb BK158.out) hb) <| z (blk_below (zb BK159.out) hb) <| z (blk_below (zb BK160.out) hb) <| z1 (below_step zg_ hb); clear BK158 BK159 BK160 HB; obtain ⟨BK158, BK159, BK160, HB⟩ := n_; clear hb))
   go_meet
   case rel => exact ⟨_, (!t162), ze_, H', ⟨zbh_⟩, ⟨zb BK158.out⟩, ⟨zb BK159.out⟩, ⟨zb BK160.out⟩, ⟨zg_⟩⟩
  ·replace c9 := Bool.eq_false_iff.mpr c9
   subst c9; have H1 : (spec_CombineDiagrams.j0 k a0 true a1_0 l1_1 a1_2 a2_0 l2_1 a2_2) = some (r1, r2, r3, r4) := by rw [if_neg (show ¬ (false = true) by decide)] at H; exact H
   clear H; have H := H1; clear H1; have H' := aM H; clear H; have hnb18 := NB158_159.out; have hnc18 := NB159_158.out; have hnb19 := NB158_160.out; have hnc19 := NB160_158.out; have hcz20_0 : w7.cell? ⟨gb158, 0, none⟩ = some (.int .i64 a1_0) := (blk_cell BK158.out 0).trans rfl; have hcz20_1 : w7.cell? ⟨gb158, 1, none⟩ = some (.slice A1_1 l1_1.length c1_1) := (blk_cell BK158.out 1).trans rfl; have hcz20_2 : w7.cell? ⟨gb158, 2, none⟩ = some (.int .i64 a1_2) := (blk_cell BK158.out 2).trans rfl; have hfz20_0 := blk_frozen BK158.out 0; have hfz20_1 := blk_frozen BK158.out 1; have hfz20_2 := blk_frozen BK158.out 2
   go_wp2_with (first | ((with_reducible refine gate_callee (f := 51) rfl ?_); refine goesL_ (some 11) rfl rfl Try.func51 (by kernel_rfl) rfl #[.agg #[.int .i64 a1_0, .slice A1_1 l1_1.length c1_1, .int .i64 a1_2]] rfl zd_ ?_; (with_reducible refine (spec_ddGood.calls k a1_0 _ _ l1_1 a1_2 false _ ?side1 ?side2 A8.out).mono ?_); (case side1 => exact zj_); (case side2 => exact HC1_1.out); rintro e w21 ⟨rfl, hb⟩; refine ⟨_, rfl, ?_⟩; have n_ := z (blk_below (zb BK158.out) hb) <| z (blk_below (zb BK159.out) hb) <| z (blk_below (zb BK160.out) hb) <| z1 (below_step zg_ hb); clear BK158 BK159 BK160 HB; obtain ⟨BK158, BK159, BK160, HB⟩ := n_; clear hb))
   go_meet
   case rel => exact ⟨_, (true), ze_, H', ⟨zbh_⟩, ⟨zb BK158.out⟩, ⟨zb BK159.out⟩, ⟨zb BK160.out⟩, ⟨zg_⟩⟩
 case rest =>
  clear HC4; obtain ⟨kq, x17_3, rfl, HA, HJ3, BK158, BK159, BK160, HB⟩ := hcut
  cases kq with
  | zero => exact absurd HA.out (by simp [spec_CombineDiagrams.j0])
  | succ kj3 =>
   have H := HA.out; clear HA
   simp only [spec_CombineDiagrams.j0] at H
   by_cases c22 : x17_3 = true
   ·subst c22
    have H1 : (some (0, ([] : List (S93)), 0, false)) = some (r1, r2, r3, r4) := by rw [if_pos rfl] at H; exact H
    clear H; have H := H1; clear H1
    simp only [Option.some.injEq, Prod.mk.injEq] at H
    obtain ⟨rfl, rfl, rfl, rfl⟩ := H; have hnb23 := NB160_158.out; have hnc23 := NB158_160.out; have hnb24 := NB160_159.out; have hnc24 := NB159_160.out; have hcz25_0 : wc.cell? ⟨gb160, 0, none⟩ = some (.int .i64 0) := (blk_cell BK160.out 0).trans rfl; have hcz25_1 : wc.cell? ⟨gb160, 1, none⟩ = some (.slice none 0 0) := (blk_cell BK160.out 1).trans rfl; have hcz25_2 : wc.cell? ⟨gb160, 2, none⟩ = some (.int .i64 0) := (blk_cell BK160.out 2).trans rfl; have hfz25_0 := blk_frozen BK160.out 0; have hfz25_1 := blk_frozen BK160.out 1; have hfz25_2 := blk_frozen BK160.out 2
    go_wp2
    refine bodyPost_ret (results_ct rfl _ _ gb160 28 #[.int .i64 0, .slice none 0 0, .int .i64 0] (0, 0) _ rfl (by refine zb ?_; refine blk_put (cs := #[.int .i64 0, .slice none 0 0, .int .i64 0]) ?_ 2 _ rfl; refine zb ?_; refine blk_put (cs := #[.int .i64 0, .slice none 0 0, .int .i64 0]) ?_ 1 _ rfl; refine zb ?_; refine blk_put (cs := #[.int .i64 0, .slice none 0 0, .int .i64 0]) ?_ 0 _ rfl; refine zb ?_; exact BK160.out) Try.underlying28 rfl (by kernel_rfl)) rfl ?_
    exact ⟨_, zf_, zdg_, zg_⟩
   ·replace c22 := Bool.eq_false_iff.mpr c22
    subst c22; have H1 : ((spec_ddTable.f kj3 a1_0 l1_1 a1_2).bind fun bt163 => ((spec_ddTable.f kj3 a2_0 l2_1 a2_2).bind fun bt167 => ((spec_CombineTables.f kj3 a0 bt163.1 bt163.2 bt167.1 bt167.2).bind fun bt171 => (if bt171.2.2 = true then ((spec_ddMake.f kj3 bt171.1 bt171.2.1).bind fun bt177 => (some (bt177.1, bt177.2.1, bt177.2.2, true))) else (some (0, ([] : List (S93)), 0, false)))))) = some (r1, r2, r3, r4) := by rw [if_neg (show ¬ (false = true) by decide)] at H; exact H
    clear H; have H := H1; clear H1; replace H := oB.mp H; obtain ⟨⟨t163, t164⟩, A260, H⟩ := H; replace H : ((spec_ddTable.f kj3 a2_0 l2_1 a2_2).bind fun bt167 => ((spec_CombineTables.f kj3 a0 t163 t164 bt167.1 bt167.2).bind fun bt171 => (if bt171.2.2 = true then ((spec_ddMake.f kj3 bt171.1 bt171.2.1).bind fun bt177 => (some (bt177.1, bt177.2.1, bt177.2.2, true))) else (some (0, ([] : List (S93)), 0, false))))) = some (r1, r2, r3, r4) := H; have A26 := aM A260; clear A260; replace H := oB.mp H; obtain ⟨⟨t167, t168⟩, A270, H⟩ := H; replace H : ((spec_CombineTables.f kj3 a0 t163 t164 t167 t168).bind fun bt171 => (if bt171.2.2 = true then ((spec_ddMake.f kj3 bt171.1 bt171.2.1).bind fun bt177 => (some (bt177.1, bt177.2.1, bt177.2.2, true))) else (some (0, ([] : List (S93)), 0, false)))) = some (r1, r2, r3, r4) := H; have A27 := aM A270; clear A270; replace H := oB.mp H; obtain ⟨⟨t171, t172, t175⟩, A280, H⟩ := H; replace H : (if t175 = true then ((spec_ddMake.f kj3 t171 t172).bind fun bt177 => (some (bt177.1, bt177.2.1, bt177.2.2, true))) else (some (0, ([] : List (S93)), 0, false))) = some (r1, r2, r3, r4) := H; have A28 := aM A280; clear A280
    by_cases c29 : t175 = true
    ·subst c29
     have H1 : ((spec_ddMake.f kj3 t171 t172).bind fun bt177 => (some (bt177.1, bt177.2.1, bt177.2.2, true))) = some (r1, r2, r3, r4) := by rw [if_pos rfl] at H; exact H
     clear H; have H := H1; clear H1; replace H := oB.mp H; obtain ⟨⟨t177, t178, t181⟩, A300, H⟩ := H; replace H : (some (t177, t178, t181, true)) = some (r1, r2, r3, r4) := H; have A30 := aM A300; clear A300
     simp only [Option.some.injEq, Prod.mk.injEq] at H
     obtain ⟨rfl, rfl, rfl, rfl⟩ := H; (try go_wp2); have n_ := z (blk_drew BK158.out) <| z (blk_drew BK159.out) <| z (blk_drew BK160.out) <| z1 (p1 HB.out)
     clear BK158 BK159 BK160 HB; obtain ⟨BK158, BK159, BK160, HB⟩ := n_
     refine start_ (n := 12) (S := fun w' => w'.cell? ⟨gb158, 0, none⟩ = some (.int .i64 a1_0) ∧ w'.cell? ⟨gb158, 1, none⟩ = some (.slice A1_1 l1_1.length c1_1) ∧ w'.cell? ⟨gb158, 2, none⟩ = some (.int .i64 a1_2) ∧ w'.cell? ⟨gb159, 0, none⟩ = some (.int .i64 a2_0) ∧ w'.cell? ⟨gb159, 1, none⟩ = some (.slice A2_1 l2_1.length c2_1) ∧ w'.cell? ⟨gb159, 2, none⟩ = some (.int .i64 a2_2)) (ds := []) #[fi,fi,fi,fi,fi,fi,fi,fi,fi,fi,fi,fi] (by kernel_rfl) rfl rfl ⟨(blk_cell BK158.out 0).trans rfl, (blk_cell BK158.out 1).trans rfl, (blk_cell BK158.out 2).trans rfl, (blk_cell BK159.out 0).trans rfl, (blk_cell BK159.out 1).trans rfl, (blk_cell BK159.out 2).trans rfl⟩ (fun hHeld => ?_); refine with_tabW spec_CombineDiagrams.tab3 spec_CombineDiagrams.bits3 (fun HT_ HW_ => ?_)
     generalize wc.drew = w31 at BK158 BK159 BK160 HB hHeld ⊢; refine py_ 0 20 HT_.out ?_
     refine take_ (i := 1) (N := some 21) (v := ?_) (a' := ?_) #[ti,ti,fi,fi,fi,fi,fi,fi,fi,fi,fi,fi] rfl rfl (take_ofW HT_.out HW_.out (by kernel_rfl)) (fun _ _ _ h => h) (Or.inl ⟨by rfl, ?_⟩) hHeld ?_ ?_
     rotate_left
     ·rintro w' ⟨s0, s1, s2, s3, s4, s5⟩
      go_simp
      with_reducible rfl
     rotate_left
     ·simp only [Act.put, sI, s0, sS, i64_w, i32_w]
      rfl
     refine take_ (i := 3) (N := some 23) (v := ?_) (a' := ?_) #[ti,ti,fi,ti,fi,fi,fi,fi,fi,fi,fi,fi] rfl rfl (take_ofW HT_.out HW_.out (by kernel_rfl)) (fun _ _ _ h => h) (Or.inl ⟨by rfl, ?_⟩) hHeld ?_ ?_
     rotate_left
     ·rintro w' ⟨s0, s1, s2, s3, s4, s5⟩
      go_simp
      with_reducible rfl
     rotate_left
     ·simp only [Act.put, sI, s0, sS, i64_w, i32_w]
      rfl
     refine join_ (σ := Value × Value × Value × Nat) 2 #[ti,ti,ti,ti,ti,ti,ti,ti,ti,ti,fi,fi] (fun s_ => [(22, .agg #[.int .i64 t163, s_.1]), (24, .agg #[.int .i64 t167, s_.2.1]), (25, .tuple #[.agg #[.int .i64 t171, s_.2.2.1], .bool true]), (8, .pointer (some ⟨s_.2.2.2, 0, none⟩)), (19, .tuple #[.agg #[.int .i64 t171, s_.2.2.1], .bool true]), (26, .agg #[.int .i64 t171, s_.2.2.1]), (27, .bool true)]) (fun s_ w' => (w'.cell? ⟨gb158, 0, none⟩ = some (.int .i64 a1_0) ∧ w'.cell? ⟨gb158, 1, none⟩ = some (.slice A1_1 l1_1.length c1_1) ∧ w'.cell? ⟨gb158, 2, none⟩ = some (.int .i64 a1_2) ∧ w'.cell? ⟨gb159, 0, none⟩ = some (.int .i64 a2_0) ∧ w'.cell? ⟨gb159, 1, none⟩ = some (.slice A2_1 l2_1.length c2_1) ∧ w'.cell? ⟨gb159, 2, none⟩ = some (.int .i64 a2_2)) ∧ (Kd.R (Kd.int .i64) 3 w' w.heap.size (fun k_ => some k_ ≠ (s_.2.1 : Value).ownBlock ∧ some k_ ≠ (s_.2.2.1 : Value).ownBlock) s_.1 t164) ∧ (Kd.R (Kd.int .i64) 3 w' w.heap.size (fun k_ => some k_ ≠ (s_.1 : Value).ownBlock ∧ some k_ ≠ (s_.2.2.1 : Value).ownBlock) s_.2.1 t168) ∧ (Kd.R (Kd.int .i64) 3 w' w.heap.size (fun k_ => some k_ ≠ (s_.1 : Value).ownBlock ∧ some k_ ≠ (s_.2.1 : Value).ownBlock) s_.2.2.1 t172) ∧ (w'.heap[gb158]? = some (.cells #[.int .i64 a1_0, .slice A1_1 l1_1.length c1_1, .int .i64 a1_2] 28 (0, 0))) ∧ (w'.heap[gb159]? = some (.cells #[.int .i64 a2_0, .slice A2_1 l2_1.length c2_1, .int .i64 a2_2] 28 (0, 0))) ∧ (w'.heap[gb160]? = some (.cells #[.int .i64 0, .slice none 0 0, .int .i64 0] 28 (0, 0))) ∧ (w'.heap[s_.2.2.2]? = some (.cells #[.int .i64 0, .slice none 0 0] 41 (0, 0))) ∧ (w.heap.size ≤ s_.2.2.2) ∧ (w.heap.size ≤ s_.2.2.2) ∧ (gb158 ≠ s_.2.2.2) ∧ (s_.2.2.2 ≠ gb158) ∧ (gb159 ≠ s_.2.2.2) ∧ (s_.2.2.2 ≠ gb159) ∧ (gb160 ≠ s_.2.2.2) ∧ (s_.2.2.2 ≠ gb160) ∧ (Below w.heap.size w w')) ?_ ?_
     rotate_left
     ·intro hCont
      refine two_ (i := 2) (j := 9) (Ni := some 22) (Nj := some 8) #[ti,ti,ti,ti,fi,fi,fi,fi,fi,fi,fi,fi] #[ti,ti,fi,ti,fi,fi,fi,fi,fi,ti,fi,fi] rfl rfl rfl rfl (two_of HT_.out (by kernel_rfl)) (by decide) (by decide) (fun K hK => ?_) (fun K hK => ?_)
      ·skip
       refine goes_ Try.func53 (by kernel_rfl) rfl #[.agg #[.int .i64 a1_0, .slice A1_1 l1_1.length c1_1, .int .i64 a1_2]] (by rfl) rfl rfl zd_ ?_
       with_reducible refine (spec_ddTable.calls kj3 a1_0 _ _ l1_1 a1_2 t163 t164 _ ?side1 ?side2 A26.out).mono ?_
       (case side1 => exact zj_)
       (case side2 => exact HC1_1.out)
       rintro e w32 ⟨v165, rfl, ho0, hb⟩
       refine ⟨_, rfl, ?_⟩
       have n_ := z (Kd.R_lower ho0 (below_size zg_)) <| z (blk_below (zb BK158.out) hb) <| z (blk_below (zb BK159.out) hb) <| z (blk_below (zb BK160.out) hb) <| z1 (below_step zg_ hb)
       clear BK158 BK159 BK160 HB; obtain ⟨HO166, BK158, BK159, BK160, HB⟩ := n_; (try clear hb); (try clear hb2); (try clear hk); (try clear hi); (try clear ho0)
       refine hK.out _ _ ⟨(blk_cell BK158.out 0).trans rfl, (blk_cell BK158.out 1).trans rfl, (blk_cell BK158.out 2).trans rfl, (blk_cell BK159.out 0).trans rfl, (blk_cell BK159.out 1).trans rfl, (blk_cell BK159.out 2).trans rfl⟩ (fun hHeld => ?_)
       clear hK K
       refine norm_ (a' := ?_) ?_ ?_
       rotate_left
       ·show Act.put _ (some 22) _ = _
        simp only [Act.put, sI, s0, sS, i64_w, i32_w]
        rfl
       refine two_ (i := 4) (j := 9) (Ni := some 24) (Nj := some 8) #[ti,ti,ti,ti,ti,fi,fi,fi,fi,fi,fi,fi] #[ti,ti,ti,ti,fi,fi,fi,fi,fi,ti,fi,fi] rfl rfl rfl rfl (two_of HT_.out (by kernel_rfl)) (by decide) (by decide) (fun K hK => ?_) (fun K hK => ?_)
       ·skip
        refine goes_ Try.func53 (by kernel_rfl) rfl #[.agg #[.int .i64 a2_0, .slice A2_1 l2_1.length c2_1, .int .i64 a2_2]] (by rfl) rfl rfl zd_ ?_
        with_reducible refine (spec_ddTable.calls kj3 a2_0 _ _ l2_1 a2_2 t167 t168 _ ?side1 ?side2 A27.out).mono ?_
        (case side1 => exact zba_)
        (case side2 => exact HC2_1.out)
        rintro e w33 ⟨v169, rfl, ho0, hb⟩
        refine ⟨_, rfl, ?_⟩
        have n_ := z (Kd.R_elder' (zr HO166.out) (Kd.R_base ho0) hb) <| z (Kd.R_lower (Kd.R_new' ho0 (Kd.R_lt (zr HO166.out))) (below_size zg_)) <| z (blk_below (zb BK158.out) hb) <| z (blk_below (zb BK159.out) hb) <| z (blk_below (zb BK160.out) hb) <| z1 (below_step zg_ hb)
        clear HO166 BK158 BK159 BK160 HB; obtain ⟨HO166, HO170, BK158, BK159, BK160, HB⟩ := n_; (try clear hb); (try clear hb2); (try clear hk); (try clear hi); (try clear ho0); obtain ⟨Ao34, co34, eo34⟩ := Kd.R_slice HO166.out; (first | subst eo34 | (injection eo34 with f1_ f2_ f3_; have f4_ := f1_.symm; have f5_ := f3_.symm; clear f1_ f2_ f3_; subst f4_; subst f5_)); obtain ⟨Ao35, co35, eo35⟩ := Kd.R_slice HO170.out; (first | subst eo35 | (injection eo35 with f1_ f2_ f3_; have f4_ := f1_.symm; have f5_ := f3_.symm; clear f1_ f2_ f3_; subst f4_; subst f5_))
        refine hK.out _ _ ⟨(blk_cell BK158.out 0).trans rfl, (blk_cell BK158.out 1).trans rfl, (blk_cell BK158.out 2).trans rfl, (blk_cell BK159.out 0).trans rfl, (blk_cell BK159.out 1).trans rfl, (blk_cell BK159.out 2).trans rfl⟩ (fun hHeld => ?_)
        clear hK K
        refine norm_ (a' := ?_) ?_ ?_
        rotate_left
        ·show Act.put _ (some 24) _ = _
         simp only [Act.put, sI, s0, sS, i64_w, i32_w]
         rfl
        refine two_ (i := 5) (j := 9) (Ni := some 25) (Nj := some 8) #[ti,ti,ti,ti,ti,ti,fi,fi,fi,fi,fi,fi] #[ti,ti,ti,ti,ti,fi,fi,fi,fi,ti,fi,fi] rfl rfl rfl rfl (two_of HT_.out (by kernel_rfl)) (by decide) (by decide) (fun K hK => ?_) (fun K hK => ?_)
        ·skip
         refine goes_ Try.func52 (by kernel_rfl) rfl #[.int .i64 a0, .agg #[.int .i64 t163, .slice Ao34 t164.length co34], .agg #[.int .i64 t167, .slice Ao35 t168.length co35]] (by rfl) rfl rfl zd_ ?_
         with_reducible refine (spec_CombineTables.calls kj3 a0 t163 _ _ t164 t167 _ _ t168 t171 t172 true _ ?side1 ?side2 ?side3 ?side4 A28.out).mono ?_
         (case side1 => exact zef_)
         (case side2 => exact zeg_)
         (case side3 => exact zeh_)
         (case side4 => exact zei_)
         rintro e w36 ⟨v173, rfl, ho0, hb⟩
         refine ⟨_, rfl, ?_⟩
         have n_ := z (Kd.R_elder' (zr HO166.out) (Kd.R_base ho0) hb) <| z (Kd.R_elder' (zr HO170.out) (Kd.R_base ho0) hb) <| z (Kd.R_lower (Kd.R_new' (Kd.R_new' ho0 (Kd.R_lt (zr HO166.out))) (Kd.R_lt (zr HO170.out))) (below_size zg_)) <| z (blk_below (zb BK158.out) hb) <| z (blk_below (zb BK159.out) hb) <| z (blk_below (zb BK160.out) hb) <| z1 (below_step zg_ hb)
         clear HO166 HO170 BK158 BK159 BK160 HB; obtain ⟨HO166, HO170, HO174, BK158, BK159, BK160, HB⟩ := n_; (try clear hb); (try clear hb2); (try clear hk); (try clear hi); (try clear ho0)
         refine hK.out _ _ ⟨(blk_cell BK158.out 0).trans rfl, (blk_cell BK158.out 1).trans rfl, (blk_cell BK158.out 2).trans rfl, (blk_cell BK159.out 0).trans rfl, (blk_cell BK159.out 1).trans rfl, (blk_cell BK159.out 2).trans rfl⟩ (fun hHeld => ?_)
         clear hK K
         refine norm_ (a' := ?_) ?_ ?_
         rotate_left
         ·show Act.put _ (some 25) _ = _
          simp only [Act.put, sI, s0, sS, i64_w, i32_w]
          rfl
         refine py_ 6 19 HT_.out ?_; refine py_ 7 26 HT_.out ?_; refine py_ 8 27 HT_.out ?_
         refine one_ (i := 9) (N := some 8) #[ti,ti,ti,ti,ti,ti,ti,ti,ti,ti,fi,fi] rfl rfl (one_of HT_.out (by kernel_rfl)) (by decide) (fun K hK => ?_)
         refine box_step ?hg (N := 8) ?hd (cs := #[.int .i64 0, .slice none 0 0]) (t := 41) ?hr ?_; (case hd => rfl); (case hg => rfl); (case hr => exact zb_)
         intro gb176 hg w37 hbox hb
         have n_ := z (Kd.R_below (zr HO166.out) hb) <| z (Kd.R_below (zr HO170.out) hb) <| z (Kd.R_below (zr HO174.out) hb) <| z (blk_below (zb BK158.out) hb) <| z (blk_below (zb BK159.out) hb) <| z (blk_below (zb BK160.out) hb) <| z (below_step zg_ hb) <| z (hbox) <| z ((by rw [hg]; exact (below_size zg_) : w.heap.size ≤ gb176)) <| z ((by rw [hg]; exact (below_size zg_) : w.heap.size ≤ gb176)) <| z ((by rw [hg]; exact Nat.ne_of_lt (blk_lt (zb BK158.out)) : gb158 ≠ gb176)) <| z ((by rw [hg]; exact Nat.ne_of_gt (blk_lt (zb BK158.out)) : gb176 ≠ gb158)) <| z ((by rw [hg]; exact Nat.ne_of_lt (blk_lt (zb BK159.out)) : gb159 ≠ gb176)) <| z ((by rw [hg]; exact Nat.ne_of_gt (blk_lt (zb BK159.out)) : gb176 ≠ gb159)) <| z ((by rw [hg]; exact Nat.ne_of_lt (blk_lt (zb BK160.out)) : gb160 ≠ gb176)) <| z1 ((by rw [hg]; exact Nat.ne_of_gt (blk_lt (zb BK160.out)) : gb176 ≠ gb160))
         clear HO166 HO170 HO174 BK158 BK159 BK160 HB; obtain ⟨HO166, HO170, HO174, BK158, BK159, BK160, HB, BK176, GW176, GE176, NB158_176, NB176_158, NB159_176, NB176_159, NB160_176, NB176_160⟩ := n_; clear hb hbox hg
         refine hK.out _ _ ⟨(blk_cell BK158.out 0).trans rfl, (blk_cell BK158.out 1).trans rfl, (blk_cell BK158.out 2).trans rfl, (blk_cell BK159.out 0).trans rfl, (blk_cell BK159.out 1).trans rfl, (blk_cell BK159.out 2).trans rfl⟩ (fun hHeld => ?_)
         clear hK K
         refine norm_ (a' := ?_) ?_ ?_
         rotate_left
         ·show Act.put _ (some 8) _ = _
          simp only [Act.put, sI, s0, sS, i64_w, i32_w]
          rfl
         exact norm_ (by simp only [putAll, Act.put, sI, s0, sS]) (hCont (.slice Ao34 t164.length co34, .slice Ao35 t168.length co35, v173, gb176) _ ⟨hHeld, zej_, zfa_, zfb_, (zb BK158.out), (zb BK159.out), (zb BK160.out), (zb BK176.out), GW176.out, GE176.out, NB158_176.out, NB176_158.out, NB159_176.out, NB176_159.out, NB160_176.out, NB176_160.out, zbb_⟩)
        ·skip
         refine box_step ?hg (N := 8) ?hd (cs := #[.int .i64 0, .slice none 0 0]) (t := 41) ?hr ?_; (case hd => rfl); (case hg => rfl); (case hr => exact zb_)
         intro gb176 hg w34 hbox hb
         have n_ := z (Kd.R_below (zr HO166.out) hb) <| z (Kd.R_below (zr HO170.out) hb) <| z (blk_below (zb BK158.out) hb) <| z (blk_below (zb BK159.out) hb) <| z (blk_below (zb BK160.out) hb) <| z (below_step zg_ hb) <| z (hbox) <| z ((by rw [hg]; exact (below_size zg_) : w.heap.size ≤ gb176)) <| z ((by rw [hg]; exact (below_size zg_) : w.heap.size ≤ gb176)) <| z ((by rw [hg]; exact Nat.ne_of_lt (blk_lt (zb BK158.out)) : gb158 ≠ gb176)) <| z ((by rw [hg]; exact Nat.ne_of_gt (blk_lt (zb BK158.out)) : gb176 ≠ gb158)) <| z ((by rw [hg]; exact Nat.ne_of_lt (blk_lt (zb BK159.out)) : gb159 ≠ gb176)) <| z ((by rw [hg]; exact Nat.ne_of_gt (blk_lt (zb BK159.out)) : gb176 ≠ gb159)) <| z ((by rw [hg]; exact Nat.ne_of_lt (blk_lt (zb BK160.out)) : gb160 ≠ gb176)) <| z1 ((by rw [hg]; exact Nat.ne_of_gt (blk_lt (zb BK160.out)) : gb176 ≠ gb160))
         clear HO166 HO170 BK158 BK159 BK160 HB; obtain ⟨HO166, HO170, BK158, BK159, BK160, HB, BK176, GW176, GE176, NB158_176, NB176_158, NB159_176, NB176_159, NB160_176, NB176_160⟩ := n_; clear hb hbox hg; obtain ⟨Ao35, co35, eo35⟩ := Kd.R_slice HO166.out; (first | subst eo35 | (injection eo35 with f1_ f2_ f3_; have f4_ := f1_.symm; have f5_ := f3_.symm; clear f1_ f2_ f3_; subst f4_; subst f5_)); obtain ⟨Ao36, co36, eo36⟩ := Kd.R_slice HO170.out; (first | subst eo36 | (injection eo36 with f1_ f2_ f3_; have f4_ := f1_.symm; have f5_ := f3_.symm; clear f1_ f2_ f3_; subst f4_; subst f5_))
         refine hK.out _ _ ⟨(blk_cell BK158.out 0).trans rfl, (blk_cell BK158.out 1).trans rfl, (blk_cell BK158.out 2).trans rfl, (blk_cell BK159.out 0).trans rfl, (blk_cell BK159.out 1).trans rfl, (blk_cell BK159.out 2).trans rfl⟩ (fun hHeld => ?_)
         clear hK K
         refine norm_ (a' := ?_) ?_ ?_
         rotate_left
         ·show Act.put _ (some 8) _ = _
          simp only [Act.put, sI, s0, sS, i64_w, i32_w]
          rfl
         refine one_ (i := 5) (N := some 25) #[ti,ti,ti,ti,ti,ti,fi,fi,fi,ti,fi,fi] rfl rfl (one_of HT_.out (by kernel_rfl)) (by decide) (fun K hK => ?_)
         refine goes_ Try.func52 (by kernel_rfl) rfl #[.int .i64 a0, .agg #[.int .i64 t163, .slice Ao35 t164.length co35], .agg #[.int .i64 t167, .slice Ao36 t168.length co36]] (by rfl) rfl rfl zd_ ?_
         with_reducible refine (spec_CombineTables.calls kj3 a0 t163 _ _ t164 t167 _ _ t168 t171 t172 true _ ?side1 ?side2 ?side3 ?side4 A28.out).mono ?_
         (case side1 => exact zef_)
         (case side2 => exact zeg_)
         (case side3 => exact zeh_)
         (case side4 => exact zei_)
         rintro e w37 ⟨v173, rfl, ho0, hb⟩
         refine ⟨_, rfl, ?_⟩
         have n_ := z (Kd.R_elder' (zr HO166.out) (Kd.R_base ho0) hb) <| z (Kd.R_elder' (zr HO170.out) (Kd.R_base ho0) hb) <| z (Kd.R_lower (Kd.R_new' (Kd.R_new' ho0 (Kd.R_lt (zr HO166.out))) (Kd.R_lt (zr HO170.out))) (below_size zbb_)) <| z (blk_below (zb BK158.out) hb) <| z (blk_below (zb BK159.out) hb) <| z (blk_below (zb BK160.out) hb) <| z (blk_below (zb BK176.out) hb) <| z1 (below_step zbb_ hb)
         clear HO166 HO170 BK158 BK159 BK160 BK176 HB; obtain ⟨HO166, HO170, HO174, BK158, BK159, BK160, BK176, HB⟩ := n_; (try clear hb); (try clear hb2); (try clear hk); (try clear hi); (try clear ho0)
         refine hK.out _ _ ⟨(blk_cell BK158.out 0).trans rfl, (blk_cell BK158.out 1).trans rfl, (blk_cell BK158.out 2).trans rfl, (blk_cell BK159.out 0).trans rfl, (blk_cell BK159.out 1).trans rfl, (blk_cell BK159.out 2).trans rfl⟩ (fun hHeld => ?_)
         clear hK K
         refine norm_ (a' := ?_) ?_ ?_
         rotate_left
         ·show Act.put _ (some 25) _ = _
          simp only [Act.put, sI, s0, sS, i64_w, i32_w]
          rfl
         refine py_ 6 19 HT_.out ?_; refine py_ 7 26 HT_.out ?_; refine py_ 8 27 HT_.out ?_
         exact norm_ (by simp only [putAll, Act.put, sI, s0, sS]) (hCont (.slice Ao35 t164.length co35, .slice Ao36 t168.length co36, v173, gb176) _ ⟨hHeld, zej_, zfa_, zfb_, (zb BK158.out), (zb BK159.out), (zb BK160.out), (zb BK176.out), GW176.out, GE176.out, NB158_176.out, NB176_158.out, NB159_176.out, NB176_159.out, NB160_176.out, NB176_160.out, zbb_⟩)
       ·skip
        refine box_step ?hg (N := 8) ?hd (cs := #[.int .i64 0, .slice none 0 0]) (t := 41) ?hr ?_; (case hd => rfl); (case hg => rfl); (case hr => exact zb_)
        intro gb176 hg w33 hbox hb
        have n_ := z (Kd.R_below (zr HO166.out) hb) <| z (blk_below (zb BK158.out) hb) <| z (blk_below (zb BK159.out) hb) <| z (blk_below (zb BK160.out) hb) <| z (below_step zg_ hb) <| z (hbox) <| z ((by rw [hg]; exact (below_size zg_) : w.heap.size ≤ gb176)) <| z ((by rw [hg]; exact (below_size zg_) : w.heap.size ≤ gb176)) <| z ((by rw [hg]; exact Nat.ne_of_lt (blk_lt (zb BK158.out)) : gb158 ≠ gb176)) <| z ((by rw [hg]; exact Nat.ne_of_gt (blk_lt (zb BK158.out)) : gb176 ≠ gb158)) <| z ((by rw [hg]; exact Nat.ne_of_lt (blk_lt (zb BK159.out)) : gb159 ≠ gb176)) <| z ((by rw [hg]; exact Nat.ne_of_gt (blk_lt (zb BK159.out)) : gb176 ≠ gb159)) <| z ((by rw [hg]; exact Nat.ne_of_lt (blk_lt (zb BK160.out)) : gb160 ≠ gb176)) <| z1 ((by rw [hg]; exact Nat.ne_of_gt (blk_lt (zb BK160.out)) : gb176 ≠ gb160))
        clear HO166 BK158 BK159 BK160 HB; obtain ⟨HO166, BK158, BK159, BK160, HB, BK176, GW176, GE176, NB158_176, NB176_158, NB159_176, NB176_159, NB160_176, NB176_160⟩ := n_; clear hb hbox hg
        refine hK.out _ _ ⟨(blk_cell BK158.out 0).trans rfl, (blk_cell BK158.out 1).trans rfl, (blk_cell BK158.out 2).trans rfl, (blk_cell BK159.out 0).trans rfl, (blk_cell BK159.out 1).trans rfl, (blk_cell BK159.out 2).trans rfl⟩ (fun hHeld => ?_)
        clear hK K
        refine norm_ (a' := ?_) ?_ ?_
        rotate_left
        ·show Act.put _ (some 8) _ = _
         simp only [Act.put, sI, s0, sS, i64_w, i32_w]
         rfl
        refine one_ (i := 4) (N := some 24) #[ti,ti,ti,ti,ti,fi,fi,fi,fi,ti,fi,fi] rfl rfl (one_of HT_.out (by kernel_rfl)) (by decide) (fun K hK => ?_)
        refine goes_ Try.func53 (by kernel_rfl) rfl #[.agg #[.int .i64 a2_0, .slice A2_1 l2_1.length c2_1, .int .i64 a2_2]] (by rfl) rfl rfl zd_ ?_
        with_reducible refine (spec_ddTable.calls kj3 a2_0 _ _ l2_1 a2_2 t167 t168 _ ?side1 ?side2 A27.out).mono ?_
        (case side1 => exact zba_)
        (case side2 => exact HC2_1.out)
        rintro e w34 ⟨v169, rfl, ho0, hb⟩
        refine ⟨_, rfl, ?_⟩
        have n_ := z (Kd.R_elder' (zr HO166.out) (Kd.R_base ho0) hb) <| z (Kd.R_lower (Kd.R_new' ho0 (Kd.R_lt (zr HO166.out))) (below_size zbb_)) <| z (blk_below (zb BK158.out) hb) <| z (blk_below (zb BK159.out) hb) <| z (blk_below (zb BK160.out) hb) <| z (blk_below (zb BK176.out) hb) <| z1 (below_step zbb_ hb)
        clear HO166 BK158 BK159 BK160 BK176 HB; obtain ⟨HO166, HO170, BK158, BK159, BK160, BK176, HB⟩ := n_; (try clear hb); (try clear hb2); (try clear hk); (try clear hi); (try clear ho0); obtain ⟨Ao35, co35, eo35⟩ := Kd.R_slice HO166.out; (first | subst eo35 | (injection eo35 with f1_ f2_ f3_; have f4_ := f1_.symm; have f5_ := f3_.symm; clear f1_ f2_ f3_; subst f4_; subst f5_)); obtain ⟨Ao36, co36, eo36⟩ := Kd.R_slice HO170.out; (first | subst eo36 | (injection eo36 with f1_ f2_ f3_; have f4_ := f1_.symm; have f5_ := f3_.symm; clear f1_ f2_ f3_; subst f4_; subst f5_))
        refine hK.out _ _ ⟨(blk_cell BK158.out 0).trans rfl, (blk_cell BK158.out 1).trans rfl, (blk_cell BK158.out 2).trans rfl, (blk_cell BK159.out 0).trans rfl, (blk_cell BK159.out 1).trans rfl, (blk_cell BK159.out 2).trans rfl⟩ (fun hHeld => ?_)
        clear hK K
        refine norm_ (a' := ?_) ?_ ?_
        rotate_left
        ·show Act.put _ (some 24) _ = _
         simp only [Act.put, sI, s0, sS, i64_w, i32_w]
         rfl
        refine one_ (i := 5) (N := some 25) #[ti,ti,ti,ti,ti,ti,fi,fi,fi,ti,fi,fi] rfl rfl (one_of HT_.out (by kernel_rfl)) (by decide) (fun K hK => ?_)
        refine goes_ Try.func52 (by kernel_rfl) rfl #[.int .i64 a0, .agg #[.int .i64 t163, .slice Ao35 t164.length co35], .agg #[.int .i64 t167, .slice Ao36 t168.length co36]] (by rfl) rfl rfl zd_ ?_
        with_reducible refine (spec_CombineTables.calls kj3 a0 t163 _ _ t164 t167 _ _ t168 t171 t172 true _ ?side1 ?side2 ?side3 ?side4 A28.out).mono ?_
        (case side1 => exact zef_)
        (case side2 => exact zeg_)
        (case side3 => exact zeh_)
        (case side4 => exact zei_)
        rintro e w37 ⟨v173, rfl, ho0, hb⟩
        refine ⟨_, rfl, ?_⟩
        have n_ := z (Kd.R_elder' (zr HO166.out) (Kd.R_base ho0) hb) <| z (Kd.R_elder' (zr HO170.out) (Kd.R_base ho0) hb) <| z (Kd.R_lower (Kd.R_new' (Kd.R_new' ho0 (Kd.R_lt (zr HO166.out))) (Kd.R_lt (zr HO170.out))) (below_size zbb_)) <| z (blk_below (zb BK158.out) hb) <| z (blk_below (zb BK159.out) hb) <| z (blk_below (zb BK160.out) hb) <| z (blk_below (zb BK176.out) hb) <| z1 (below_step zbb_ hb)
        clear HO166 HO170 BK158 BK159 BK160 BK176 HB; obtain ⟨HO166, HO170, HO174, BK158, BK159, BK160, BK176, HB⟩ := n_; (try clear hb); (try clear hb2); (try clear hk); (try clear hi); (try clear ho0)
        refine hK.out _ _ ⟨(blk_cell BK158.out 0).trans rfl, (blk_cell BK158.out 1).trans rfl, (blk_cell BK158.out 2).trans rfl, (blk_cell BK159.out 0).trans rfl, (blk_cell BK159.out 1).trans rfl, (blk_cell BK159.out 2).trans rfl⟩ (fun hHeld => ?_)
        clear hK K
        refine norm_ (a' := ?_) ?_ ?_
        rotate_left
        ·show Act.put _ (some 25) _ = _
         simp only [Act.put, sI, s0, sS, i64_w, i32_w]
         rfl
        refine py_ 6 19 HT_.out ?_; refine py_ 7 26 HT_.out ?_; refine py_ 8 27 HT_.out ?_
        exact norm_ (by simp only [putAll, Act.put, sI, s0, sS]) (hCont (.slice Ao35 t164.length co35, .slice Ao36 t168.length co36, v173, gb176) _ ⟨hHeld, zej_, zfa_, zfb_, (zb BK158.out), (zb BK159.out), (zb BK160.out), (zb BK176.out), GW176.out, GE176.out, NB158_176.out, NB176_158.out, NB159_176.out, NB176_159.out, NB160_176.out, NB176_160.out, zbb_⟩)
      ·skip
       refine box_step ?hg (N := 8) ?hd (cs := #[.int .i64 0, .slice none 0 0]) (t := 41) ?hr ?_; (case hd => rfl); (case hg => rfl); (case hr => exact zb_)
       intro gb176 hg w32 hbox hb
       have n_ := z (blk_below (zb BK158.out) hb) <| z (blk_below (zb BK159.out) hb) <| z (blk_below (zb BK160.out) hb) <| z (below_step zg_ hb) <| z (hbox) <| z ((by rw [hg]; exact (below_size zg_) : w.heap.size ≤ gb176)) <| z ((by rw [hg]; exact (below_size zg_) : w.heap.size ≤ gb176)) <| z ((by rw [hg]; exact Nat.ne_of_lt (blk_lt (zb BK158.out)) : gb158 ≠ gb176)) <| z ((by rw [hg]; exact Nat.ne_of_gt (blk_lt (zb BK158.out)) : gb176 ≠ gb158)) <| z ((by rw [hg]; exact Nat.ne_of_lt (blk_lt (zb BK159.out)) : gb159 ≠ gb176)) <| z ((by rw [hg]; exact Nat.ne_of_gt (blk_lt (zb BK159.out)) : gb176 ≠ gb159)) <| z ((by rw [hg]; exact Nat.ne_of_lt (blk_lt (zb BK160.out)) : gb160 ≠ gb176)) <| z1 ((by rw [hg]; exact Nat.ne_of_gt (blk_lt (zb BK160.out)) : gb176 ≠ gb160))
       clear BK158 BK159 BK160 HB; obtain ⟨BK158, BK159, BK160, HB, BK176, GW176, GE176, NB158_176, NB176_158, NB159_176, NB176_159, NB160_176, NB176_160⟩ := n_; clear hb hbox hg
       refine hK.out _ _ ⟨(blk_cell BK158.out 0).trans rfl, (blk_cell BK158.out 1).trans rfl, (blk_cell BK158.out 2).trans rfl, (blk_cell BK159.out 0).trans rfl, (blk_cell BK159.out 1).trans rfl, (blk_cell BK159.out 2).trans rfl⟩ (fun hHeld => ?_)
       clear hK K
       refine norm_ (a' := ?_) ?_ ?_
       rotate_left
       ·show Act.put _ (some 8) _ = _
        simp only [Act.put, sI, s0, sS, i64_w, i32_w]
        rfl
       refine one_ (i := 2) (N := some 22) #[ti,ti,ti,ti,fi,fi,fi,fi,fi,ti,fi,fi] rfl rfl (one_of HT_.out (by kernel_rfl)) (by decide) (fun K hK => ?_)
       refine goes_ Try.func53 (by kernel_rfl) rfl #[.agg #[.int .i64 a1_0, .slice A1_1 l1_1.length c1_1, .int .i64 a1_2]] (by rfl) rfl rfl zd_ ?_
       with_reducible refine (spec_ddTable.calls kj3 a1_0 _ _ l1_1 a1_2 t163 t164 _ ?side1 ?side2 A26.out).mono ?_
       (case side1 => exact zj_)
       (case side2 => exact HC1_1.out)
       rintro e w33 ⟨v165, rfl, ho0, hb⟩
       refine ⟨_, rfl, ?_⟩
       have n_ := z (Kd.R_lower ho0 (below_size zbb_)) <| z (blk_below (zb BK158.out) hb) <| z (blk_below (zb BK159.out) hb) <| z (blk_below (zb BK160.out) hb) <| z (blk_below (zb BK176.out) hb) <| z1 (below_step zbb_ hb)
       clear BK158 BK159 BK160 BK176 HB; obtain ⟨HO166, BK158, BK159, BK160, BK176, HB⟩ := n_; (try clear hb); (try clear hb2); (try clear hk); (try clear hi); (try clear ho0)
       refine hK.out _ _ ⟨(blk_cell BK158.out 0).trans rfl, (blk_cell BK158.out 1).trans rfl, (blk_cell BK158.out 2).trans rfl, (blk_cell BK159.out 0).trans rfl, (blk_cell BK159.out 1).trans rfl, (blk_cell BK159.out 2).trans rfl⟩ (fun hHeld => ?_)
       clear hK K
       refine norm_ (a' := ?_) ?_ ?_
       rotate_left
       ·show Act.put _ (some 22) _ = _
        simp only [Act.put, sI, s0, sS, i64_w, i32_w]
        rfl
       refine one_ (i := 4) (N := some 24) #[ti,ti,ti,ti,ti,fi,fi,fi,fi,ti,fi,fi] rfl rfl (one_of HT_.out (by kernel_rfl)) (by decide) (fun K hK => ?_)
       refine goes_ Try.func53 (by kernel_rfl) rfl #[.agg #[.int .i64 a2_0, .slice A2_1 l2_1.length c2_1, .int .i64 a2_2]] (by rfl) rfl rfl zd_ ?_
       with_reducible refine (spec_ddTable.calls kj3 a2_0 _ _ l2_1 a2_2 t167 t168 _ ?side1 ?side2 A27.out).mono ?_
       (case side1 => exact zba_)
       (case side2 => exact HC2_1.out)
       rintro e w34 ⟨v169, rfl, ho0, hb⟩
       refine ⟨_, rfl, ?_⟩
       have n_ := z (Kd.R_elder' (zr HO166.out) (Kd.R_base ho0) hb) <| z (Kd.R_lower (Kd.R_new' ho0 (Kd.R_lt (zr HO166.out))) (below_size zbb_)) <| z (blk_below (zb BK158.out) hb) <| z (blk_below (zb BK159.out) hb) <| z (blk_below (zb BK160.out) hb) <| z (blk_below (zb BK176.out) hb) <| z1 (below_step zbb_ hb)
       clear HO166 BK158 BK159 BK160 BK176 HB; obtain ⟨HO166, HO170, BK158, BK159, BK160, BK176, HB⟩ := n_; (try clear hb); (try clear hb2); (try clear hk); (try clear hi); (try clear ho0); obtain ⟨Ao35, co35, eo35⟩ := Kd.R_slice HO166.out; (first | subst eo35 | (injection eo35 with f1_ f2_ f3_; have f4_ := f1_.symm; have f5_ := f3_.symm; clear f1_ f2_ f3_; subst f4_; subst f5_)); obtain ⟨Ao36, co36, eo36⟩ := Kd.R_slice HO170.out; (first | subst eo36 | (injection eo36 with f1_ f2_ f3_; have f4_ := f1_.symm; have f5_ := f3_.symm; clear f1_ f2_ f3_; subst f4_; subst f5_))
       refine hK.out _ _ ⟨(blk_cell BK158.out 0).trans rfl, (blk_cell BK158.out 1).trans rfl, (blk_cell BK158.out 2).trans rfl, (blk_cell BK159.out 0).trans rfl, (blk_cell BK159.out 1).trans rfl, (blk_cell BK159.out 2).trans rfl⟩ (fun hHeld => ?_)
       clear hK K
       refine norm_ (a' := ?_) ?_ ?_
       rotate_left
       ·show Act.put _ (some 24) _ = _
        simp only [Act.put, sI, s0, sS, i64_w, i32_w]
        rfl
       refine one_ (i := 5) (N := some 25) #[ti,ti,ti,ti,ti,ti,fi,fi,fi,ti,fi,fi] rfl rfl (one_of HT_.out (by kernel_rfl)) (by decide) (fun K hK => ?_)
       refine goes_ Try.func52 (by kernel_rfl) rfl #[.int .i64 a0, .agg #[.int .i64 t163, .slice Ao35 t164.length co35], .agg #[.int .i64 t167, .slice Ao36 t168.length co36]] (by rfl) rfl rfl zd_ ?_
       with_reducible refine (spec_CombineTables.calls kj3 a0 t163 _ _ t164 t167 _ _ t168 t171 t172 true _ ?side1 ?side2 ?side3 ?side4 A28.out).mono ?_
       (case side1 => exact zef_)
       (case side2 => exact zeg_)
       (case side3 => exact zeh_)
       (case side4 => exact zei_)
       rintro e w37 ⟨v173, rfl, ho0, hb⟩
       refine ⟨_, rfl, ?_⟩
       have n_ := z (Kd.R_elder' (zr HO166.out) (Kd.R_base ho0) hb) <| z (Kd.R_elder' (zr HO170.out) (Kd.R_base ho0) hb) <| z (Kd.R_lower (Kd.R_new' (Kd.R_new' ho0 (Kd.R_lt (zr HO166.out))) (Kd.R_lt (zr HO170.out))) (below_size zbb_)) <| z (blk_below (zb BK158.out) hb) <| z (blk_below (zb BK159.out) hb) <| z (blk_below (zb BK160.out) hb) <| z (blk_below (zb BK176.out) hb) <| z1 (below_step zbb_ hb)
       clear HO166 HO170 BK158 BK159 BK160 BK176 HB; obtain ⟨HO166, HO170, HO174, BK158, BK159, BK160, BK176, HB⟩ := n_; (try clear hb); (try clear hb2); (try clear hk); (try clear hi); (try clear ho0)
       refine hK.out _ _ ⟨(blk_cell BK158.out 0).trans rfl, (blk_cell BK158.out 1).trans rfl, (blk_cell BK158.out 2).trans rfl, (blk_cell BK159.out 0).trans rfl, (blk_cell BK159.out 1).trans rfl, (blk_cell BK159.out 2).trans rfl⟩ (fun hHeld => ?_)
       clear hK K
       refine norm_ (a' := ?_) ?_ ?_
       rotate_left
       ·show Act.put _ (some 25) _ = _
        simp only [Act.put, sI, s0, sS, i64_w, i32_w]
        rfl
       refine py_ 6 19 HT_.out ?_; refine py_ 7 26 HT_.out ?_; refine py_ 8 27 HT_.out ?_
       exact norm_ (by simp only [putAll, Act.put, sI, s0, sS]) (hCont (.slice Ao35 t164.length co35, .slice Ao36 t168.length co36, v173, gb176) _ ⟨hHeld, zej_, zfa_, zfb_, (zb BK158.out), (zb BK159.out), (zb BK160.out), (zb BK176.out), GW176.out, GE176.out, NB158_176.out, NB176_158.out, NB159_176.out, NB176_159.out, NB160_176.out, NB176_160.out, zbb_⟩)
     rintro ⟨v165, v169, v173, gb176⟩ w38 ⟨hS_, h0_, h1_, h2_, h3_, h4_, h5_, h6_, h7_, h8_, h9_, h10_, h11_, h12_, h13_, h14_, h15_⟩
     have n0_ : Aside0 (Kd.R (Kd.int .i64) 3 w38 w.heap.size (fun k_ => some k_ ≠ (v169 : Value).ownBlock ∧ some k_ ≠ (v173 : Value).ownBlock) v165 t164) := ⟨h0_⟩; have n1_ : Aside0 (Kd.R (Kd.int .i64) 3 w38 w.heap.size (fun k_ => some k_ ≠ (v165 : Value).ownBlock ∧ some k_ ≠ (v173 : Value).ownBlock) v169 t168) := ⟨h1_⟩; have n2_ : Aside0 (Kd.R (Kd.int .i64) 3 w38 w.heap.size (fun k_ => some k_ ≠ (v165 : Value).ownBlock ∧ some k_ ≠ (v169 : Value).ownBlock) v173 t172) := ⟨h2_⟩; have n3_ : Aside0 (w38.heap[gb158]? = some (.cells #[.int .i64 a1_0, .slice A1_1 l1_1.length c1_1, .int .i64 a1_2] 28 (0, 0))) := ⟨h3_⟩; have n4_ : Aside0 (w38.heap[gb159]? = some (.cells #[.int .i64 a2_0, .slice A2_1 l2_1.length c2_1, .int .i64 a2_2] 28 (0, 0))) := ⟨h4_⟩; have n5_ : Aside0 (w38.heap[gb160]? = some (.cells #[.int .i64 0, .slice none 0 0, .int .i64 0] 28 (0, 0))) := ⟨h5_⟩; have n6_ : Aside0 (w38.heap[gb176]? = some (.cells #[.int .i64 0, .slice none 0 0] 41 (0, 0))) := ⟨h6_⟩; have n7_ : Aside0 (w.heap.size ≤ gb176) := ⟨h7_⟩; have n8_ : Aside0 (w.heap.size ≤ gb176) := ⟨h8_⟩; have n9_ : Aside0 (gb158 ≠ gb176) := ⟨h9_⟩; have n10_ : Aside0 (gb176 ≠ gb158) := ⟨h10_⟩; have n11_ : Aside0 (gb159 ≠ gb176) := ⟨h11_⟩; have n12_ : Aside0 (gb176 ≠ gb159) := ⟨h12_⟩; have n13_ : Aside0 (gb160 ≠ gb176) := ⟨h13_⟩; have n14_ : Aside0 (gb176 ≠ gb160) := ⟨h14_⟩; have n15_ : Aside0 (Below w.heap.size w w38) := ⟨h15_⟩; clear BK158 BK159 BK160 HB h0_ h1_ h2_ h3_ h4_ h5_ h6_ h7_ h8_ h9_ h10_ h11_ h12_ h13_ h14_ h15_; have HO166 := n0_; have HO170 := n1_; have HO174 := n2_; have BK158 := n3_; have BK159 := n4_; have BK160 := n5_; have BK176 := n6_; have GW176 := n7_; have GE176 := n8_; have NB158_176 := n9_; have NB176_158 := n10_; have NB159_176 := n11_; have NB176_159 := n12_; have NB160_176 := n13_; have NB176_160 := n14_; have HB := n15_; clear n0_ n1_ n2_ n3_ n4_ n5_ n6_ n7_ n8_ n9_ n10_ n11_ n12_ n13_ n14_ n15_; have hHeld : w38.cell? ⟨gb158, 0, none⟩ = some (.int .i64 a1_0) ∧ w38.cell? ⟨gb158, 1, none⟩ = some (.slice A1_1 l1_1.length c1_1) ∧ w38.cell? ⟨gb158, 2, none⟩ = some (.int .i64 a1_2) ∧ w38.cell? ⟨gb159, 0, none⟩ = some (.int .i64 a2_0) ∧ w38.cell? ⟨gb159, 1, none⟩ = some (.slice A2_1 l2_1.length c2_1) ∧ w38.cell? ⟨gb159, 2, none⟩ = some (.int .i64 a2_2) := hS_; obtain ⟨Ao40, co40, eo40⟩ := Kd.R_slice HO174.out; (first | subst eo40 | (injection eo40 with f1_ f2_ f3_; have f4_ := f1_.symm; have f5_ := f3_.symm; clear f1_ f2_ f3_; subst f4_; subst f5_))
     refine norm_ (a' := ?_) ?_ ?_
     rotate_left
     ·simp only [putAll, Act.put, sI, s0, sS]
      rfl
     refine one_ (i := 10) (N := none) #[ti,ti,ti,ti,ti,ti,ti,ti,ti,ti,ti,fi] rfl rfl (one_of HT_.out (by kernel_rfl)) (by decide) (fun K hK => ?_)
     have hs39 : w38.cell? ⟨gb176, 0, none⟩ = some (.int .i64 0) := (blk_cell BK176.out 0).trans rfl; have hfs39 := blk_frozen BK176.out 0; have hns39_0 := NB158_176.out; have hns39_1 := NB159_176.out; have hns39_2 := NB160_176.out; have hms39_0 := NB176_158.out; have hms39_1 := NB176_159.out; have hms39_2 := NB176_160.out; have hs41 : w38.cell? ⟨gb176, 1, none⟩ = some (.slice none 0 0) := (blk_cell BK176.out 1).trans rfl; have hfs41 := blk_frozen BK176.out 1; have hns41_0 := NB158_176.out; have hns41_1 := NB159_176.out; have hns41_2 := NB160_176.out; have hms41_0 := NB176_158.out; have hms41_1 := NB176_159.out; have hms41_2 := NB176_160.out
     refine skip_ (w1 := ?_) (by rfl) rfl ?_ ?_
     rotate_left
     ·go_simp
      rfl
     refine hK.out _ _ ⟨((cell_far (p := ⟨gb176, _, none⟩) NB158_176.out _).trans (((cell_far (p := ⟨gb176, _, none⟩) NB158_176.out _).trans (hHeld.1)))), ((cell_far (p := ⟨gb176, _, none⟩) NB158_176.out _).trans (((cell_far (p := ⟨gb176, _, none⟩) NB158_176.out _).trans (hHeld.2.1)))), ((cell_far (p := ⟨gb176, _, none⟩) NB158_176.out _).trans (((cell_far (p := ⟨gb176, _, none⟩) NB158_176.out _).trans (hHeld.2.2.1)))), ((cell_far (p := ⟨gb176, _, none⟩) NB159_176.out _).trans (((cell_far (p := ⟨gb176, _, none⟩) NB159_176.out _).trans (hHeld.2.2.2.1)))), ((cell_far (p := ⟨gb176, _, none⟩) NB159_176.out _).trans (((cell_far (p := ⟨gb176, _, none⟩) NB159_176.out _).trans (hHeld.2.2.2.2.1)))), ((cell_far (p := ⟨gb176, _, none⟩) NB159_176.out _).trans (((cell_far (p := ⟨gb176, _, none⟩) NB159_176.out _).trans (hHeld.2.2.2.2.2))))⟩ (fun hHeld => ?_)
     clear hK K; refine py_ 11 9 HT_.out ?_
     refine done_ (done_of HT_.out (by kernel_rfl)) ?_
     have hnb42 := NB176_158.out; have hnc42 := NB158_176.out; have hnb43 := NB176_159.out; have hnc43 := NB159_176.out; have hnb44 := NB176_160.out; have hnc44 := NB160_176.out; have hcz45_0 : w38.cell? ⟨gb176, 0, none⟩ = some (.int .i64 0) := (blk_cell BK176.out 0).trans rfl; have hcz45_1 : w38.cell? ⟨gb176, 1, none⟩ = some (.slice none 0 0) := (blk_cell BK176.out 1).trans rfl; have hfz45_0 := blk_frozen BK176.out 0; have hfz45_1 := blk_frozen BK176.out 1; (try go_wp2_with (first | ((with_reducible refine gate_callee (f := 54) rfl ?_); refine goesL_ (some 32) rfl rfl Try.func54 (by kernel_rfl) rfl #[.agg #[.int .i64 t171, .slice Ao40 t172.length co40]] rfl zd_ ?_; (with_reducible refine (spec_ddMake.calls kj3 t171 _ _ t172 t177 t178 t181 _ ?side1 ?side2 A30.out).mono ?_); (case side1 => refine (Kd.R_reads' (e := 3) (base := w.heap.size) (ok := fun k_ => (some k_ ≠ (v165 : Value).ownBlock ∧ some k_ ≠ (v169 : Value).ownBlock)) (n := t172.length) (c := co40) ?_).2.2; exact (by refine zr ?_; exact (Kd.R_mono (Kd.R_far (p := ⟨gb176, 1, none⟩) (Kd.R_far (p := ⟨gb176, 0, none⟩) (Kd.R_types HO174.out BK176.out (by decide)) (fun _ hk => hk.2) (.int .i64 t171)) (fun _ hk => hk.2) (.slice Ao40 t172.length co40)) (fun _ h_ => h_.1)))); (case side2 => exact (Kd.R_reads' HO174.out).2.1); rintro e w46 ⟨v179, rfl, ho0, hb⟩; refine ⟨_, rfl, ?_⟩; have n_ := z (Kd.R_below (by refine zr ?_; exact (Kd.R_mono (Kd.R_far (p := ⟨gb176, 1, none⟩) (Kd.R_far (p := ⟨gb176, 0, none⟩) (Kd.R_types HO166.out BK176.out (by decide)) (fun _ hk => hk.2) (.int .i64 t171)) (fun _ hk => hk.2) (.slice Ao40 t172.length co40)) (fun _ h_ => h_.1))) hb) <| z (Kd.R_below (by refine zr ?_; exact (Kd.R_mono (Kd.R_far (p := ⟨gb176, 1, none⟩) (Kd.R_far (p := ⟨gb176, 0, none⟩) (Kd.R_types HO170.out BK176.out (by decide)) (fun _ hk => hk.2) (.int .i64 t171)) (fun _ hk => hk.2) (.slice Ao40 t172.length co40)) (fun _ h_ => h_.1))) hb) <| z (Kd.R_below (by refine zr ?_; exact (Kd.R_mono (Kd.R_far (p := ⟨gb176, 1, none⟩) (Kd.R_far (p := ⟨gb176, 0, none⟩) (Kd.R_types HO174.out BK176.out (by decide)) (fun _ hk => hk.2) (.int .i64 t171)) (fun _ hk => hk.2) (.slice Ao40 t172.length co40)) (fun _ h_ => h_.1))) hb) <| z (Kd.R_lower ho0 (below_size zbb_)) <| z (blk_below (g := gb158) (o := .cells #[.int .i64 a1_0, .slice A1_1 l1_1.length c1_1, .int .i64 a1_2] 28 (0, 0)) (by refine zb ?_; refine blk_far ?_ NB158_176.out _; refine zb ?_; refine blk_far ?_ NB158_176.out _; refine zb ?_; exact BK158.out) hb) <| z (blk_below (g := gb159) (o := .cells #[.int .i64 a2_0, .slice A2_1 l2_1.length c2_1, .int .i64 a2_2] 28 (0, 0)) (by refine zb ?_; refine blk_far ?_ NB159_176.out _; refine zb ?_; refine blk_far ?_ NB159_176.out _; refine zb ?_; exact BK159.out) hb) <| z (blk_below (g := gb160) (o := .cells #[.int .i64 0, .slice none 0 0, .int .i64 0] 28 (0, 0)) (by refine zb ?_; refine blk_far ?_ NB160_176.out _; refine zb ?_; refine blk_far ?_ NB160_176.out _; refine zb ?_; exact BK160.out) hb) <| z (blk_below (g := gb176) (o := .cells #[.int .i64 t171, .slice Ao40 t172.length co40] 41 (0, 0)) (by refine zb ?_; refine blk_put (cs := #[.int .i64 t171, .slice none 0 0]) ?_ 1 _ rfl; refine zb ?_; refine blk_put (cs := #[.int .i64 0, .slice none 0 0]) ?_ 0 _ rfl; refine zb ?_; exact BK176.out) hb) <| z1 (below_step zbb_ hb); clear HO166 HO170 HO174 BK158 BK159 BK160 BK176 HB; obtain ⟨HO166, HO170, HO174, HO180, BK158, BK159, BK160, BK176, HB⟩ := n_; clear hb; (try clear hk); (try clear ho0); have hnb47 := NB160_158.out; have hnc47 := NB158_160.out; have hnb48 := NB160_159.out; have hnc48 := NB159_160.out; have hcz49_0 : w46.cell? ⟨gb160, 0, none⟩ = some (.int .i64 0) := (blk_cell BK160.out 0).trans rfl; have hcz49_1 : w46.cell? ⟨gb160, 1, none⟩ = some (.slice none 0 0) := (blk_cell BK160.out 1).trans rfl; have hcz49_2 : w46.cell? ⟨gb160, 2, none⟩ = some (.int .i64 0) := (blk_cell BK160.out 2).trans rfl; have hfz49_0 := blk_frozen BK160.out 0; have hfz49_1 := blk_frozen BK160.out 1; have hfz49_2 := blk_frozen BK160.out 2; obtain ⟨Ao50, co50, eo50⟩ := Kd.R_slice HO180.out; subst eo50)))
     refine bodyPost_ret (results_ct rfl _ _ gb160 28 #[.int .i64 t177, .slice Ao50 t178.length co50, .int .i64 t181] (0, 0) _ rfl (by refine zb ?_; refine blk_put (cs := #[.int .i64 t177, .slice Ao50 t178.length co50, .int .i64 0]) ?_ 2 _ rfl; refine zb ?_; refine blk_put (cs := #[.int .i64 t177, .slice none 0 0, .int .i64 0]) ?_ 1 _ rfl; refine zb ?_; refine blk_put (cs := #[.int .i64 0, .slice none 0 0, .int .i64 0]) ?_ 0 _ rfl; refine zb ?_; exact BK160.out) Try.underlying28 rfl (by kernel_rfl)) rfl ?_
     exact ⟨_, zf_, by refine zr ?_; exact Kd.R_mono (Kd.R_far (p := ⟨gb160, 2, none⟩) (Kd.R_far (p := ⟨gb160, 1, none⟩) (Kd.R_far (p := ⟨gb160, 0, none⟩) (Kd.R_types HO180.out BK160.out (by decide)) (fun _ hk => hk.2) (.int .i64 t177)) (fun _ hk => hk.2) (.slice Ao50 t178.length co50)) (fun _ hk => hk.2) (.int .i64 t181)) (fun _ hk => trivial), zbb_⟩
    ·replace c29 := Bool.eq_false_iff.mpr c29
     subst c29; have H1 : (some (0, ([] : List (S93)), 0, false)) = some (r1, r2, r3, r4) := by rw [if_neg (show ¬ (false = true) by decide)] at H; exact H
     clear H; have H := H1; clear H1
     simp only [Option.some.injEq, Prod.mk.injEq] at H
     obtain ⟨rfl, rfl, rfl, rfl⟩ := H; (try go_wp2); have n_ := z (blk_drew BK158.out) <| z (blk_drew BK159.out) <| z (blk_drew BK160.out) <| z1 (p1 HB.out)
     clear BK158 BK159 BK160 HB; obtain ⟨BK158, BK159, BK160, HB⟩ := n_
     refine start_ (n := 12) (S := fun w' => w'.cell? ⟨gb158, 0, none⟩ = some (.int .i64 a1_0) ∧ w'.cell? ⟨gb158, 1, none⟩ = some (.slice A1_1 l1_1.length c1_1) ∧ w'.cell? ⟨gb158, 2, none⟩ = some (.int .i64 a1_2) ∧ w'.cell? ⟨gb159, 0, none⟩ = some (.int .i64 a2_0) ∧ w'.cell? ⟨gb159, 1, none⟩ = some (.slice A2_1 l2_1.length c2_1) ∧ w'.cell? ⟨gb159, 2, none⟩ = some (.int .i64 a2_2)) (ds := []) #[fi,fi,fi,fi,fi,fi,fi,fi,fi,fi,fi,fi] (by kernel_rfl) rfl rfl ⟨(blk_cell BK158.out 0).trans rfl, (blk_cell BK158.out 1).trans rfl, (blk_cell BK158.out 2).trans rfl, (blk_cell BK159.out 0).trans rfl, (blk_cell BK159.out 1).trans rfl, (blk_cell BK159.out 2).trans rfl⟩ (fun hHeld => ?_); refine with_tabW spec_CombineDiagrams.tab3 spec_CombineDiagrams.bits3 (fun HT_ HW_ => ?_)
     generalize wc.drew = w51 at BK158 BK159 BK160 HB hHeld ⊢; refine py_ 0 20 HT_.out ?_
     refine take_ (i := 1) (N := some 21) (v := ?_) (a' := ?_) #[ti,ti,fi,fi,fi,fi,fi,fi,fi,fi,fi,fi] rfl rfl (take_ofW HT_.out HW_.out (by kernel_rfl)) (fun _ _ _ h => h) (Or.inl ⟨by rfl, ?_⟩) hHeld ?_ ?_
     rotate_left
     ·rintro w' ⟨s0, s1, s2, s3, s4, s5⟩
      go_simp
      with_reducible rfl
     rotate_left
     ·simp only [Act.put, sI, s0, sS, i64_w, i32_w]
      rfl
     refine take_ (i := 3) (N := some 23) (v := ?_) (a' := ?_) #[ti,ti,fi,ti,fi,fi,fi,fi,fi,fi,fi,fi] rfl rfl (take_ofW HT_.out HW_.out (by kernel_rfl)) (fun _ _ _ h => h) (Or.inl ⟨by rfl, ?_⟩) hHeld ?_ ?_
     rotate_left
     ·rintro w' ⟨s0, s1, s2, s3, s4, s5⟩
      go_simp
      with_reducible rfl
     rotate_left
     ·simp only [Act.put, sI, s0, sS, i64_w, i32_w]
      rfl
     refine join_ (σ := Value × Value × Value × Nat) 2 #[ti,ti,ti,ti,ti,ti,ti,ti,ti,ti,fi,fi] (fun s_ => [(22, .agg #[.int .i64 t163, s_.1]), (24, .agg #[.int .i64 t167, s_.2.1]), (25, .tuple #[.agg #[.int .i64 t171, s_.2.2.1], .bool false]), (8, .pointer (some ⟨s_.2.2.2, 0, none⟩)), (19, .tuple #[.agg #[.int .i64 t171, s_.2.2.1], .bool false]), (26, .agg #[.int .i64 t171, s_.2.2.1]), (27, .bool false)]) (fun s_ w' => (w'.cell? ⟨gb158, 0, none⟩ = some (.int .i64 a1_0) ∧ w'.cell? ⟨gb158, 1, none⟩ = some (.slice A1_1 l1_1.length c1_1) ∧ w'.cell? ⟨gb158, 2, none⟩ = some (.int .i64 a1_2) ∧ w'.cell? ⟨gb159, 0, none⟩ = some (.int .i64 a2_0) ∧ w'.cell? ⟨gb159, 1, none⟩ = some (.slice A2_1 l2_1.length c2_1) ∧ w'.cell? ⟨gb159, 2, none⟩ = some (.int .i64 a2_2)) ∧ (Kd.R (Kd.int .i64) 3 w' w.heap.size (fun k_ => some k_ ≠ (s_.2.1 : Value).ownBlock ∧ some k_ ≠ (s_.2.2.1 : Value).ownBlock) s_.1 t164) ∧ (Kd.R (Kd.int .i64) 3 w' w.heap.size (fun k_ => some k_ ≠ (s_.1 : Value).ownBlock ∧ some k_ ≠ (s_.2.2.1 : Value).ownBlock) s_.2.1 t168) ∧ (Kd.R (Kd.int .i64) 3 w' w.heap.size (fun k_ => some k_ ≠ (s_.1 : Value).ownBlock ∧ some k_ ≠ (s_.2.1 : Value).ownBlock) s_.2.2.1 t172) ∧ (w'.heap[gb158]? = some (.cells #[.int .i64 a1_0, .slice A1_1 l1_1.length c1_1, .int .i64 a1_2] 28 (0, 0))) ∧ (w'.heap[gb159]? = some (.cells #[.int .i64 a2_0, .slice A2_1 l2_1.length c2_1, .int .i64 a2_2] 28 (0, 0))) ∧ (w'.heap[gb160]? = some (.cells #[.int .i64 0, .slice none 0 0, .int .i64 0] 28 (0, 0))) ∧ (w'.heap[s_.2.2.2]? = some (.cells #[.int .i64 0, .slice none 0 0] 41 (0, 0))) ∧ (w.heap.size ≤ s_.2.2.2) ∧ (w.heap.size ≤ s_.2.2.2) ∧ (gb158 ≠ s_.2.2.2) ∧ (s_.2.2.2 ≠ gb158) ∧ (gb159 ≠ s_.2.2.2) ∧ (s_.2.2.2 ≠ gb159) ∧ (gb160 ≠ s_.2.2.2) ∧ (s_.2.2.2 ≠ gb160) ∧ (Below w.heap.size w w')) ?_ ?_
     rotate_left
     ·intro hCont
      refine two_ (i := 2) (j := 9) (Ni := some 22) (Nj := some 8) #[ti,ti,ti,ti,fi,fi,fi,fi,fi,fi,fi,fi] #[ti,ti,fi,ti,fi,fi,fi,fi,fi,ti,fi,fi] rfl rfl rfl rfl (two_of HT_.out (by kernel_rfl)) (by decide) (by decide) (fun K hK => ?_) (fun K hK => ?_)
      ·skip
       refine goes_ Try.func53 (by kernel_rfl) rfl #[.agg #[.int .i64 a1_0, .slice A1_1 l1_1.length c1_1, .int .i64 a1_2]] (by rfl) rfl rfl zd_ ?_
       with_reducible refine (spec_ddTable.calls kj3 a1_0 _ _ l1_1 a1_2 t163 t164 _ ?side1 ?side2 A26.out).mono ?_
       (case side1 => exact zj_)
       (case side2 => exact HC1_1.out)
       rintro e w52 ⟨v165, rfl, ho0, hb⟩
       refine ⟨_, rfl, ?_⟩
       have n_ := z (Kd.R_lower ho0 (below_size zg_)) <| z (blk_below (zb BK158.out) hb) <| z (blk_below (zb BK159.out) hb) <| z (blk_below (zb BK160.out) hb) <| z1 (below_step zg_ hb)
       clear BK158 BK159 BK160 HB; obtain ⟨HO166, BK158, BK159, BK160, HB⟩ := n_; (try clear hb); (try clear hb2); (try clear hk); (try clear hi); (try clear ho0)
       refine hK.out _ _ ⟨(blk_cell BK158.out 0).trans rfl, (blk_cell BK158.out 1).trans rfl, (blk_cell BK158.out 2).trans rfl, (blk_cell BK159.out 0).trans rfl, (blk_cell BK159.out 1).trans rfl, (blk_cell BK159.out 2).trans rfl⟩ (fun hHeld => ?_)
       clear hK K
       refine norm_ (a' := ?_) ?_ ?_
       rotate_left
       ·show Act.put _ (some 22) _ = _
        simp only [Act.put, sI, s0, sS, i64_w, i32_w]
        rfl
       refine two_ (i := 4) (j := 9) (Ni := some 24) (Nj := some 8) #[ti,ti,ti,ti,ti,fi,fi,fi,fi,fi,fi,fi] #[ti,ti,ti,ti,fi,fi,fi,fi,fi,ti,fi,fi] rfl rfl rfl rfl (two_of HT_.out (by kernel_rfl)) (by decide) (by decide) (fun K hK => ?_) (fun K hK => ?_)
       ·skip
        refine goes_ Try.func53 (by kernel_rfl) rfl #[.agg #[.int .i64 a2_0, .slice A2_1 l2_1.length c2_1, .int .i64 a2_2]] (by rfl) rfl rfl zd_ ?_
        with_reducible refine (spec_ddTable.calls kj3 a2_0 _ _ l2_1 a2_2 t167 t168 _ ?side1 ?side2 A27.out).mono ?_
        (case side1 => exact zba_)
        (case side2 => exact HC2_1.out)
        rintro e w53 ⟨v169, rfl, ho0, hb⟩
        refine ⟨_, rfl, ?_⟩
        have n_ := z (Kd.R_elder' (zr HO166.out) (Kd.R_base ho0) hb) <| z (Kd.R_lower (Kd.R_new' ho0 (Kd.R_lt (zr HO166.out))) (below_size zg_)) <| z (blk_below (zb BK158.out) hb) <| z (blk_below (zb BK159.out) hb) <| z (blk_below (zb BK160.out) hb) <| z1 (below_step zg_ hb)
        clear HO166 BK158 BK159 BK160 HB; obtain ⟨HO166, HO170, BK158, BK159, BK160, HB⟩ := n_; (try clear hb); (try clear hb2); (try clear hk); (try clear hi); (try clear ho0); obtain ⟨Ao54, co54, eo54⟩ := Kd.R_slice HO166.out; (first | subst eo54 | (injection eo54 with f1_ f2_ f3_; have f4_ := f1_.symm; have f5_ := f3_.symm; clear f1_ f2_ f3_; subst f4_; subst f5_)); obtain ⟨Ao55, co55, eo55⟩ := Kd.R_slice HO170.out; (first | subst eo55 | (injection eo55 with f1_ f2_ f3_; have f4_ := f1_.symm; have f5_ := f3_.symm; clear f1_ f2_ f3_; subst f4_; subst f5_))
        refine hK.out _ _ ⟨(blk_cell BK158.out 0).trans rfl, (blk_cell BK158.out 1).trans rfl, (blk_cell BK158.out 2).trans rfl, (blk_cell BK159.out 0).trans rfl, (blk_cell BK159.out 1).trans rfl, (blk_cell BK159.out 2).trans rfl⟩ (fun hHeld => ?_)
        clear hK K
        refine norm_ (a' := ?_) ?_ ?_
        rotate_left
        ·show Act.put _ (some 24) _ = _
         simp only [Act.put, sI, s0, sS, i64_w, i32_w]
         rfl
        refine two_ (i := 5) (j := 9) (Ni := some 25) (Nj := some 8) #[ti,ti,ti,ti,ti,ti,fi,fi,fi,fi,fi,fi] #[ti,ti,ti,ti,ti,fi,fi,fi,fi,ti,fi,fi] rfl rfl rfl rfl (two_of HT_.out (by kernel_rfl)) (by decide) (by decide) (fun K hK => ?_) (fun K hK => ?_)
        ·skip
         refine goes_ Try.func52 (by kernel_rfl) rfl #[.int .i64 a0, .agg #[.int .i64 t163, .slice Ao54 t164.length co54], .agg #[.int .i64 t167, .slice Ao55 t168.length co55]] (by rfl) rfl rfl zd_ ?_
         with_reducible refine (spec_CombineTables.calls kj3 a0 t163 _ _ t164 t167 _ _ t168 t171 t172 false _ ?side1 ?side2 ?side3 ?side4 A28.out).mono ?_
         (case side1 => exact zef_)
         (case side2 => exact zeg_)
         (case side3 => exact zeh_)
         (case side4 => exact zei_)
         rintro e w56 ⟨v173, rfl, ho0, hb⟩
         refine ⟨_, rfl, ?_⟩
         have n_ := z (Kd.R_elder' (zr HO166.out) (Kd.R_base ho0) hb) <| z (Kd.R_elder' (zr HO170.out) (Kd.R_base ho0) hb) <| z (Kd.R_lower (Kd.R_new' (Kd.R_new' ho0 (Kd.R_lt (zr HO166.out))) (Kd.R_lt (zr HO170.out))) (below_size zg_)) <| z (blk_below (zb BK158.out) hb) <| z (blk_below (zb BK159.out) hb) <| z (blk_below (zb BK160.out) hb) <| z1 (below_step zg_ hb)
         clear HO166 HO170 BK158 BK159 BK160 HB; obtain ⟨HO166, HO170, HO174, BK158, BK159, BK160, HB⟩ := n_; (try clear hb); (try clear hb2); (try clear hk); (try clear hi); (try clear ho0)
         refine hK.out _ _ ⟨(blk_cell BK158.out 0).trans rfl, (blk_cell BK158.out 1).trans rfl, (blk_cell BK158.out 2).trans rfl, (blk_cell BK159.out 0).trans rfl, (blk_cell BK159.out 1).trans rfl, (blk_cell BK159.out 2).trans rfl⟩ (fun hHeld => ?_)
         clear hK K
         refine norm_ (a' := ?_) ?_ ?_
         rotate_left
         ·show Act.put _ (some 25) _ = _
          simp only [Act.put, sI, s0, sS, i64_w, i32_w]
          rfl
         refine py_ 6 19 HT_.out ?_; refine py_ 7 26 HT_.out ?_; refine py_ 8 27 HT_.out ?_
         refine one_ (i := 9) (N := some 8) #[ti,ti,ti,ti,ti,ti,ti,ti,ti,ti,fi,fi] rfl rfl (one_of HT_.out (by kernel_rfl)) (by decide) (fun K hK => ?_)
         refine box_step ?hg (N := 8) ?hd (cs := #[.int .i64 0, .slice none 0 0]) (t := 41) ?hr ?_; (case hd => rfl); (case hg => rfl); (case hr => exact zb_)
         intro gb176 hg w57 hbox hb
         have n_ := z (Kd.R_below (zr HO166.out) hb) <| z (Kd.R_below (zr HO170.out) hb) <| z (Kd.R_below (zr HO174.out) hb) <| z (blk_below (zb BK158.out) hb) <| z (blk_below (zb BK159.out) hb) <| z (blk_below (zb BK160.out) hb) <| z (below_step zg_ hb) <| z (hbox) <| z ((by rw [hg]; exact (below_size zg_) : w.heap.size ≤ gb176)) <| z ((by rw [hg]; exact (below_size zg_) : w.heap.size ≤ gb176)) <| z ((by rw [hg]; exact Nat.ne_of_lt (blk_lt (zb BK158.out)) : gb158 ≠ gb176)) <| z ((by rw [hg]; exact Nat.ne_of_gt (blk_lt (zb BK158.out)) : gb176 ≠ gb158)) <| z ((by rw [hg]; exact Nat.ne_of_lt (blk_lt (zb BK159.out)) : gb159 ≠ gb176)) <| z ((by rw [hg]; exact Nat.ne_of_gt (blk_lt (zb BK159.out)) : gb176 ≠ gb159)) <| z ((by rw [hg]; exact Nat.ne_of_lt (blk_lt (zb BK160.out)) : gb160 ≠ gb176)) <| z1 ((by rw [hg]; exact Nat.ne_of_gt (blk_lt (zb BK160.out)) : gb176 ≠ gb160))
         clear HO166 HO170 HO174 BK158 BK159 BK160 HB; obtain ⟨HO166, HO170, HO174, BK158, BK159, BK160, HB, BK176, GW176, GE176, NB158_176, NB176_158, NB159_176, NB176_159, NB160_176, NB176_160⟩ := n_; clear hb hbox hg
         refine hK.out _ _ ⟨(blk_cell BK158.out 0).trans rfl, (blk_cell BK158.out 1).trans rfl, (blk_cell BK158.out 2).trans rfl, (blk_cell BK159.out 0).trans rfl, (blk_cell BK159.out 1).trans rfl, (blk_cell BK159.out 2).trans rfl⟩ (fun hHeld => ?_)
         clear hK K
         refine norm_ (a' := ?_) ?_ ?_
         rotate_left
         ·show Act.put _ (some 8) _ = _
          simp only [Act.put, sI, s0, sS, i64_w, i32_w]
          rfl
         exact norm_ (by simp only [putAll, Act.put, sI, s0, sS]) (hCont (.slice Ao54 t164.length co54, .slice Ao55 t168.length co55, v173, gb176) _ ⟨hHeld, zej_, zfa_, zfb_, (zb BK158.out), (zb BK159.out), (zb BK160.out), (zb BK176.out), GW176.out, GE176.out, NB158_176.out, NB176_158.out, NB159_176.out, NB176_159.out, NB160_176.out, NB176_160.out, zbb_⟩)
        ·skip
         refine box_step ?hg (N := 8) ?hd (cs := #[.int .i64 0, .slice none 0 0]) (t := 41) ?hr ?_; (case hd => rfl); (case hg => rfl); (case hr => exact zb_)
         intro gb176 hg w54 hbox hb
         have n_ := z (Kd.R_below (zr HO166.out) hb) <| z (Kd.R_below (zr HO170.out) hb) <| z (blk_below (zb BK158.out) hb) <| z (blk_below (zb BK159.out) hb) <| z (blk_below (zb BK160.out) hb) <| z (below_step zg_ hb) <| z (hbox) <| z ((by rw [hg]; exact (below_size zg_) : w.heap.size ≤ gb176)) <| z ((by rw [hg]; exact (below_size zg_) : w.heap.size ≤ gb176)) <| z ((by rw [hg]; exact Nat.ne_of_lt (blk_lt (zb BK158.out)) : gb158 ≠ gb176)) <| z ((by rw [hg]; exact Nat.ne_of_gt (blk_lt (zb BK158.out)) : gb176 ≠ gb158)) <| z ((by rw [hg]; exact Nat.ne_of_lt (blk_lt (zb BK159.out)) : gb159 ≠ gb176)) <| z ((by rw [hg]; exact Nat.ne_of_gt (blk_lt (zb BK159.out)) : gb176 ≠ gb159)) <| z ((by rw [hg]; exact Nat.ne_of_lt (blk_lt (zb BK160.out)) : gb160 ≠ gb176)) <| z1 ((by rw [hg]; exact Nat.ne_of_gt (blk_lt (zb BK160.out)) : gb176 ≠ gb160))
         clear HO166 HO170 BK158 BK159 BK160 HB; obtain ⟨HO166, HO170, BK158, BK159, BK160, HB, BK176, GW176, GE176, NB158_176, NB176_158, NB159_176, NB176_159, NB160_176, NB176_160⟩ := n_; clear hb hbox hg; obtain ⟨Ao55, co55, eo55⟩ := Kd.R_slice HO166.out; (first | subst eo55 | (injection eo55 with f1_ f2_ f3_; have f4_ := f1_.symm; have f5_ := f3_.symm; clear f1_ f2_ f3_; subst f4_; subst f5_)); obtain ⟨Ao56, co56, eo56⟩ := Kd.R_slice HO170.out; (first | subst eo56 | (injection eo56 with f1_ f2_ f3_; have f4_ := f1_.symm; have f5_ := f3_.symm; clear f1_ f2_ f3_; subst f4_; subst f5_))
         refine hK.out _ _ ⟨(blk_cell BK158.out 0).trans rfl, (blk_cell BK158.out 1).trans rfl, (blk_cell BK158.out 2).trans rfl, (blk_cell BK159.out 0).trans rfl, (blk_cell BK159.out 1).trans rfl, (blk_cell BK159.out 2).trans rfl⟩ (fun hHeld => ?_)
         clear hK K
         refine norm_ (a' := ?_) ?_ ?_
         rotate_left
         ·show Act.put _ (some 8) _ = _
          simp only [Act.put, sI, s0, sS, i64_w, i32_w]
          rfl
         refine one_ (i := 5) (N := some 25) #[ti,ti,ti,ti,ti,ti,fi,fi,fi,ti,fi,fi] rfl rfl (one_of HT_.out (by kernel_rfl)) (by decide) (fun K hK => ?_)
         refine goes_ Try.func52 (by kernel_rfl) rfl #[.int .i64 a0, .agg #[.int .i64 t163, .slice Ao55 t164.length co55], .agg #[.int .i64 t167, .slice Ao56 t168.length co56]] (by rfl) rfl rfl zd_ ?_
         with_reducible refine (spec_CombineTables.calls kj3 a0 t163 _ _ t164 t167 _ _ t168 t171 t172 false _ ?side1 ?side2 ?side3 ?side4 A28.out).mono ?_
         (case side1 => exact zef_)
         (case side2 => exact zeg_)
         (case side3 => exact zeh_)
         (case side4 => exact zei_)
         rintro e w57 ⟨v173, rfl, ho0, hb⟩
         refine ⟨_, rfl, ?_⟩
         have n_ := z (Kd.R_elder' (zr HO166.out) (Kd.R_base ho0) hb) <| z (Kd.R_elder' (zr HO170.out) (Kd.R_base ho0) hb) <| z (Kd.R_lower (Kd.R_new' (Kd.R_new' ho0 (Kd.R_lt (zr HO166.out))) (Kd.R_lt (zr HO170.out))) (below_size zbb_)) <| z (blk_below (zb BK158.out) hb) <| z (blk_below (zb BK159.out) hb) <| z (blk_below (zb BK160.out) hb) <| z (blk_below (zb BK176.out) hb) <| z1 (below_step zbb_ hb)
         clear HO166 HO170 BK158 BK159 BK160 BK176 HB; obtain ⟨HO166, HO170, HO174, BK158, BK159, BK160, BK176, HB⟩ := n_; (try clear hb); (try clear hb2); (try clear hk); (try clear hi); (try clear ho0)
         refine hK.out _ _ ⟨(blk_cell BK158.out 0).trans rfl, (blk_cell BK158.out 1).trans rfl, (blk_cell BK158.out 2).trans rfl, (blk_cell BK159.out 0).trans rfl, (blk_cell BK159.out 1).trans rfl, (blk_cell BK159.out 2).trans rfl⟩ (fun hHeld => ?_)
         clear hK K
         refine norm_ (a' := ?_) ?_ ?_
         rotate_left
         ·show Act.put _ (some 25) _ = _
          simp only [Act.put, sI, s0, sS, i64_w, i32_w]
          rfl
         refine py_ 6 19 HT_.out ?_; refine py_ 7 26 HT_.out ?_; refine py_ 8 27 HT_.out ?_
         exact norm_ (by simp only [putAll, Act.put, sI, s0, sS]) (hCont (.slice Ao55 t164.length co55, .slice Ao56 t168.length co56, v173, gb176) _ ⟨hHeld, zej_, zfa_, zfb_, (zb BK158.out), (zb BK159.out), (zb BK160.out), (zb BK176.out), GW176.out, GE176.out, NB158_176.out, NB176_158.out, NB159_176.out, NB176_159.out, NB160_176.out, NB176_160.out, zbb_⟩)
       ·skip
        refine box_step ?hg (N := 8) ?hd (cs := #[.int .i64 0, .slice none 0 0]) (t := 41) ?hr ?_; (case hd => rfl); (case hg => rfl); (case hr => exact zb_)
        intro gb176 hg w53 hbox hb
        have n_ := z (Kd.R_below (zr HO166.out) hb) <| z (blk_below (zb BK158.out) hb) <| z (blk_below (zb BK159.out) hb) <| z (blk_below (zb BK160.out) hb) <| z (below_step zg_ hb) <| z (hbox) <| z ((by rw [hg]; exact (below_size zg_) : w.heap.size ≤ gb176)) <| z ((by rw [hg]; exact (below_size zg_) : w.heap.size ≤ gb176)) <| z ((by rw [hg]; exact Nat.ne_of_lt (blk_lt (zb BK158.out)) : gb158 ≠ gb176)) <| z ((by rw [hg]; exact Nat.ne_of_gt (blk_lt (zb BK158.out)) : gb176 ≠ gb158)) <| z ((by rw [hg]; exact Nat.ne_of_lt (blk_lt (zb BK159.out)) : gb159 ≠ gb176)) <| z ((by rw [hg]; exact Nat.ne_of_gt (blk_lt (zb BK159.out)) : gb176 ≠ gb159)) <| z ((by rw [hg]; exact Nat.ne_of_lt (blk_lt (zb BK160.out)) : gb160 ≠ gb176)) <| z1 ((by rw [hg]; exact Nat.ne_of_gt (blk_lt (zb BK160.out)) : gb176 ≠ gb160))
        clear HO166 BK158 BK159 BK160 HB; obtain ⟨HO166, BK158, BK159, BK160, HB, BK176, GW176, GE176, NB158_176, NB176_158, NB159_176, NB176_159, NB160_176, NB176_160⟩ := n_; clear hb hbox hg
        refine hK.out _ _ ⟨(blk_cell BK158.out 0).trans rfl, (blk_cell BK158.out 1).trans rfl, (blk_cell BK158.out 2).trans rfl, (blk_cell BK159.out 0).trans rfl, (blk_cell BK159.out 1).trans rfl, (blk_cell BK159.out 2).trans rfl⟩ (fun hHeld => ?_)
        clear hK K
        refine norm_ (a' := ?_) ?_ ?_
        rotate_left
        ·show Act.put _ (some 8) _ = _
         simp only [Act.put, sI, s0, sS, i64_w, i32_w]
         rfl
        refine one_ (i := 4) (N := some 24) #[ti,ti,ti,ti,ti,fi,fi,fi,fi,ti,fi,fi] rfl rfl (one_of HT_.out (by kernel_rfl)) (by decide) (fun K hK => ?_)
        refine goes_ Try.func53 (by kernel_rfl) rfl #[.agg #[.int .i64 a2_0, .slice A2_1 l2_1.length c2_1, .int .i64 a2_2]] (by rfl) rfl rfl zd_ ?_
        with_reducible refine (spec_ddTable.calls kj3 a2_0 _ _ l2_1 a2_2 t167 t168 _ ?side1 ?side2 A27.out).mono ?_
        (case side1 => exact zba_)
        (case side2 => exact HC2_1.out)
        rintro e w54 ⟨v169, rfl, ho0, hb⟩
        refine ⟨_, rfl, ?_⟩
        have n_ := z (Kd.R_elder' (zr HO166.out) (Kd.R_base ho0) hb) <| z (Kd.R_lower (Kd.R_new' ho0 (Kd.R_lt (zr HO166.out))) (below_size zbb_)) <| z (blk_below (zb BK158.out) hb) <| z (blk_below (zb BK159.out) hb) <| z (blk_below (zb BK160.out) hb) <| z (blk_below (zb BK176.out) hb) <| z1 (below_step zbb_ hb)
        clear HO166 BK158 BK159 BK160 BK176 HB; obtain ⟨HO166, HO170, BK158, BK159, BK160, BK176, HB⟩ := n_; (try clear hb); (try clear hb2); (try clear hk); (try clear hi); (try clear ho0); obtain ⟨Ao55, co55, eo55⟩ := Kd.R_slice HO166.out; (first | subst eo55 | (injection eo55 with f1_ f2_ f3_; have f4_ := f1_.symm; have f5_ := f3_.symm; clear f1_ f2_ f3_; subst f4_; subst f5_)); obtain ⟨Ao56, co56, eo56⟩ := Kd.R_slice HO170.out; (first | subst eo56 | (injection eo56 with f1_ f2_ f3_; have f4_ := f1_.symm; have f5_ := f3_.symm; clear f1_ f2_ f3_; subst f4_; subst f5_))
        refine hK.out _ _ ⟨(blk_cell BK158.out 0).trans rfl, (blk_cell BK158.out 1).trans rfl, (blk_cell BK158.out 2).trans rfl, (blk_cell BK159.out 0).trans rfl, (blk_cell BK159.out 1).trans rfl, (blk_cell BK159.out 2).trans rfl⟩ (fun hHeld => ?_)
        clear hK K
        refine norm_ (a' := ?_) ?_ ?_
        rotate_left
        ·show Act.put _ (some 24) _ = _
         simp only [Act.put, sI, s0, sS, i64_w, i32_w]
         rfl
        refine one_ (i := 5) (N := some 25) #[ti,ti,ti,ti,ti,ti,fi,fi,fi,ti,fi,fi] rfl rfl (one_of HT_.out (by kernel_rfl)) (by decide) (fun K hK => ?_)
        refine goes_ Try.func52 (by kernel_rfl) rfl #[.int .i64 a0, .agg #[.int .i64 t163, .slice Ao55 t164.length co55], .agg #[.int .i64 t167, .slice Ao56 t168.length co56]] (by rfl) rfl rfl zd_ ?_
        with_reducible refine (spec_CombineTables.calls kj3 a0 t163 _ _ t164 t167 _ _ t168 t171 t172 false _ ?side1 ?side2 ?side3 ?side4 A28.out).mono ?_
        (case side1 => exact zef_)
        (case side2 => exact zeg_)
        (case side3 => exact zeh_)
        (case side4 => exact zei_)
        rintro e w57 ⟨v173, rfl, ho0, hb⟩
        refine ⟨_, rfl, ?_⟩
        have n_ := z (Kd.R_elder' (zr HO166.out) (Kd.R_base ho0) hb) <| z (Kd.R_elder' (zr HO170.out) (Kd.R_base ho0) hb) <| z (Kd.R_lower (Kd.R_new' (Kd.R_new' ho0 (Kd.R_lt (zr HO166.out))) (Kd.R_lt (zr HO170.out))) (below_size zbb_)) <| z (blk_below (zb BK158.out) hb) <| z (blk_below (zb BK159.out) hb) <| z (blk_below (zb BK160.out) hb) <| z (blk_below (zb BK176.out) hb) <| z1 (below_step zbb_ hb)
        clear HO166 HO170 BK158 BK159 BK160 BK176 HB; obtain ⟨HO166, HO170, HO174, BK158, BK159, BK160, BK176, HB⟩ := n_; (try clear hb); (try clear hb2); (try clear hk); (try clear hi); (try clear ho0)
        refine hK.out _ _ ⟨(blk_cell BK158.out 0).trans rfl, (blk_cell BK158.out 1).trans rfl, (blk_cell BK158.out 2).trans rfl, (blk_cell BK159.out 0).trans rfl, (blk_cell BK159.out 1).trans rfl, (blk_cell BK159.out 2).trans rfl⟩ (fun hHeld => ?_)
        clear hK K
        refine norm_ (a' := ?_) ?_ ?_
        rotate_left
        ·show Act.put _ (some 25) _ = _
         simp only [Act.put, sI, s0, sS, i64_w, i32_w]
         rfl
        refine py_ 6 19 HT_.out ?_; refine py_ 7 26 HT_.out ?_; refine py_ 8 27 HT_.out ?_
        exact norm_ (by simp only [putAll, Act.put, sI, s0, sS]) (hCont (.slice Ao55 t164.length co55, .slice Ao56 t168.length co56, v173, gb176) _ ⟨hHeld, zej_, zfa_, zfb_, (zb BK158.out), (zb BK159.out), (zb BK160.out), (zb BK176.out), GW176.out, GE176.out, NB158_176.out, NB176_158.out, NB159_176.out, NB176_159.out, NB160_176.out, NB176_160.out, zbb_⟩)
      ·skip
       refine box_step ?hg (N := 8) ?hd (cs := #[.int .i64 0, .slice none 0 0]) (t := 41) ?hr ?_; (case hd => rfl); (case hg => rfl); (case hr => exact zb_)
       intro gb176 hg w52 hbox hb
       have n_ := z (blk_below (zb BK158.out) hb) <| z (blk_below (zb BK159.out) hb) <| z (blk_below (zb BK160.out) hb) <| z (below_step zg_ hb) <| z (hbox) <| z ((by rw [hg]; exact (below_size zg_) : w.heap.size ≤ gb176)) <| z ((by rw [hg]; exact (below_size zg_) : w.heap.size ≤ gb176)) <| z ((by rw [hg]; exact Nat.ne_of_lt (blk_lt (zb BK158.out)) : gb158 ≠ gb176)) <| z ((by rw [hg]; exact Nat.ne_of_gt (blk_lt (zb BK158.out)) : gb176 ≠ gb158)) <| z ((by rw [hg]; exact Nat.ne_of_lt (blk_lt (zb BK159.out)) : gb159 ≠ gb176)) <| z ((by rw [hg]; exact Nat.ne_of_gt (blk_lt (zb BK159.out)) : gb176 ≠ gb159)) <| z ((by rw [hg]; exact Nat.ne_of_lt (blk_lt (zb BK160.out)) : gb160 ≠ gb176)) <| z1 ((by rw [hg]; exact Nat.ne_of_gt (blk_lt (zb BK160.out)) : gb176 ≠ gb160))
       clear BK158 BK159 BK160 HB; obtain ⟨BK158, BK159, BK160, HB, BK176, GW176, GE176, NB158_176, NB176_158, NB159_176, NB176_159, NB160_176, NB176_160⟩ := n_; clear hb hbox hg
       refine hK.out _ _ ⟨(blk_cell BK158.out 0).trans rfl, (blk_cell BK158.out 1).trans rfl, (blk_cell BK158.out 2).trans rfl, (blk_cell BK159.out 0).trans rfl, (blk_cell BK159.out 1).trans rfl, (blk_cell BK159.out 2).trans rfl⟩ (fun hHeld => ?_)
       clear hK K
       refine norm_ (a' := ?_) ?_ ?_
       rotate_left
       ·show Act.put _ (some 8) _ = _
        simp only [Act.put, sI, s0, sS, i64_w, i32_w]
        rfl
       refine one_ (i := 2) (N := some 22) #[ti,ti,ti,ti,fi,fi,fi,fi,fi,ti,fi,fi] rfl rfl (one_of HT_.out (by kernel_rfl)) (by decide) (fun K hK => ?_)
       refine goes_ Try.func53 (by kernel_rfl) rfl #[.agg #[.int .i64 a1_0, .slice A1_1 l1_1.length c1_1, .int .i64 a1_2]] (by rfl) rfl rfl zd_ ?_
       with_reducible refine (spec_ddTable.calls kj3 a1_0 _ _ l1_1 a1_2 t163 t164 _ ?side1 ?side2 A26.out).mono ?_
       (case side1 => exact zj_)
       (case side2 => exact HC1_1.out)
       rintro e w53 ⟨v165, rfl, ho0, hb⟩
       refine ⟨_, rfl, ?_⟩
       have n_ := z (Kd.R_lower ho0 (below_size zbb_)) <| z (blk_below (zb BK158.out) hb) <| z (blk_below (zb BK159.out) hb) <| z (blk_below (zb BK160.out) hb) <| z (blk_below (zb BK176.out) hb) <| z1 (below_step zbb_ hb)
       clear BK158 BK159 BK160 BK176 HB; obtain ⟨HO166, BK158, BK159, BK160, BK176, HB⟩ := n_; (try clear hb); (try clear hb2); (try clear hk); (try clear hi); (try clear ho0)
       refine hK.out _ _ ⟨(blk_cell BK158.out 0).trans rfl, (blk_cell BK158.out 1).trans rfl, (blk_cell BK158.out 2).trans rfl, (blk_cell BK159.out 0).trans rfl, (blk_cell BK159.out 1).trans rfl, (blk_cell BK159.out 2).trans rfl⟩ (fun hHeld => ?_)
       clear hK K
       refine norm_ (a' := ?_) ?_ ?_
       rotate_left
       ·show Act.put _ (some 22) _ = _
        simp only [Act.put, sI, s0, sS, i64_w, i32_w]
        rfl
       refine one_ (i := 4) (N := some 24) #[ti,ti,ti,ti,ti,fi,fi,fi,fi,ti,fi,fi] rfl rfl (one_of HT_.out (by kernel_rfl)) (by decide) (fun K hK => ?_)
       refine goes_ Try.func53 (by kernel_rfl) rfl #[.agg #[.int .i64 a2_0, .slice A2_1 l2_1.length c2_1, .int .i64 a2_2]] (by rfl) rfl rfl zd_ ?_
       with_reducible refine (spec_ddTable.calls kj3 a2_0 _ _ l2_1 a2_2 t167 t168 _ ?side1 ?side2 A27.out).mono ?_
       (case side1 => exact zba_)
       (case side2 => exact HC2_1.out)
       rintro e w54 ⟨v169, rfl, ho0, hb⟩
       refine ⟨_, rfl, ?_⟩
       have n_ := z (Kd.R_elder' (zr HO166.out) (Kd.R_base ho0) hb) <| z (Kd.R_lower (Kd.R_new' ho0 (Kd.R_lt (zr HO166.out))) (below_size zbb_)) <| z (blk_below (zb BK158.out) hb) <| z (blk_below (zb BK159.out) hb) <| z (blk_below (zb BK160.out) hb) <| z (blk_below (zb BK176.out) hb) <| z1 (below_step zbb_ hb)
       clear HO166 BK158 BK159 BK160 BK176 HB; obtain ⟨HO166, HO170, BK158, BK159, BK160, BK176, HB⟩ := n_; (try clear hb); (try clear hb2); (try clear hk); (try clear hi); (try clear ho0); obtain ⟨Ao55, co55, eo55⟩ := Kd.R_slice HO166.out; (first | subst eo55 | (injection eo55 with f1_ f2_ f3_; have f4_ := f1_.symm; have f5_ := f3_.symm; clear f1_ f2_ f3_; subst f4_; subst f5_)); obtain ⟨Ao56, co56, eo56⟩ := Kd.R_slice HO170.out; (first | subst eo56 | (injection eo56 with f1_ f2_ f3_; have f4_ := f1_.symm; have f5_ := f3_.symm; clear f1_ f2_ f3_; subst f4_; subst f5_))
       refine hK.out _ _ ⟨(blk_cell BK158.out 0).trans rfl, (blk_cell BK158.out 1).trans rfl, (blk_cell BK158.out 2).trans rfl, (blk_cell BK159.out 0).trans rfl, (blk_cell BK159.out 1).trans rfl, (blk_cell BK159.out 2).trans rfl⟩ (fun hHeld => ?_)
       clear hK K
       refine norm_ (a' := ?_) ?_ ?_
       rotate_left
       ·show Act.put _ (some 24) _ = _
        simp only [Act.put, sI, s0, sS, i64_w, i32_w]
        rfl
       refine one_ (i := 5) (N := some 25) #[ti,ti,ti,ti,ti,ti,fi,fi,fi,ti,fi,fi] rfl rfl (one_of HT_.out (by kernel_rfl)) (by decide) (fun K hK => ?_)
       refine goes_ Try.func52 (by kernel_rfl) rfl #[.int .i64 a0, .agg #[.int .i64 t163, .slice Ao55 t164.length co55], .agg #[.int .i64 t167, .slice Ao56 t168.length co56]] (by rfl) rfl rfl zd_ ?_
       with_reducible refine (spec_CombineTables.calls kj3 a0 t163 _ _ t164 t167 _ _ t168 t171 t172 false _ ?side1 ?side2 ?side3 ?side4 A28.out).mono ?_
       (case side1 => exact zef_)
       (case side2 => exact zeg_)
       (case side3 => exact zeh_)
       (case side4 => exact zei_)
       rintro e w57 ⟨v173, rfl, ho0, hb⟩
       refine ⟨_, rfl, ?_⟩
       have n_ := z (Kd.R_elder' (zr HO166.out) (Kd.R_base ho0) hb) <| z (Kd.R_elder' (zr HO170.out) (Kd.R_base ho0) hb) <| z (Kd.R_lower (Kd.R_new' (Kd.R_new' ho0 (Kd.R_lt (zr HO166.out))) (Kd.R_lt (zr HO170.out))) (below_size zbb_)) <| z (blk_below (zb BK158.out) hb) <| z (blk_below (zb BK159.out) hb) <| z (blk_below (zb BK160.out) hb) <| z (blk_below (zb BK176.out) hb) <| z1 (below_step zbb_ hb)
       clear HO166 HO170 BK158 BK159 BK160 BK176 HB; obtain ⟨HO166, HO170, HO174, BK158, BK159, BK160, BK176, HB⟩ := n_; (try clear hb); (try clear hb2); (try clear hk); (try clear hi); (try clear ho0)
       refine hK.out _ _ ⟨(blk_cell BK158.out 0).trans rfl, (blk_cell BK158.out 1).trans rfl, (blk_cell BK158.out 2).trans rfl, (blk_cell BK159.out 0).trans rfl, (blk_cell BK159.out 1).trans rfl, (blk_cell BK159.out 2).trans rfl⟩ (fun hHeld => ?_)
       clear hK K
       refine norm_ (a' := ?_) ?_ ?_
       rotate_left
       ·show Act.put _ (some 25) _ = _
        simp only [Act.put, sI, s0, sS, i64_w, i32_w]
        rfl
       refine py_ 6 19 HT_.out ?_; refine py_ 7 26 HT_.out ?_; refine py_ 8 27 HT_.out ?_
       exact norm_ (by simp only [putAll, Act.put, sI, s0, sS]) (hCont (.slice Ao55 t164.length co55, .slice Ao56 t168.length co56, v173, gb176) _ ⟨hHeld, zej_, zfa_, zfb_, (zb BK158.out), (zb BK159.out), (zb BK160.out), (zb BK176.out), GW176.out, GE176.out, NB158_176.out, NB176_158.out, NB159_176.out, NB176_159.out, NB160_176.out, NB176_160.out, zbb_⟩)
     rintro ⟨v165, v169, v173, gb176⟩ w58 ⟨hS_, h0_, h1_, h2_, h3_, h4_, h5_, h6_, h7_, h8_, h9_, h10_, h11_, h12_, h13_, h14_, h15_⟩
     have n0_ : Aside0 (Kd.R (Kd.int .i64) 3 w58 w.heap.size (fun k_ => some k_ ≠ (v169 : Value).ownBlock ∧ some k_ ≠ (v173 : Value).ownBlock) v165 t164) := ⟨h0_⟩; have n1_ : Aside0 (Kd.R (Kd.int .i64) 3 w58 w.heap.size (fun k_ => some k_ ≠ (v165 : Value).ownBlock ∧ some k_ ≠ (v173 : Value).ownBlock) v169 t168) := ⟨h1_⟩; have n2_ : Aside0 (Kd.R (Kd.int .i64) 3 w58 w.heap.size (fun k_ => some k_ ≠ (v165 : Value).ownBlock ∧ some k_ ≠ (v169 : Value).ownBlock) v173 t172) := ⟨h2_⟩; have n3_ : Aside0 (w58.heap[gb158]? = some (.cells #[.int .i64 a1_0, .slice A1_1 l1_1.length c1_1, .int .i64 a1_2] 28 (0, 0))) := ⟨h3_⟩; have n4_ : Aside0 (w58.heap[gb159]? = some (.cells #[.int .i64 a2_0, .slice A2_1 l2_1.length c2_1, .int .i64 a2_2] 28 (0, 0))) := ⟨h4_⟩; have n5_ : Aside0 (w58.heap[gb160]? = some (.cells #[.int .i64 0, .slice none 0 0, .int .i64 0] 28 (0, 0))) := ⟨h5_⟩; have n6_ : Aside0 (w58.heap[gb176]? = some (.cells #[.int .i64 0, .slice none 0 0] 41 (0, 0))) := ⟨h6_⟩; have n7_ : Aside0 (w.heap.size ≤ gb176) := ⟨h7_⟩; have n8_ : Aside0 (w.heap.size ≤ gb176) := ⟨h8_⟩; have n9_ : Aside0 (gb158 ≠ gb176) := ⟨h9_⟩; have n10_ : Aside0 (gb176 ≠ gb158) := ⟨h10_⟩; have n11_ : Aside0 (gb159 ≠ gb176) := ⟨h11_⟩; have n12_ : Aside0 (gb176 ≠ gb159) := ⟨h12_⟩; have n13_ : Aside0 (gb160 ≠ gb176) := ⟨h13_⟩; have n14_ : Aside0 (gb176 ≠ gb160) := ⟨h14_⟩; have n15_ : Aside0 (Below w.heap.size w w58) := ⟨h15_⟩; clear BK158 BK159 BK160 HB h0_ h1_ h2_ h3_ h4_ h5_ h6_ h7_ h8_ h9_ h10_ h11_ h12_ h13_ h14_ h15_; have HO166 := n0_; have HO170 := n1_; have HO174 := n2_; have BK158 := n3_; have BK159 := n4_; have BK160 := n5_; have BK176 := n6_; have GW176 := n7_; have GE176 := n8_; have NB158_176 := n9_; have NB176_158 := n10_; have NB159_176 := n11_; have NB176_159 := n12_; have NB160_176 := n13_; have NB176_160 := n14_; have HB := n15_; clear n0_ n1_ n2_ n3_ n4_ n5_ n6_ n7_ n8_ n9_ n10_ n11_ n12_ n13_ n14_ n15_; have hHeld : w58.cell? ⟨gb158, 0, none⟩ = some (.int .i64 a1_0) ∧ w58.cell? ⟨gb158, 1, none⟩ = some (.slice A1_1 l1_1.length c1_1) ∧ w58.cell? ⟨gb158, 2, none⟩ = some (.int .i64 a1_2) ∧ w58.cell? ⟨gb159, 0, none⟩ = some (.int .i64 a2_0) ∧ w58.cell? ⟨gb159, 1, none⟩ = some (.slice A2_1 l2_1.length c2_1) ∧ w58.cell? ⟨gb159, 2, none⟩ = some (.int .i64 a2_2) := hS_; obtain ⟨Ao60, co60, eo60⟩ := Kd.R_slice HO174.out; (first | subst eo60 | (injection eo60 with f1_ f2_ f3_; have f4_ := f1_.symm; have f5_ := f3_.symm; clear f1_ f2_ f3_; subst f4_; subst f5_))
     refine norm_ (a' := ?_) ?_ ?_
     rotate_left
     ·simp only [putAll, Act.put, sI, s0, sS]
      rfl
     refine one_ (i := 10) (N := none) #[ti,ti,ti,ti,ti,ti,ti,ti,ti,ti,ti,fi] rfl rfl (one_of HT_.out (by kernel_rfl)) (by decide) (fun K hK => ?_)
     have hs59 : w58.cell? ⟨gb176, 0, none⟩ = some (.int .i64 0) := (blk_cell BK176.out 0).trans rfl; have hfs59 := blk_frozen BK176.out 0; have hns59_0 := NB158_176.out; have hns59_1 := NB159_176.out; have hns59_2 := NB160_176.out; have hms59_0 := NB176_158.out; have hms59_1 := NB176_159.out; have hms59_2 := NB176_160.out; have hs61 : w58.cell? ⟨gb176, 1, none⟩ = some (.slice none 0 0) := (blk_cell BK176.out 1).trans rfl; have hfs61 := blk_frozen BK176.out 1; have hns61_0 := NB158_176.out; have hns61_1 := NB159_176.out; have hns61_2 := NB160_176.out; have hms61_0 := NB176_158.out; have hms61_1 := NB176_159.out; have hms61_2 := NB176_160.out
     refine skip_ (w1 := ?_) (by rfl) rfl ?_ ?_
     rotate_left
     ·go_simp
      rfl
     refine hK.out _ _ ⟨((cell_far (p := ⟨gb176, _, none⟩) NB158_176.out _).trans (((cell_far (p := ⟨gb176, _, none⟩) NB158_176.out _).trans (hHeld.1)))), ((cell_far (p := ⟨gb176, _, none⟩) NB158_176.out _).trans (((cell_far (p := ⟨gb176, _, none⟩) NB158_176.out _).trans (hHeld.2.1)))), ((cell_far (p := ⟨gb176, _, none⟩) NB158_176.out _).trans (((cell_far (p := ⟨gb176, _, none⟩) NB158_176.out _).trans (hHeld.2.2.1)))), ((cell_far (p := ⟨gb176, _, none⟩) NB159_176.out _).trans (((cell_far (p := ⟨gb176, _, none⟩) NB159_176.out _).trans (hHeld.2.2.2.1)))), ((cell_far (p := ⟨gb176, _, none⟩) NB159_176.out _).trans (((cell_far (p := ⟨gb176, _, none⟩) NB159_176.out _).trans (hHeld.2.2.2.2.1)))), ((cell_far (p := ⟨gb176, _, none⟩) NB159_176.out _).trans (((cell_far (p := ⟨gb176, _, none⟩) NB159_176.out _).trans (hHeld.2.2.2.2.2))))⟩ (fun hHeld => ?_)
     clear hK K; refine py_ 11 9 HT_.out ?_
     refine done_ (done_of HT_.out (by kernel_rfl)) ?_
     have hnb62 := NB160_158.out; have hnc62 := NB158_160.out; have hnb63 := NB160_159.out; have hnc63 := NB159_160.out; have hnb64 := NB160_176.out; have hnc64 := NB176_160.out; have hcz65_0 : w58.cell? ⟨gb160, 0, none⟩ = some (.int .i64 0) := (blk_cell BK160.out 0).trans rfl; have hcz65_1 : w58.cell? ⟨gb160, 1, none⟩ = some (.slice none 0 0) := (blk_cell BK160.out 1).trans rfl; have hcz65_2 : w58.cell? ⟨gb160, 2, none⟩ = some (.int .i64 0) := (blk_cell BK160.out 2).trans rfl; have hfz65_0 := blk_frozen BK160.out 0; have hfz65_1 := blk_frozen BK160.out 1; have hfz65_2 := blk_frozen BK160.out 2; (try go_wp2)
     refine bodyPost_ret (results_ct rfl _ _ gb160 28 #[.int .i64 0, .slice none 0 0, .int .i64 0] (0, 0) _ rfl (by refine zb ?_; refine blk_put (cs := #[.int .i64 0, .slice none 0 0, .int .i64 0]) ?_ 2 _ rfl; refine zb ?_; refine blk_put (cs := #[.int .i64 0, .slice none 0 0, .int .i64 0]) ?_ 1 _ rfl; refine zb ?_; refine blk_put (cs := #[.int .i64 0, .slice none 0 0, .int .i64 0]) ?_ 0 _ rfl; refine zb ?_; refine blk_far ?_ NB160_176.out _; refine zb ?_; refine blk_far ?_ NB160_176.out _; refine zb ?_; exact BK160.out) Try.underlying28 rfl (by kernel_rfl)) rfl ?_
     exact ⟨_, zf_, zdg_, zbb_⟩
end Go.Proofs.Ytlnhpkjioppbiaa.QFnExactCombineDiagrams
