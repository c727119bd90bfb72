/- Functions of FnExactCombineDiagrams, each as a Lean function, with the proof that the Go code comes to its answers. -/
import Derived.Test.YtlnhpkjioppbiaaSFnExactCombineDiagramsx0
import Derived.Test.YtlnhpkjioppbiaaSFnExactCombineDiagramsx8
import Derived.Test.YtlnhpkjioppbiaaSFnExactCombineDiagramsx10
import Derived.Test.YtlnhpkjioppbiaaSFnExactCombineDiagramsx12
import Derived.Test.YtlnhpkjioppbiaaSFnExactCombineDiagramsx13
namespace Go.Proofs.Ytlnhpkjioppbiaa.QFnExactCombineDiagrams
open Go.RowKit Go.Proofs.YtlnhpkjioppbiaaW.PrintWords Go.Proofs.YtlnhpkjioppbiaaW.PrintLast Go.Proofs.YtlnhpkjioppbiaaW.PrintMore
open Go.Proofs.YtlnhpkjioppbiaaW.PrintWords renaming pw_below_drewN → pN, below_drew1 → p1, below_alloc → pA
open Go.Proofs.YtlnhpkjioppbiaaW.PrintWords.Kd renaming R_alloc → kA, R_drewN → kN, R_drew → kD, C_alloc → cA, C_drewN → cN, C_drew → cD
open Go.Proofs.YtlnhpkjioppbiaaW.PrintWords.Aside0 renaming mk → aM
open List renaming setIfInBounds_toArray → sI, set_cons_zero → s0, set_cons_succ → sS, map_toArray → mT, length_take → lT, length_drop → lD, map_cons → mC, map_nil → mN
open Option renaming bind_eq_some_iff → oB
attribute [local go_sem] max2_int min2_int max_two min_two max_three min_three max_four min_four
set_option maxHeartbeats 8000000
set_option maxRecDepth 100000
set_option linter.unusedVariables false
set_option linter.unusedSimpArgs false
def impl_CombineDiagrams.j0 : Nat → Int → Bool → Int → List (S93) → Int → Int → List (S93) → Int → Option (Int × (List (S93)) × Int × Bool)
 | 0, _, _, _, _, _, _, _, _ => none
 | k + 1, x0, x17, x255000, x255001, x255002, x256000, x256001, x256002 => if x17 = true then (some (0, ([] : List (S93)), 0, false)) else ((impl_tableOfDiagram.f k x255000 x255001 x255002).bind fun bt259 => ((impl_tableOfDiagram.f k x256000 x256001 x256002).bind fun bt263 => ((impl_CombineTables.f k x0 bt259.1 bt259.2 bt263.1 bt263.2).bind fun bt267 => (if bt267.2.2 = true then ((impl_diagramOf.f k bt267.1 bt267.2.1).bind fun bt273 => (some (bt273.1, bt273.2.1, bt273.2.2, true))) else (some (0, ([] : List (S93)), 0, false))))))
def impl_CombineDiagrams.f (k : Nat) (a0 : Int) (a1_0 : Int) (l1_1 : List (S93)) (a1_2 : Int) (a2_0 : Int) (l2_1 : List (S93)) (a2_2 : Int) : Option (Int × (List (S93)) × Int × Bool) := (impl_IsDiagram.f k a1_0 l1_1 a1_2).bind fun t257 => (if t257 = true then ((impl_IsDiagram.f k a2_0 l2_1 a2_2).bind fun t258 => (impl_CombineDiagrams.j0 k a0 (!t258) a1_0 l1_1 a1_2 a2_0 l2_1 a2_2)) else (impl_CombineDiagrams.j0 k a0 true a1_0 l1_1 a1_2 a2_0 l2_1 a2_2))
theorem impl_CombineDiagrams.mono_l : ∀ k, (∀ y0 y1 y2 y3 y4 y5 y6 y7, LeO (impl_CombineDiagrams.j0 k y0 y1 y2 y3 y4 y5 y6 y7) (impl_CombineDiagrams.j0 (k + 1) y0 y1 y2 y3 y4 y5 y6 y7))
 | 0 => fun _ _ _ _ _ _ _ _ r h => by simp [impl_CombineDiagrams.j0] at h
 | k + 1 => by
  have ih0 := impl_CombineDiagrams.mono_l k
  ·intro y0 y1 y2 y3 y4 y5 y6 y7
   unfold impl_CombineDiagrams.j0
   repeat' first
   | (with_reducible exact ih0 _ _ _ _ _ _ _ _)
   | (with_reducible exact impl_CombineTables.mono _ _ _ _ _ _)
   | (with_reducible exact impl_IsDiagram.mono _ _ _ _)
   | (with_reducible exact impl_diagramOf.mono _ _ _)
   | (with_reducible exact impl_tableOfDiagram.mono _ _ _ _)
   | (with_reducible exact LeO.refl _)
   | (with_reducible exact LeO.none _)
   | (with_reducible refine LeO.ite ?_ ?_)
   | (with_reducible refine LeO.bind ?_ (fun _ => ?_))
   | exact ih0 _ _ _ _ _ _ _ _
   | exact impl_CombineTables.mono _ _ _ _ _ _
   | exact impl_IsDiagram.mono _ _ _ _
   | exact impl_diagramOf.mono _ _ _
   | exact impl_tableOfDiagram.mono _ _ _ _
   | exact LeO.none _
   | refine LeO.ite ?_ ?_
   | refine LeO.bind ?_ (fun _ => ?_)
theorem impl_CombineDiagrams.mono : ∀ a0 a1 a2 a3 a4 a5 a6 k, LeO (impl_CombineDiagrams.f k a0 a1 a2 a3 a4 a5 a6) (impl_CombineDiagrams.f (k + 1) a0 a1 a2 a3 a4 a5 a6) := by
 intro a0 a1 a2 a3 a4 a5 a6 k
 have ih0 := impl_CombineDiagrams.mono_l k
 unfold impl_CombineDiagrams.f
 repeat' first
   | (with_reducible exact ih0 _ _ _ _ _ _ _ _)
   | (with_reducible exact impl_CombineTables.mono _ _ _ _ _ _)
   | (with_reducible exact impl_IsDiagram.mono _ _ _ _)
   | (with_reducible exact impl_diagramOf.mono _ _ _)
   | (with_reducible exact impl_tableOfDiagram.mono _ _ _ _)
   | (with_reducible exact LeO.refl _)
   | (with_reducible exact LeO.none _)
   | (with_reducible refine LeO.ite ?_ ?_)
   | (with_reducible refine LeO.bind ?_ (fun _ => ?_))
   | exact ih0 _ _ _ _ _ _ _ _
   | exact impl_CombineTables.mono _ _ _ _ _ _
   | exact impl_IsDiagram.mono _ _ _ _
   | exact impl_diagramOf.mono _ _ _
   | exact impl_tableOfDiagram.mono _ _ _ _
   | exact LeO.none _
   | refine LeO.ite ?_ ?_
   | refine LeO.bind ?_ (fun _ => ?_)
def impl_CombineDiagrams.T3 : Bool × List (List Nat × List Nat) := (true, [([], []), ([], []), ([1], [1]), ([], []), ([3, 2], [3]), ([0, 2, 4, 4], [0, 2, 4]), ([5], [5]), ([6], [6]), ([6], [6]), ([], []), ([9, 7, 5, 0, 1, 2, 3, 4, 5, 6, 7, 9], [7, 9]), ([8, 10, 0, 1, 2, 3, 4, 5, 6, 7, 8, 9, 10], [8])])
def impl_CombineDiagrams.B3 : List Nat := [0, 0, 2, 0, 14, 31, 63, 127, 127, 0, 767, 2047]
theorem impl_CombineDiagrams.tab3 : rtab .any (opsOf Try.f9 3) = impl_CombineDiagrams.T3 := by kernel_rfl
theorem impl_CombineDiagrams.bits3 : waitsOk impl_CombineDiagrams.T3.2 impl_CombineDiagrams.B3 = true := by kernel_rfl
theorem impl_CombineDiagrams.calls (k : Nat) (a0 : Int) (a1_0 : Int) (A1_1 : Option Addr) (c1_1 : Nat) (l1_1 : List (S93)) (a1_2 : Int) (a2_0 : Int) (A2_1 : Option Addr) (c2_1 : Nat) (l2_1 : List (S93)) (a2_2 : Int) (r1 : Int) (r2 : List (S93)) (r3 : Int) (r4 : Bool) (w : World) (hr1_1 : Kd.C k93 w A1_1 l1_1.length l1_1) (hc1_1 : l1_1.length ≤ c1_1) (hr2_1 : Kd.C k93 w A2_1 l2_1.length l2_1) (hc2_1 : l2_1.length ≤ c2_1) (h : impl_CombineDiagrams.f k a0 a1_0 l1_1 a1_2 a2_0 l2_1 a2_2 = some (r1, r2, r3, r4)) :
  Calls Try.prog 9 #[.int .i64 a0, .agg #[.int .i64 a1_0, .slice A1_1 l1_1.length c1_1, .int .i64 a1_2], .agg #[.int .i64 a2_0, .slice A2_1 l2_1.length c2_1, .int .i64 a2_2]] w fun e w' => ∃ v1_ : Value, e = .returned (.tuple #[.agg #[.int .i64 r1, v1_, .int .i64 r3], .bool r4]) ∧ Kd.R k93 93 w' w.heap.size (fun _ => True) v1_ r2 ∧ Below w.heap.size w w' := by
 have hu28 := Try.underlying28
 have hu41 := Try.underlying41
 have HR1_1 := aM hr1_1
 have HC1_1 := aM hc1_1
 clear hr1_1 hc1_1
 have HR2_1 := aM hr2_1
 have HC2_1 := aM hc2_1
 clear hr2_1 hc2_1
 have HB := aM (Below.refl w.heap.size w)
 have H : ((impl_IsDiagram.f k a1_0 l1_1 a1_2).bind fun t257 => (if t257 = true then ((impl_IsDiagram.f k a2_0 l2_1 a2_2).bind fun t258 => (impl_CombineDiagrams.j0 k a0 (!t258) a1_0 l1_1 a1_2 a2_0 l2_1 a2_2)) else (impl_CombineDiagrams.j0 k a0 true a1_0 l1_1 a1_2 a2_0 l2_1 a2_2))) = some (r1, r2, r3, r4) := h
 clear h
 have HC4 := aM H
 clear H
 go_enter Try.func9, Try.ntmps9
 go_upto_region 1 with (first | ((with_reducible refine gate_dst (N := 4) rfl ?_); refine box_event ?hg (N := 4) ?hd (cs := #[.int .i64 a1_0, .slice A1_1 l1_1.length c1_1, .int .i64 a1_2]) (t := 28) ?hr ?_; (case hd => rfl); (case hg => rfl); (case hr => exact zb_); intro gb254 hg w5 hbox hb; have n_ := z (below_step za_ hb) <| z (hbox) <| z ((by rw [hg]; exact (below_size za_) : w.heap.size ≤ gb254)) <| z1 ((by rw [hg]; exact (below_size za_) : w.heap.size ≤ gb254)); clear HB; obtain ⟨HB, BK254, GW254, GE254⟩ := n_; clear hb hbox hg) | ((with_reducible refine gate_dst (N := 5) rfl ?_); refine box_event ?hg (N := 5) ?hd (cs := #[.int .i64 a2_0, .slice A2_1 l2_1.length c2_1, .int .i64 a2_2]) (t := 28) ?hr ?_; (case hd => rfl); (case hg => rfl); (case hr => exact zb_); intro gb255 hg w6 hbox hb; have n_ := z (blk_below (zb BK254.out) hb) <| z (below_step zbbg_ hb) <| z (hbox) <| z ((by rw [hg]; exact (below_size zbbg_) : w.heap.size ≤ gb255)) <| z ((by rw [hg]; exact (below_size zbbg_) : w.heap.size ≤ gb255)) <| z ((by rw [hg]; exact Nat.ne_of_lt (blk_lt (zb BK254.out)) : gb254 ≠ gb255)) <| z1 ((by rw [hg]; exact Nat.ne_of_gt (blk_lt (zb BK254.out)) : gb255 ≠ gb254)); clear BK254 HB; obtain ⟨BK254, HB, BK255, GW255, GE255, NB254_255, NB255_254⟩ := n_; clear hb hbox hg) | ((with_reducible refine gate_dst (N := 6) rfl ?_); refine box_event ?hg (N := 6) ?hd (cs := #[.int .i64 0, .slice none 0 0, .int .i64 0]) (t := 28) ?hr ?_; (case hd => rfl); (case hg => rfl); (case hr => exact zb_); intro gb256 hg w7 hbox hb; have n_ := z (blk_below (zb BK254.out) hb) <| z (blk_below (zb BK255.out) hb) <| z (below_step zbbh_ hb) <| z (hbox) <| z ((by rw [hg]; exact (below_size zbbh_) : w.heap.size ≤ gb256)) <| z ((by rw [hg]; exact (below_size zbbh_) : w.heap.size ≤ gb256)) <| z ((by rw [hg]; exact Nat.ne_of_lt (blk_lt (zb BK254.out)) : gb254 ≠ gb256)) <| z ((by rw [hg]; exact Nat.ne_of_gt (blk_lt (zb BK254.out)) : gb256 ≠ gb254)) <| z ((by rw [hg]; exact Nat.ne_of_lt (blk_lt (zb BK255.out)) : gb255 ≠ gb256)) <| z1 ((by rw [hg]; exact Nat.ne_of_gt (blk_lt (zb BK255.out)) : gb256 ≠ gb255)); clear BK254 BK255 HB; obtain ⟨BK254, BK255, HB, BK256, GW256, GE256, NB254_256, NB256_254, NB255_256, NB256_255⟩ := n_; clear hb hbox hg))
 (try simp only [Act.put, sI, s0, sS])
 go_cut [17] (fun v17 wc => ∃ (kq : Nat) (x17_3 : Bool), v17 = .bool x17_3 ∧ Aside0 (impl_CombineDiagrams.j0 kq a0 x17_3 a1_0 l1_1 a1_2 a2_0 l2_1 a2_2 = some (r1, r2, r3, r4)) ∧ Aside0 (kq ≤ k) ∧ Aside0 (wc.heap[gb254]? = some (.cells #[.int .i64 a1_0, (.slice A1_1 l1_1.length c1_1), .int .i64 a1_2] 28 (0, 0))) ∧ Aside0 (wc.heap[gb255]? = some (.cells #[.int .i64 a2_0, (.slice A2_1 l2_1.length c2_1), .int .i64 a2_2] 28 (0, 0))) ∧ Aside0 (wc.heap[gb256]? = some (.cells #[.int .i64 0, (.slice none 0 0), .int .i64 0] 28 (0, 0))) ∧ Aside0 (Below w.heap.size w wc))
 case first =>
  have H := HC4.out; clear HC4; replace H := oB.mp H; obtain ⟨t257, A80, H⟩ := H; replace H : (if t257 = true then ((impl_IsDiagram.f k a2_0 l2_1 a2_2).bind fun t258 => (impl_CombineDiagrams.j0 k a0 (!t258) a1_0 l1_1 a1_2 a2_0 l2_1 a2_2)) else (impl_CombineDiagrams.j0 k a0 true a1_0 l1_1 a1_2 a2_0 l2_1 a2_2)) = some (r1, r2, r3, r4) := H; have A8 := aM A80; clear A80
  by_cases c9 : t257 = true
  ·subst c9
   have H1 : ((impl_IsDiagram.f k a2_0 l2_1 a2_2).bind fun t258 => (impl_CombineDiagrams.j0 k a0 (!t258) a1_0 l1_1 a1_2 a2_0 l2_1 a2_2)) = some (r1, r2, r3, r4) := by rw [if_pos rfl] at H; exact H
   clear H; have H := H1; clear H1; replace H := oB.mp H; obtain ⟨t258, A100, H⟩ := H; replace H : (impl_CombineDiagrams.j0 k a0 (!t258) a1_0 l1_1 a1_2 a2_0 l2_1 a2_2) = some (r1, r2, r3, r4) := H; have A10 := aM A100; clear A100; have H' := aM H; clear H; have hnb11 := NB254_255.out; have hnc11 := NB255_254.out; have hnb12 := NB254_256.out; have hnc12 := NB256_254.out; have hcz13_0 : w7.cell? ⟨gb254, 0, none⟩ = some (.int .i64 a1_0) := (blk_cell BK254.out 0).trans rfl; have hcz13_1 : w7.cell? ⟨gb254, 1, none⟩ = some (.slice A1_1 l1_1.length c1_1) := (blk_cell BK254.out 1).trans rfl; have hcz13_2 : w7.cell? ⟨gb254, 2, none⟩ = some (.int .i64 a1_2) := (blk_cell BK254.out 2).trans rfl; have hfz13_0 := blk_frozen BK254.out 0; have hfz13_1 := blk_frozen BK254.out 1; have hfz13_2 := blk_frozen BK254.out 2
   go_wp2_with (first | ((with_reducible refine gate_callee (f := 22) rfl ?_); refine goesL_ (some 11) rfl rfl Try.func22 (by kernel_rfl) rfl #[.agg #[.int .i64 a1_0, .slice A1_1 l1_1.length c1_1, .int .i64 a1_2]] rfl zd_ ?_; (with_reducible refine (impl_IsDiagram.calls k a1_0 _ _ l1_1 a1_2 true _ ?side1 ?side2 A8.out).mono ?_); (case side1 => exact zj_); (case side2 => exact HC1_1.out); rintro e w14 ⟨rfl, hb⟩; refine ⟨_, rfl, ?_⟩; have n_ := z (blk_below (zb BK254.out) hb) <| z (blk_below (zb BK255.out) hb) <| z (blk_below (zb BK256.out) hb) <| z1 (below_step zi_ hb); clear BK254 BK255 BK256 HB; obtain ⟨BK254, BK255, BK256, HB⟩ := n_; clear hb; have hnb15 := NB255_256.out; have hnc15 := NB256_255.out; have hcz16_0 : w14.cell? ⟨gb255, 0, none⟩ = some (.int .i64 a2_0) := (blk_cell BK255.out 0).trans rfl; have hcz16_1 : w14.cell? ⟨gb255, 1, none⟩ = some (.slice A2_1 l2_1.length c2_1) := (blk_cell BK255.out 1).trans rfl; have hcz16_2 : w14.cell? ⟨gb255, 2, none⟩ = some (.int .i64 a2_2) := (blk_cell BK255.out 2).trans rfl; have hfz16_0 := blk_frozen BK255.out 0; have hfz16_1 := blk_frozen BK255.out 1; have hfz16_2 := blk_frozen BK255.out 2) | (go_at_call 22; (with_reducible refine (impl_IsDiagram.calls k a2_0 _ _ l2_1 a2_2 t258 _ ?side1 ?side2 A10.out).mono ?_); (case side1 => exact zba_); (case side2 => exact HC2_1.out); rintro e w17 ⟨rfl, hb⟩; have n_ := z (blk_below (zb BK254.out) hb) <| z (blk_below (zb BK255.out) hb) <| z (blk_below (zb BK256.out) hb) <| z1 (below_step zi_ hb); clear BK254 BK255 BK256 HB; obtain ⟨BK254, BK255, BK256, HB⟩ := n_; clear hb))
   go_meet
   case rel => exact ⟨_, (!t258), ze_, H', ⟨zbh_⟩, ⟨zb BK254.out⟩, ⟨zb BK255.out⟩, ⟨zb BK256.out⟩, ⟨zi_⟩⟩
  ·replace c9 := Bool.eq_false_iff.mpr c9
   subst c9; have H1 : (impl_CombineDiagrams.j0 k a0 true a1_0 l1_1 a1_2 a2_0 l2_1 a2_2) = some (r1, r2, r3, r4) := by rw [if_neg (show ¬ (false = true) by decide)] at H; exact H
   clear H; have H := H1; clear H1; have H' := aM H; clear H; have hnb18 := NB254_255.out; have hnc18 := NB255_254.out; have hnb19 := NB254_256.out; have hnc19 := NB256_254.out; have hcz20_0 : w7.cell? ⟨gb254, 0, none⟩ = some (.int .i64 a1_0) := (blk_cell BK254.out 0).trans rfl; have hcz20_1 : w7.cell? ⟨gb254, 1, none⟩ = some (.slice A1_1 l1_1.length c1_1) := (blk_cell BK254.out 1).trans rfl; have hcz20_2 : w7.cell? ⟨gb254, 2, none⟩ = some (.int .i64 a1_2) := (blk_cell BK254.out 2).trans rfl; have hfz20_0 := blk_frozen BK254.out 0; have hfz20_1 := blk_frozen BK254.out 1; have hfz20_2 := blk_frozen BK254.out 2
   go_wp2_with (first | ((with_reducible refine gate_callee (f := 22) rfl ?_); refine goesL_ (some 11) rfl rfl Try.func22 (by kernel_rfl) rfl #[.agg #[.int .i64 a1_0, .slice A1_1 l1_1.length c1_1, .int .i64 a1_2]] rfl zd_ ?_; (with_reducible refine (impl_IsDiagram.calls k a1_0 _ _ l1_1 a1_2 false _ ?side1 ?side2 A8.out).mono ?_); (case side1 => exact zj_); (case side2 => exact HC1_1.out); rintro e w21 ⟨rfl, hb⟩; refine ⟨_, rfl, ?_⟩; have n_ := z (blk_below (zb BK254.out) hb) <| z (blk_below (zb BK255.out) hb) <| z (blk_below (zb BK256.out) hb) <| z1 (below_step zi_ hb); clear BK254 BK255 BK256 HB; obtain ⟨BK254, BK255, BK256, HB⟩ := n_; clear hb))
   go_meet
   case rel => exact ⟨_, (true), ze_, H', ⟨zbh_⟩, ⟨zb BK254.out⟩, ⟨zb BK255.out⟩, ⟨zb BK256.out⟩, ⟨zi_⟩⟩
 case rest =>
  clear HC4; obtain ⟨kq, x17_3, rfl, HA, HJ3, BK254, BK255, BK256, HB⟩ := hcut
  cases kq with
  | zero => exact absurd HA.out (by simp [impl_CombineDiagrams.j0])
  | succ kj3 =>
   have H := HA.out; clear HA
   simp only [impl_CombineDiagrams.j0] at H
   by_cases c22 : x17_3 = true
   ·subst c22
    have H1 : (some (0, ([] : List (S93)), 0, false)) = some (r1, r2, r3, r4) := by rw [if_pos rfl] at H; exact H
    clear H; have H := H1; clear H1
    simp only [Option.some.injEq, Prod.mk.injEq] at H
    obtain ⟨rfl, rfl, rfl, rfl⟩ := H; have hnb23 := NB256_254.out; have hnc23 := NB254_256.out; have hnb24 := NB256_255.out; have hnc24 := NB255_256.out; have hcz25_0 : wc.cell? ⟨gb256, 0, none⟩ = some (.int .i64 0) := (blk_cell BK256.out 0).trans rfl; have hcz25_1 : wc.cell? ⟨gb256, 1, none⟩ = some (.slice none 0 0) := (blk_cell BK256.out 1).trans rfl; have hcz25_2 : wc.cell? ⟨gb256, 2, none⟩ = some (.int .i64 0) := (blk_cell BK256.out 2).trans rfl; have hfz25_0 := blk_frozen BK256.out 0; have hfz25_1 := blk_frozen BK256.out 1; have hfz25_2 := blk_frozen BK256.out 2
    go_wp2
    refine bodyPost_ret (results_ct rfl _ _ gb256 28 #[.int .i64 0, .slice none 0 0, .int .i64 0] (0, 0) _ rfl (by refine zb ?_; refine blk_put (cs := #[.int .i64 0, .slice none 0 0, .int .i64 0]) ?_ 2 _ rfl; refine zb ?_; refine blk_put (cs := #[.int .i64 0, .slice none 0 0, .int .i64 0]) ?_ 1 _ rfl; refine zb ?_; refine blk_put (cs := #[.int .i64 0, .slice none 0 0, .int .i64 0]) ?_ 0 _ rfl; refine zb ?_; exact BK256.out) Try.underlying28 rfl (by kernel_rfl)) rfl ?_
    exact ⟨_, zf_, zdg_, zi_⟩
   ·replace c22 := Bool.eq_false_iff.mpr c22
    subst c22; have H1 : ((impl_tableOfDiagram.f kj3 a1_0 l1_1 a1_2).bind fun bt259 => ((impl_tableOfDiagram.f kj3 a2_0 l2_1 a2_2).bind fun bt263 => ((impl_CombineTables.f kj3 a0 bt259.1 bt259.2 bt263.1 bt263.2).bind fun bt267 => (if bt267.2.2 = true then ((impl_diagramOf.f kj3 bt267.1 bt267.2.1).bind fun bt273 => (some (bt273.1, bt273.2.1, bt273.2.2, true))) else (some (0, ([] : List (S93)), 0, false)))))) = some (r1, r2, r3, r4) := by rw [if_neg (show ¬ (false = true) by decide)] at H; exact H
    clear H; have H := H1; clear H1; replace H := oB.mp H; obtain ⟨⟨t259, t260⟩, A260, H⟩ := H; replace H : ((impl_tableOfDiagram.f kj3 a2_0 l2_1 a2_2).bind fun bt263 => ((impl_CombineTables.f kj3 a0 t259 t260 bt263.1 bt263.2).bind fun bt267 => (if bt267.2.2 = true then ((impl_diagramOf.f kj3 bt267.1 bt267.2.1).bind fun bt273 => (some (bt273.1, bt273.2.1, bt273.2.2, true))) else (some (0, ([] : List (S93)), 0, false))))) = some (r1, r2, r3, r4) := H; have A26 := aM A260; clear A260; replace H := oB.mp H; obtain ⟨⟨t263, t264⟩, A270, H⟩ := H; replace H : ((impl_CombineTables.f kj3 a0 t259 t260 t263 t264).bind fun bt267 => (if bt267.2.2 = true then ((impl_diagramOf.f kj3 bt267.1 bt267.2.1).bind fun bt273 => (some (bt273.1, bt273.2.1, bt273.2.2, true))) else (some (0, ([] : List (S93)), 0, false)))) = some (r1, r2, r3, r4) := H; have A27 := aM A270; clear A270; replace H := oB.mp H; obtain ⟨⟨t267, t268, t271⟩, A280, H⟩ := H; replace H : (if t271 = true then ((impl_diagramOf.f kj3 t267 t268).bind fun bt273 => (some (bt273.1, bt273.2.1, bt273.2.2, true))) else (some (0, ([] : List (S93)), 0, false))) = some (r1, r2, r3, r4) := H; have A28 := aM A280; clear A280
    by_cases c29 : t271 = true
    ·subst c29
     have H1 : ((impl_diagramOf.f kj3 t267 t268).bind fun bt273 => (some (bt273.1, bt273.2.1, bt273.2.2, true))) = some (r1, r2, r3, r4) := by rw [if_pos rfl] at H; exact H
     clear H; have H := H1; clear H1; replace H := oB.mp H; obtain ⟨⟨t273, t274, t277⟩, A300, H⟩ := H; replace H : (some (t273, t274, t277, true)) = some (r1, r2, r3, r4) := H; have A30 := aM A300; clear A300
     simp only [Option.some.injEq, Prod.mk.injEq] at H
     obtain ⟨rfl, rfl, rfl, rfl⟩ := H; (try go_wp2); have n_ := z (blk_drew BK254.out) <| z (blk_drew BK255.out) <| z (blk_drew BK256.out) <| z1 (p1 HB.out)
     clear BK254 BK255 BK256 HB; obtain ⟨BK254, BK255, BK256, HB⟩ := n_
     refine start_ (n := 12) (S := fun w' => w'.cell? ⟨gb254, 0, none⟩ = some (.int .i64 a1_0) ∧ w'.cell? ⟨gb254, 1, none⟩ = some (.slice A1_1 l1_1.length c1_1) ∧ w'.cell? ⟨gb254, 2, none⟩ = some (.int .i64 a1_2) ∧ w'.cell? ⟨gb255, 0, none⟩ = some (.int .i64 a2_0) ∧ w'.cell? ⟨gb255, 1, none⟩ = some (.slice A2_1 l2_1.length c2_1) ∧ w'.cell? ⟨gb255, 2, none⟩ = some (.int .i64 a2_2)) (ds := []) #[fi,fi,fi,fi,fi,fi,fi,fi,fi,fi,fi,fi] (by kernel_rfl) rfl rfl ⟨(blk_cell BK254.out 0).trans rfl, (blk_cell BK254.out 1).trans rfl, (blk_cell BK254.out 2).trans rfl, (blk_cell BK255.out 0).trans rfl, (blk_cell BK255.out 1).trans rfl, (blk_cell BK255.out 2).trans rfl⟩ (fun hHeld => ?_); refine with_tabW impl_CombineDiagrams.tab3 impl_CombineDiagrams.bits3 (fun HT_ HW_ => ?_)
     generalize wc.drew = w31 at BK254 BK255 BK256 HB hHeld ⊢; refine py_ 0 20 HT_.out ?_
     refine take_ (i := 1) (N := some 21) (v := ?_) (a' := ?_) #[ti,ti,fi,fi,fi,fi,fi,fi,fi,fi,fi,fi] rfl rfl (take_ofW HT_.out HW_.out (by kernel_rfl)) (fun _ _ _ h => h) (Or.inl ⟨by rfl, ?_⟩) hHeld ?_ ?_
     rotate_left
     ·rintro w' ⟨s0, s1, s2, s3, s4, s5⟩
      go_simp
      with_reducible rfl
     rotate_left
     ·simp only [Act.put, sI, s0, sS, i64_w, i32_w]
      rfl
     refine take_ (i := 3) (N := some 23) (v := ?_) (a' := ?_) #[ti,ti,fi,ti,fi,fi,fi,fi,fi,fi,fi,fi] rfl rfl (take_ofW HT_.out HW_.out (by kernel_rfl)) (fun _ _ _ h => h) (Or.inl ⟨by rfl, ?_⟩) hHeld ?_ ?_
     rotate_left
     ·rintro w' ⟨s0, s1, s2, s3, s4, s5⟩
      go_simp
      with_reducible rfl
     rotate_left
     ·simp only [Act.put, sI, s0, sS, i64_w, i32_w]
      rfl
     refine join_ (σ := Value × Value × Value × Nat) 2 #[ti,ti,ti,ti,ti,ti,ti,ti,ti,ti,fi,fi] (fun s_ => [(22, .agg #[.int .i64 t259, s_.1]), (24, .agg #[.int .i64 t263, s_.2.1]), (25, .tuple #[.agg #[.int .i64 t267, s_.2.2.1], .bool true]), (8, .pointer (some ⟨s_.2.2.2, 0, none⟩)), (19, .tuple #[.agg #[.int .i64 t267, s_.2.2.1], .bool true]), (26, .agg #[.int .i64 t267, s_.2.2.1]), (27, .bool true)]) (fun s_ w' => (w'.cell? ⟨gb254, 0, none⟩ = some (.int .i64 a1_0) ∧ w'.cell? ⟨gb254, 1, none⟩ = some (.slice A1_1 l1_1.length c1_1) ∧ w'.cell? ⟨gb254, 2, none⟩ = some (.int .i64 a1_2) ∧ w'.cell? ⟨gb255, 0, none⟩ = some (.int .i64 a2_0) ∧ w'.cell? ⟨gb255, 1, none⟩ = some (.slice A2_1 l2_1.length c2_1) ∧ w'.cell? ⟨gb255, 2, none⟩ = some (.int .i64 a2_2)) ∧ (Kd.R (Kd.int .i64) 3 w' w.heap.size (fun k_ => some k_ ≠ (s_.2.1 : Value).ownBlock ∧ some k_ ≠ (s_.2.2.1 : Value).ownBlock) s_.1 t260) ∧ (Kd.R (Kd.int .i64) 3 w' w.heap.size (fun k_ => some k_ ≠ (s_.1 : Value).ownBlock ∧ some k_ ≠ (s_.2.2.1 : Value).ownBlock) s_.2.1 t264) ∧ (Kd.R (Kd.int .i64) 3 w' w.heap.size (fun k_ => some k_ ≠ (s_.1 : Value).ownBlock ∧ some k_ ≠ (s_.2.1 : Value).ownBlock) s_.2.2.1 t268) ∧ (w'.heap[gb254]? = some (.cells #[.int .i64 a1_0, .slice A1_1 l1_1.length c1_1, .int .i64 a1_2] 28 (0, 0))) ∧ (w'.heap[gb255]? = some (.cells #[.int .i64 a2_0, .slice A2_1 l2_1.length c2_1, .int .i64 a2_2] 28 (0, 0))) ∧ (w'.heap[gb256]? = some (.cells #[.int .i64 0, .slice none 0 0, .int .i64 0] 28 (0, 0))) ∧ (w'.heap[s_.2.2.2]? = some (.cells #[.int .i64 0, .slice none 0 0] 41 (0, 0))) ∧ (w.heap.size ≤ s_.2.2.2) ∧ (w.heap.size ≤ s_.2.2.2) ∧ (gb254 ≠ s_.2.2.2) ∧ (s_.2.2.2 ≠ gb254) ∧ (gb255 ≠ s_.2.2.2) ∧ (s_.2.2.2 ≠ gb255) ∧ (gb256 ≠ s_.2.2.2) ∧ (s_.2.2.2 ≠ gb256) ∧ (Below w.heap.size w w')) ?_ ?_
     rotate_left
     ·intro hCont
      refine two_ (i := 2) (j := 9) (Ni := some 22) (Nj := some 8) #[ti,ti,ti,ti,fi,fi,fi,fi,fi,fi,fi,fi] #[ti,ti,fi,ti,fi,fi,fi,fi,fi,ti,fi,fi] rfl rfl rfl rfl (two_of HT_.out (by kernel_rfl)) (by decide) (by decide) (fun K hK => ?_) (fun K hK => ?_)
      ·skip
       refine goes_ Try.func56 (by kernel_rfl) rfl #[.agg #[.int .i64 a1_0, .slice A1_1 l1_1.length c1_1, .int .i64 a1_2]] (by rfl) rfl rfl zd_ ?_
       with_reducible refine (impl_tableOfDiagram.calls kj3 a1_0 _ _ l1_1 a1_2 t259 t260 _ ?side1 ?side2 A26.out).mono ?_
       (case side1 => exact zj_)
       (case side2 => exact HC1_1.out)
       rintro e w32 ⟨v261, rfl, ho0, hb⟩
       refine ⟨_, rfl, ?_⟩
       have n_ := z (Kd.R_lower ho0 (below_size zi_)) <| z (blk_below (zb BK254.out) hb) <| z (blk_below (zb BK255.out) hb) <| z (blk_below (zb BK256.out) hb) <| z1 (below_step zi_ hb)
       clear BK254 BK255 BK256 HB; obtain ⟨HO262, BK254, BK255, BK256, HB⟩ := n_; (try clear hb); (try clear hb2); (try clear hk); (try clear hi); (try clear ho0)
       refine hK.out _ _ ⟨(blk_cell BK254.out 0).trans rfl, (blk_cell BK254.out 1).trans rfl, (blk_cell BK254.out 2).trans rfl, (blk_cell BK255.out 0).trans rfl, (blk_cell BK255.out 1).trans rfl, (blk_cell BK255.out 2).trans rfl⟩ (fun hHeld => ?_)
       clear hK K
       refine norm_ (a' := ?_) ?_ ?_
       rotate_left
       ·show Act.put _ (some 22) _ = _
        simp only [Act.put, sI, s0, sS, i64_w, i32_w]
        rfl
       refine two_ (i := 4) (j := 9) (Ni := some 24) (Nj := some 8) #[ti,ti,ti,ti,ti,fi,fi,fi,fi,fi,fi,fi] #[ti,ti,ti,ti,fi,fi,fi,fi,fi,ti,fi,fi] rfl rfl rfl rfl (two_of HT_.out (by kernel_rfl)) (by decide) (by decide) (fun K hK => ?_) (fun K hK => ?_)
       ·skip
        refine goes_ Try.func56 (by kernel_rfl) rfl #[.agg #[.int .i64 a2_0, .slice A2_1 l2_1.length c2_1, .int .i64 a2_2]] (by rfl) rfl rfl zd_ ?_
        with_reducible refine (impl_tableOfDiagram.calls kj3 a2_0 _ _ l2_1 a2_2 t263 t264 _ ?side1 ?side2 A27.out).mono ?_
        (case side1 => exact zba_)
        (case side2 => exact HC2_1.out)
        rintro e w33 ⟨v265, rfl, ho0, hb⟩
        refine ⟨_, rfl, ?_⟩
        have n_ := z (Kd.R_elder' (zr HO262.out) (Kd.R_base ho0) hb) <| z (Kd.R_lower (Kd.R_new' ho0 (Kd.R_lt (zr HO262.out))) (below_size zi_)) <| z (blk_below (zb BK254.out) hb) <| z (blk_below (zb BK255.out) hb) <| z (blk_below (zb BK256.out) hb) <| z1 (below_step zi_ hb)
        clear HO262 BK254 BK255 BK256 HB; obtain ⟨HO262, HO266, BK254, BK255, BK256, HB⟩ := n_; (try clear hb); (try clear hb2); (try clear hk); (try clear hi); (try clear ho0); obtain ⟨Ao34, co34, eo34⟩ := Kd.R_slice HO262.out; (first | subst eo34 | (injection eo34 with f1_ f2_ f3_; have f4_ := f1_.symm; have f5_ := f3_.symm; clear f1_ f2_ f3_; subst f4_; subst f5_)); obtain ⟨Ao35, co35, eo35⟩ := Kd.R_slice HO266.out; (first | subst eo35 | (injection eo35 with f1_ f2_ f3_; have f4_ := f1_.symm; have f5_ := f3_.symm; clear f1_ f2_ f3_; subst f4_; subst f5_))
        refine hK.out _ _ ⟨(blk_cell BK254.out 0).trans rfl, (blk_cell BK254.out 1).trans rfl, (blk_cell BK254.out 2).trans rfl, (blk_cell BK255.out 0).trans rfl, (blk_cell BK255.out 1).trans rfl, (blk_cell BK255.out 2).trans rfl⟩ (fun hHeld => ?_)
        clear hK K
        refine norm_ (a' := ?_) ?_ ?_
        rotate_left
        ·show Act.put _ (some 24) _ = _
         simp only [Act.put, sI, s0, sS, i64_w, i32_w]
         rfl
        refine two_ (i := 5) (j := 9) (Ni := some 25) (Nj := some 8) #[ti,ti,ti,ti,ti,ti,fi,fi,fi,fi,fi,fi] #[ti,ti,ti,ti,ti,fi,fi,fi,fi,ti,fi,fi] rfl rfl rfl rfl (two_of HT_.out (by kernel_rfl)) (by decide) (by decide) (fun K hK => ?_) (fun K hK => ?_)
        ·skip
         refine goes_ Try.func17 (by kernel_rfl) rfl #[.int .i64 a0, .agg #[.int .i64 t259, .slice Ao34 t260.length co34], .agg #[.int .i64 t263, .slice Ao35 t264.length co35]] (by rfl) rfl rfl zd_ ?_
         with_reducible refine (impl_CombineTables.calls kj3 a0 t259 _ _ t260 t263 _ _ t264 t267 t268 true _ ?side1 ?side2 ?side3 ?side4 A28.out).mono ?_
         (case side1 => exact zfe_)
         (case side2 => exact zff_)
         (case side3 => exact zfg_)
         (case side4 => exact zfh_)
         rintro e w36 ⟨v269, rfl, ho0, hb⟩
         refine ⟨_, rfl, ?_⟩
         have n_ := z (Kd.R_elder' (zr HO262.out) (Kd.R_base ho0) hb) <| z (Kd.R_elder' (zr HO266.out) (Kd.R_base ho0) hb) <| z (Kd.R_lower (Kd.R_new' (Kd.R_new' ho0 (Kd.R_lt (zr HO262.out))) (Kd.R_lt (zr HO266.out))) (below_size zi_)) <| z (blk_below (zb BK254.out) hb) <| z (blk_below (zb BK255.out) hb) <| z (blk_below (zb BK256.out) hb) <| z1 (below_step zi_ hb)
         clear HO262 HO266 BK254 BK255 BK256 HB; obtain ⟨HO262, HO266, HO270, BK254, BK255, BK256, HB⟩ := n_; (try clear hb); (try clear hb2); (try clear hk); (try clear hi); (try clear ho0)
         refine hK.out _ _ ⟨(blk_cell BK254.out 0).trans rfl, (blk_cell BK254.out 1).trans rfl, (blk_cell BK254.out 2).trans rfl, (blk_cell BK255.out 0).trans rfl, (blk_cell BK255.out 1).trans rfl, (blk_cell BK255.out 2).trans rfl⟩ (fun hHeld => ?_)
         clear hK K
         refine norm_ (a' := ?_) ?_ ?_
         rotate_left
         ·show Act.put _ (some 25) _ = _
          simp only [Act.put, sI, s0, sS, i64_w, i32_w]
          rfl
         refine py_ 6 19 HT_.out ?_; refine py_ 7 26 HT_.out ?_; refine py_ 8 27 HT_.out ?_
         refine one_ (i := 9) (N := some 8) #[ti,ti,ti,ti,ti,ti,ti,ti,ti,ti,fi,fi] rfl rfl (one_of HT_.out (by kernel_rfl)) (by decide) (fun K hK => ?_)
         refine box_step ?hg (N := 8) ?hd (cs := #[.int .i64 0, .slice none 0 0]) (t := 41) ?hr ?_; (case hd => rfl); (case hg => rfl); (case hr => exact zb_)
         intro gb272 hg w37 hbox hb
         have n_ := z (Kd.R_below (zr HO262.out) hb) <| z (Kd.R_below (zr HO266.out) hb) <| z (Kd.R_below (zr HO270.out) hb) <| z (blk_below (zb BK254.out) hb) <| z (blk_below (zb BK255.out) hb) <| z (blk_below (zb BK256.out) hb) <| z (below_step zi_ hb) <| z (hbox) <| z ((by rw [hg]; exact (below_size zi_) : w.heap.size ≤ gb272)) <| z ((by rw [hg]; exact (below_size zi_) : w.heap.size ≤ gb272)) <| z ((by rw [hg]; exact Nat.ne_of_lt (blk_lt (zb BK254.out)) : gb254 ≠ gb272)) <| z ((by rw [hg]; exact Nat.ne_of_gt (blk_lt (zb BK254.out)) : gb272 ≠ gb254)) <| z ((by rw [hg]; exact Nat.ne_of_lt (blk_lt (zb BK255.out)) : gb255 ≠ gb272)) <| z ((by rw [hg]; exact Nat.ne_of_gt (blk_lt (zb BK255.out)) : gb272 ≠ gb255)) <| z ((by rw [hg]; exact Nat.ne_of_lt (blk_lt (zb BK256.out)) : gb256 ≠ gb272)) <| z1 ((by rw [hg]; exact Nat.ne_of_gt (blk_lt (zb BK256.out)) : gb272 ≠ gb256))
         clear HO262 HO266 HO270 BK254 BK255 BK256 HB; obtain ⟨HO262, HO266, HO270, BK254, BK255, BK256, HB, BK272, GW272, GE272, NB254_272, NB272_254, NB255_272, NB272_255, NB256_272, NB272_256⟩ := n_; clear hb hbox hg
         refine hK.out _ _ ⟨(blk_cell BK254.out 0).trans rfl, (blk_cell BK254.out 1).trans rfl, (blk_cell BK254.out 2).trans rfl, (blk_cell BK255.out 0).trans rfl, (blk_cell BK255.out 1).trans rfl, (blk_cell BK255.out 2).trans rfl⟩ (fun hHeld => ?_)
         clear hK K
         refine norm_ (a' := ?_) ?_ ?_
         rotate_left
         ·show Act.put _ (some 8) _ = _
          simp only [Act.put, sI, s0, sS, i64_w, i32_w]
          rfl
         exact norm_ (by simp only [putAll, Act.put, sI, s0, sS]) (hCont (.slice Ao34 t260.length co34, .slice Ao35 t264.length co35, v269, gb272) _ ⟨hHeld, zfi_, zfj_, zga_, (zb BK254.out), (zb BK255.out), (zb BK256.out), (zb BK272.out), GW272.out, GE272.out, NB254_272.out, NB272_254.out, NB255_272.out, NB272_255.out, NB256_272.out, NB272_256.out, zbc_⟩)
        ·skip
         refine box_step ?hg (N := 8) ?hd (cs := #[.int .i64 0, .slice none 0 0]) (t := 41) ?hr ?_; (case hd => rfl); (case hg => rfl); (case hr => exact zb_)
         intro gb272 hg w34 hbox hb
         have n_ := z (Kd.R_below (zr HO262.out) hb) <| z (Kd.R_below (zr HO266.out) hb) <| z (blk_below (zb BK254.out) hb) <| z (blk_below (zb BK255.out) hb) <| z (blk_below (zb BK256.out) hb) <| z (below_step zi_ hb) <| z (hbox) <| z ((by rw [hg]; exact (below_size zi_) : w.heap.size ≤ gb272)) <| z ((by rw [hg]; exact (below_size zi_) : w.heap.size ≤ gb272)) <| z ((by rw [hg]; exact Nat.ne_of_lt (blk_lt (zb BK254.out)) : gb254 ≠ gb272)) <| z ((by rw [hg]; exact Nat.ne_of_gt (blk_lt (zb BK254.out)) : gb272 ≠ gb254)) <| z ((by rw [hg]; exact Nat.ne_of_lt (blk_lt (zb BK255.out)) : gb255 ≠ gb272)) <| z ((by rw [hg]; exact Nat.ne_of_gt (blk_lt (zb BK255.out)) : gb272 ≠ gb255)) <| z ((by rw [hg]; exact Nat.ne_of_lt (blk_lt (zb BK256.out)) : gb256 ≠ gb272)) <| z1 ((by rw [hg]; exact Nat.ne_of_gt (blk_lt (zb BK256.out)) : gb272 ≠ gb256))
         clear HO262 HO266 BK254 BK255 BK256 HB; obtain ⟨HO262, HO266, BK254, BK255, BK256, HB, BK272, GW272, GE272, NB254_272, NB272_254, NB255_272, NB272_255, NB256_272, NB272_256⟩ := n_; clear hb hbox hg; obtain ⟨Ao35, co35, eo35⟩ := Kd.R_slice HO262.out; (first | subst eo35 | (injection eo35 with f1_ f2_ f3_; have f4_ := f1_.symm; have f5_ := f3_.symm; clear f1_ f2_ f3_; subst f4_; subst f5_)); obtain ⟨Ao36, co36, eo36⟩ := Kd.R_slice HO266.out; (first | subst eo36 | (injection eo36 with f1_ f2_ f3_; have f4_ := f1_.symm; have f5_ := f3_.symm; clear f1_ f2_ f3_; subst f4_; subst f5_))
         refine hK.out _ _ ⟨(blk_cell BK254.out 0).trans rfl, (blk_cell BK254.out 1).trans rfl, (blk_cell BK254.out 2).trans rfl, (blk_cell BK255.out 0).trans rfl, (blk_cell BK255.out 1).trans rfl, (blk_cell BK255.out 2).trans rfl⟩ (fun hHeld => ?_)
         clear hK K
         refine norm_ (a' := ?_) ?_ ?_
         rotate_left
         ·show Act.put _ (some 8) _ = _
          simp only [Act.put, sI, s0, sS, i64_w, i32_w]
          rfl
         refine one_ (i := 5) (N := some 25) #[ti,ti,ti,ti,ti,ti,fi,fi,fi,ti,fi,fi] rfl rfl (one_of HT_.out (by kernel_rfl)) (by decide) (fun K hK => ?_)
         refine goes_ Try.func17 (by kernel_rfl) rfl #[.int .i64 a0, .agg #[.int .i64 t259, .slice Ao35 t260.length co35], .agg #[.int .i64 t263, .slice Ao36 t264.length co36]] (by rfl) rfl rfl zd_ ?_
         with_reducible refine (impl_CombineTables.calls kj3 a0 t259 _ _ t260 t263 _ _ t264 t267 t268 true _ ?side1 ?side2 ?side3 ?side4 A28.out).mono ?_
         (case side1 => exact zfe_)
         (case side2 => exact zff_)
         (case side3 => exact zfg_)
         (case side4 => exact zfh_)
         rintro e w37 ⟨v269, rfl, ho0, hb⟩
         refine ⟨_, rfl, ?_⟩
         have n_ := z (Kd.R_elder' (zr HO262.out) (Kd.R_base ho0) hb) <| z (Kd.R_elder' (zr HO266.out) (Kd.R_base ho0) hb) <| z (Kd.R_lower (Kd.R_new' (Kd.R_new' ho0 (Kd.R_lt (zr HO262.out))) (Kd.R_lt (zr HO266.out))) (below_size zbc_)) <| z (blk_below (zb BK254.out) hb) <| z (blk_below (zb BK255.out) hb) <| z (blk_below (zb BK256.out) hb) <| z (blk_below (zb BK272.out) hb) <| z1 (below_step zbc_ hb)
         clear HO262 HO266 BK254 BK255 BK256 BK272 HB; obtain ⟨HO262, HO266, HO270, BK254, BK255, BK256, BK272, HB⟩ := n_; (try clear hb); (try clear hb2); (try clear hk); (try clear hi); (try clear ho0)
         refine hK.out _ _ ⟨(blk_cell BK254.out 0).trans rfl, (blk_cell BK254.out 1).trans rfl, (blk_cell BK254.out 2).trans rfl, (blk_cell BK255.out 0).trans rfl, (blk_cell BK255.out 1).trans rfl, (blk_cell BK255.out 2).trans rfl⟩ (fun hHeld => ?_)
         clear hK K
         refine norm_ (a' := ?_) ?_ ?_
         rotate_left
         ·show Act.put _ (some 25) _ = _
          simp only [Act.put, sI, s0, sS, i64_w, i32_w]
          rfl
         refine py_ 6 19 HT_.out ?_; refine py_ 7 26 HT_.out ?_; refine py_ 8 27 HT_.out ?_
         exact norm_ (by simp only [putAll, Act.put, sI, s0, sS]) (hCont (.slice Ao35 t260.length co35, .slice Ao36 t264.length co36, v269, gb272) _ ⟨hHeld, zfi_, zfj_, zga_, (zb BK254.out), (zb BK255.out), (zb BK256.out), (zb BK272.out), GW272.out, GE272.out, NB254_272.out, NB272_254.out, NB255_272.out, NB272_255.out, NB256_272.out, NB272_256.out, zbc_⟩)
       ·skip
        refine box_step ?hg (N := 8) ?hd (cs := #[.int .i64 0, .slice none 0 0]) (t := 41) ?hr ?_; (case hd => rfl); (case hg => rfl); (case hr => exact zb_)
        intro gb272 hg w33 hbox hb
        have n_ := z (Kd.R_below (zr HO262.out) hb) <| z (blk_below (zb BK254.out) hb) <| z (blk_below (zb BK255.out) hb) <| z (blk_below (zb BK256.out) hb) <| z (below_step zi_ hb) <| z (hbox) <| z ((by rw [hg]; exact (below_size zi_) : w.heap.size ≤ gb272)) <| z ((by rw [hg]; exact (below_size zi_) : w.heap.size ≤ gb272)) <| z ((by rw [hg]; exact Nat.ne_of_lt (blk_lt (zb BK254.out)) : gb254 ≠ gb272)) <| z ((by rw [hg]; exact Nat.ne_of_gt (blk_lt (zb BK254.out)) : gb272 ≠ gb254)) <| z ((by rw [hg]; exact Nat.ne_of_lt (blk_lt (zb BK255.out)) : gb255 ≠ gb272)) <| z ((by rw [hg]; exact Nat.ne_of_gt (blk_lt (zb BK255.out)) : gb272 ≠ gb255)) <| z ((by rw [hg]; exact Nat.ne_of_lt (blk_lt (zb BK256.out)) : gb256 ≠ gb272)) <| z1 ((by rw [hg]; exact Nat.ne_of_gt (blk_lt (zb BK256.out)) : gb272 ≠ gb256))
        clear HO262 BK254 BK255 BK256 HB; obtain ⟨HO262, BK254, BK255, BK256, HB, BK272, GW272, GE272, NB254_272, NB272_254, NB255_272, NB272_255, NB256_272, NB272_256⟩ := n_; clear hb hbox hg
        refine hK.out _ _ ⟨(blk_cell BK254.out 0).trans rfl, (blk_cell BK254.out 1).trans rfl, (blk_cell BK254.out 2).trans rfl, (blk_cell BK255.out 0).trans rfl, (blk_cell BK255.out 1).trans rfl, (blk_cell BK255.out 2).trans rfl⟩ (fun hHeld => ?_)
        clear hK K
        refine norm_ (a' := ?_) ?_ ?_
        rotate_left
        ·show Act.put _ (some 8) _ = _
         simp only [Act.put, sI, s0, sS, i64_w, i32_w]
         rfl
        refine one_ (i := 4) (N := some 24) #[ti,ti,ti,ti,ti,fi,fi,fi,fi,ti,fi,fi] rfl rfl (one_of HT_.out (by kernel_rfl)) (by decide) (fun K hK => ?_)
        refine goes_ Try.func56 (by kernel_rfl) rfl #[.agg #[.int .i64 a2_0, .slice A2_1 l2_1.length c2_1, .int .i64 a2_2]] (by rfl) rfl rfl zd_ ?_
        with_reducible refine (impl_tableOfDiagram.calls kj3 a2_0 _ _ l2_1 a2_2 t263 t264 _ ?side1 ?side2 A27.out).mono ?_
        (case side1 => exact zba_)
        (case side2 => exact HC2_1.out)
        rintro e w34 ⟨v265, rfl, ho0, hb⟩
        refine ⟨_, rfl, ?_⟩
        have n_ := z (Kd.R_elder' (zr HO262.out) (Kd.R_base ho0) hb) <| z (Kd.R_lower (Kd.R_new' ho0 (Kd.R_lt (zr HO262.out))) (below_size zbc_)) <| z (blk_below (zb BK254.out) hb) <| z (blk_below (zb BK255.out) hb) <| z (blk_below (zb BK256.out) hb) <| z (blk_below (zb BK272.out) hb) <| z1 (below_step zbc_ hb)
        clear HO262 BK254 BK255 BK256 BK272 HB; obtain ⟨HO262, HO266, BK254, BK255, BK256, BK272, HB⟩ := n_; (try clear hb); (try clear hb2); (try clear hk); (try clear hi); (try clear ho0); obtain ⟨Ao35, co35, eo35⟩ := Kd.R_slice HO262.out; (first | subst eo35 | (injection eo35 with f1_ f2_ f3_; have f4_ := f1_.symm; have f5_ := f3_.symm; clear f1_ f2_ f3_; subst f4_; subst f5_)); obtain ⟨Ao36, co36, eo36⟩ := Kd.R_slice HO266.out; (first | subst eo36 | (injection eo36 with f1_ f2_ f3_; have f4_ := f1_.symm; have f5_ := f3_.symm; clear f1_ f2_ f3_; subst f4_; subst f5_))
        refine hK.out _ _ ⟨(blk_cell BK254.out 0).trans rfl, (blk_cell BK254.out 1).trans rfl, (blk_cell BK254.out 2).trans rfl, (blk_cell BK255.out 0).trans rfl, (blk_cell BK255.out 1).trans rfl, (blk_cell BK255.out 2).trans rfl⟩ (fun hHeld => ?_)
        clear hK K
        refine norm_ (a' := ?_) ?_ ?_
        rotate_left
        ·show Act.put _ (some 24) _ = _
         simp only [Act.put, sI, s0, sS, i64_w, i32_w]
         rfl
        refine one_ (i := 5) (N := some 25) #[ti,ti,ti,ti,ti,ti,fi,fi,fi,ti,fi,fi] rfl rfl (one_of HT_.out (by kernel_rfl)) (by decide) (fun K hK => ?_)
        refine goes_ Try.func17 (by kernel_rfl) rfl #[.int .i64 a0, .agg #[.int .i64 t259, .slice Ao35 t260.length co35], .agg #[.int .i64 t263, .slice Ao36 t264.length co36]] (by rfl) rfl rfl zd_ ?_
        with_reducible refine (impl_CombineTables.calls kj3 a0 t259 _ _ t260 t263 _ _ t264 t267 t268 true _ ?side1 ?side2 ?side3 ?side4 A28.out).mono ?_
        (case side1 => exact zfe_)
        (case side2 => exact zff_)
        (case side3 => exact zfg_)
        (case side4 => exact zfh_)
        rintro e w37 ⟨v269, rfl, ho0, hb⟩
        refine ⟨_, rfl, ?_⟩
        have n_ := z (Kd.R_elder' (zr HO262.out) (Kd.R_base ho0) hb) <| z (Kd.R_elder' (zr HO266.out) (Kd.R_base ho0) hb) <| z (Kd.R_lower (Kd.R_new' (Kd.R_new' ho0 (Kd.R_lt (zr HO262.out))) (Kd.R_lt (zr HO266.out))) (below_size zbc_)) <| z (blk_below (zb BK254.out) hb) <| z (blk_below (zb BK255.out) hb) <| z (blk_below (zb BK256.out) hb) <| z (blk_below (zb BK272.out) hb) <| z1 (below_step zbc_ hb)
        clear HO262 HO266 BK254 BK255 BK256 BK272 HB; obtain ⟨HO262, HO266, HO270, BK254, BK255, BK256, BK272, HB⟩ := n_; (try clear hb); (try clear hb2); (try clear hk); (try clear hi); (try clear ho0)
        refine hK.out _ _ ⟨(blk_cell BK254.out 0).trans rfl, (blk_cell BK254.out 1).trans rfl, (blk_cell BK254.out 2).trans rfl, (blk_cell BK255.out 0).trans rfl, (blk_cell BK255.out 1).trans rfl, (blk_cell BK255.out 2).trans rfl⟩ (fun hHeld => ?_)
        clear hK K
        refine norm_ (a' := ?_) ?_ ?_
        rotate_left
        ·show Act.put _ (some 25) _ = _
         simp only [Act.put, sI, s0, sS, i64_w, i32_w]
         rfl
        refine py_ 6 19 HT_.out ?_; refine py_ 7 26 HT_.out ?_; refine py_ 8 27 HT_.out ?_
        exact norm_ (by simp only [putAll, Act.put, sI, s0, sS]) (hCont (.slice Ao35 t260.length co35, .slice Ao36 t264.length co36, v269, gb272) _ ⟨hHeld, zfi_, zfj_, zga_, (zb BK254.out), (zb BK255.out), (zb BK256.out), (zb BK272.out), GW272.out, GE272.out, NB254_272.out, NB272_254.out, NB255_272.out, NB272_255.out, NB256_272.out, NB272_256.out, zbc_⟩)
      ·skip
       refine box_step ?hg (N := 8) ?hd (cs := #[.int .i64 0, .slice none 0 0]) (t := 41) ?hr ?_; (case hd => rfl); (case hg => rfl); (case hr => exact zb_)
       intro gb272 hg w32 hbox hb
       have n_ := z (blk_below (zb BK254.out) hb) <| z (blk_below (zb BK255.out) hb) <| z (blk_below (zb BK256.out) hb) <| z (below_step zi_ hb) <| z (hbox) <| z ((by rw [hg]; exact (below_size zi_) : w.heap.size ≤ gb272)) <| z ((by rw [hg]; exact (below_size zi_) : w.heap.size ≤ gb272)) <| z ((by rw [hg]; exact Nat.ne_of_lt (blk_lt (zb BK254.out)) : gb254 ≠ gb272)) <| z ((by rw [hg]; exact Nat.ne_of_gt (blk_lt (zb BK254.out)) : gb272 ≠ gb254)) <| z ((by rw [hg]; exact Nat.ne_of_lt (blk_lt (zb BK255.out)) : gb255 ≠ gb272)) <| z ((by rw [hg]; exact Nat.ne_of_gt (blk_lt (zb BK255.out)) : gb272 ≠ gb255)) <| z ((by rw [hg]; exact Nat.ne_of_lt (blk_lt (zb BK256.out)) : gb256 ≠ gb272)) <| z1 ((by rw [hg]; exact Nat.ne_of_gt (blk_lt (zb BK256.out)) : gb272 ≠ gb256))
       clear BK254 BK255 BK256 HB; obtain ⟨BK254, BK255, BK256, HB, BK272, GW272, GE272, NB254_272, NB272_254, NB255_272, NB272_255, NB256_272, NB272_256⟩ := n_; clear hb hbox hg
       refine hK.out _ _ ⟨(blk_cell BK254.out 0).trans rfl, (blk_cell BK254.out 1).trans rfl, (blk_cell BK254.out 2).trans rfl, (blk_cell BK255.out 0).trans rfl, (blk_cell BK255.out 1).trans rfl, (blk_cell BK255.out 2).trans rfl⟩ (fun hHeld => ?_)
       clear hK K
       refine norm_ (a' := ?_) ?_ ?_
       rotate_left
       ·show Act.put _ (some 8) _ = _
        simp only [Act.put, sI, s0, sS, i64_w, i32_w]
        rfl
       refine one_ (i := 2) (N := some 22) #[ti,ti,ti,ti,fi,fi,fi,fi,fi,ti,fi,fi] rfl rfl (one_of HT_.out (by kernel_rfl)) (by decide) (fun K hK => ?_)
       refine goes_ Try.func56 (by kernel_rfl) rfl #[.agg #[.int .i64 a1_0, .slice A1_1 l1_1.length c1_1, .int .i64 a1_2]] (by rfl) rfl rfl zd_ ?_
       with_reducible refine (impl_tableOfDiagram.calls kj3 a1_0 _ _ l1_1 a1_2 t259 t260 _ ?side1 ?side2 A26.out).mono ?_
       (case side1 => exact zj_)
       (case side2 => exact HC1_1.out)
       rintro e w33 ⟨v261, rfl, ho0, hb⟩
       refine ⟨_, rfl, ?_⟩
       have n_ := z (Kd.R_lower ho0 (below_size zbc_)) <| z (blk_below (zb BK254.out) hb) <| z (blk_below (zb BK255.out) hb) <| z (blk_below (zb BK256.out) hb) <| z (blk_below (zb BK272.out) hb) <| z1 (below_step zbc_ hb)
       clear BK254 BK255 BK256 BK272 HB; obtain ⟨HO262, BK254, BK255, BK256, BK272, HB⟩ := n_; (try clear hb); (try clear hb2); (try clear hk); (try clear hi); (try clear ho0)
       refine hK.out _ _ ⟨(blk_cell BK254.out 0).trans rfl, (blk_cell BK254.out 1).trans rfl, (blk_cell BK254.out 2).trans rfl, (blk_cell BK255.out 0).trans rfl, (blk_cell BK255.out 1).trans rfl, (blk_cell BK255.out 2).trans rfl⟩ (fun hHeld => ?_)
       clear hK K
       refine norm_ (a' := ?_) ?_ ?_
       rotate_left
       ·show Act.put _ (some 22) _ = _
        simp only [Act.put, sI, s0, sS, i64_w, i32_w]
        rfl
       refine one_ (i := 4) (N := some 24) #[ti,ti,ti,ti,ti,fi,fi,fi,fi,ti,fi,fi] rfl rfl (one_of HT_.out (by kernel_rfl)) (by decide) (fun K hK => ?_)
       refine goes_ Try.func56 (by kernel_rfl) rfl #[.agg #[.int .i64 a2_0, .slice A2_1 l2_1.length c2_1, .int .i64 a2_2]] (by rfl) rfl rfl zd_ ?_
       with_reducible refine (impl_tableOfDiagram.calls kj3 a2_0 _ _ l2_1 a2_2 t263 t264 _ ?side1 ?side2 A27.out).mono ?_
       (case side1 => exact zba_)
       (case side2 => exact HC2_1.out)
       rintro e w34 ⟨v265, rfl, ho0, hb⟩
       refine ⟨_, rfl, ?_⟩
       have n_ := z (Kd.R_elder' (zr HO262.out) (Kd.R_base ho0) hb) <| z (Kd.R_lower (Kd.R_new' ho0 (Kd.R_lt (zr HO262.out))) (below_size zbc_)) <| z (blk_below (zb BK254.out) hb) <| z (blk_below (zb BK255.out) hb) <| z (blk_below (zb BK256.out) hb) <| z (blk_below (zb BK272.out) hb) <| z1 (below_step zbc_ hb)
       clear HO262 BK254 BK255 BK256 BK272 HB; obtain ⟨HO262, HO266, BK254, BK255, BK256, BK272, HB⟩ := n_; (try clear hb); (try clear hb2); (try clear hk); (try clear hi); (try clear ho0); obtain ⟨Ao35, co35, eo35⟩ := Kd.R_slice HO262.out; (first | subst eo35 | (injection eo35 with f1_ f2_ f3_; have f4_ := f1_.symm; have f5_ := f3_.symm; clear f1_ f2_ f3_; subst f4_; subst f5_)); obtain ⟨Ao36, co36, eo36⟩ := Kd.R_slice HO266.out; (first | subst eo36 | (injection eo36 with f1_ f2_ f3_; have f4_ := f1_.symm; have f5_ := f3_.symm; clear f1_ f2_ f3_; subst f4_; subst f5_))
       refine hK.out _ _ ⟨(blk_cell BK254.out 0).trans rfl, (blk_cell BK254.out 1).trans rfl, (blk_cell BK254.out 2).trans rfl, (blk_cell BK255.out 0).trans rfl, (blk_cell BK255.out 1).trans rfl, (blk_cell BK255.out 2).trans rfl⟩ (fun hHeld => ?_)
       clear hK K
       refine norm_ (a' := ?_) ?_ ?_
       rotate_left
       ·show Act.put _ (some 24) _ = _
        simp only [Act.put, sI, s0, sS, i64_w, i32_w]
        rfl
       refine one_ (i := 5) (N := some 25) #[ti,ti,ti,ti,ti,ti,fi,fi,fi,ti,fi,fi] rfl rfl (one_of HT_.out (by kernel_rfl)) (by decide) (fun K hK => ?_)
       refine goes_ Try.func17 (by kernel_rfl) rfl #[.int .i64 a0, .agg #[.int .i64 t259, .slice Ao35 t260.length co35], .agg #[.int .i64 t263, .slice Ao36 t264.length co36]] (by rfl) rfl rfl zd_ ?_
       with_reducible refine (impl_CombineTables.calls kj3 a0 t259 _ _ t260 t263 _ _ t264 t267 t268 true _ ?side1 ?side2 ?side3 ?side4 A28.out).mono ?_
       (case side1 => exact zfe_)
       (case side2 => exact zff_)
       (case side3 => exact zfg_)
       (case side4 => exact zfh_)
       rintro e w37 ⟨v269, rfl, ho0, hb⟩
       refine ⟨_, rfl, ?_⟩
       have n_ := z (Kd.R_elder' (zr HO262.out) (Kd.R_base ho0) hb) <| z (Kd.R_elder' (zr HO266.out) (Kd.R_base ho0) hb) <| z (Kd.R_lower (Kd.R_new' (Kd.R_new' ho0 (Kd.R_lt (zr HO262.out))) (Kd.R_lt (zr HO266.out))) (below_size zbc_)) <| z (blk_below (zb BK254.out) hb) <| z (blk_below (zb BK255.out) hb) <| z (blk_below (zb BK256.out) hb) <| z (blk_below (zb BK272.out) hb) <| z1 (below_step zbc_ hb)
       clear HO262 HO266 BK254 BK255 BK256 BK272 HB; obtain ⟨HO262, HO266, HO270, BK254, BK255, BK256, BK272, HB⟩ := n_; (try clear hb); (try clear hb2); (try clear hk); (try clear hi); (try clear ho0)
       refine hK.out _ _ ⟨(blk_cell BK254.out 0).trans rfl, (blk_cell BK254.out 1).trans rfl, (blk_cell BK254.out 2).trans rfl, (blk_cell BK255.out 0).trans rfl, (blk_cell BK255.out 1).trans rfl, (blk_cell BK255.out 2).trans rfl⟩ (fun hHeld => ?_)
       clear hK K
       refine norm_ (a' := ?_) ?_ ?_
       rotate_left
       ·show Act.put _ (some 25) _ = _
        simp only [Act.put, sI, s0, sS, i64_w, i32_w]
        rfl
       refine py_ 6 19 HT_.out ?_; refine py_ 7 26 HT_.out ?_; refine py_ 8 27 HT_.out ?_
       exact norm_ (by simp only [putAll, Act.put, sI, s0, sS]) (hCont (.slice Ao35 t260.length co35, .slice Ao36 t264.length co36, v269, gb272) _ ⟨hHeld, zfi_, zfj_, zga_, (zb BK254.out), (zb BK255.out), (zb BK256.out), (zb BK272.out), GW272.out, GE272.out, NB254_272.out, NB272_254.out, NB255_272.out, NB272_255.out, NB256_272.out, NB272_256.out, zbc_⟩)
     rintro ⟨v261, v265, v269, gb272⟩ w38 ⟨hS_, h0_, h1_, h2_, h3_, h4_, h5_, h6_, h7_, h8_, h9_, h10_, h11_, h12_, h13_, h14_, h15_⟩
     have n0_ : Aside0 (Kd.R (Kd.int .i64) 3 w38 w.heap.size (fun k_ => some k_ ≠ (v265 : Value).ownBlock ∧ some k_ ≠ (v269 : Value).ownBlock) v261 t260) := ⟨h0_⟩; have n1_ : Aside0 (Kd.R (Kd.int .i64) 3 w38 w.heap.size (fun k_ => some k_ ≠ (v261 : Value).ownBlock ∧ some k_ ≠ (v269 : Value).ownBlock) v265 t264) := ⟨h1_⟩; have n2_ : Aside0 (Kd.R (Kd.int .i64) 3 w38 w.heap.size (fun k_ => some k_ ≠ (v261 : Value).ownBlock ∧ some k_ ≠ (v265 : Value).ownBlock) v269 t268) := ⟨h2_⟩; have n3_ : Aside0 (w38.heap[gb254]? = some (.cells #[.int .i64 a1_0, .slice A1_1 l1_1.length c1_1, .int .i64 a1_2] 28 (0, 0))) := ⟨h3_⟩; have n4_ : Aside0 (w38.heap[gb255]? = some (.cells #[.int .i64 a2_0, .slice A2_1 l2_1.length c2_1, .int .i64 a2_2] 28 (0, 0))) := ⟨h4_⟩; have n5_ : Aside0 (w38.heap[gb256]? = some (.cells #[.int .i64 0, .slice none 0 0, .int .i64 0] 28 (0, 0))) := ⟨h5_⟩; have n6_ : Aside0 (w38.heap[gb272]? = some (.cells #[.int .i64 0, .slice none 0 0] 41 (0, 0))) := ⟨h6_⟩; have n7_ : Aside0 (w.heap.size ≤ gb272) := ⟨h7_⟩; have n8_ : Aside0 (w.heap.size ≤ gb272) := ⟨h8_⟩; have n9_ : Aside0 (gb254 ≠ gb272) := ⟨h9_⟩; have n10_ : Aside0 (gb272 ≠ gb254) := ⟨h10_⟩; have n11_ : Aside0 (gb255 ≠ gb272) := ⟨h11_⟩; have n12_ : Aside0 (gb272 ≠ gb255) := ⟨h12_⟩; have n13_ : Aside0 (gb256 ≠ gb272) := ⟨h13_⟩; have n14_ : Aside0 (gb272 ≠ gb256) := ⟨h14_⟩; have n15_ : Aside0 (Below w.heap.size w w38) := ⟨h15_⟩; clear BK254 BK255 BK256 HB h0_ h1_ h2_ h3_ h4_ h5_ h6_ h7_ h8_ h9_ h10_ h11_ h12_ h13_ h14_ h15_; have HO262 := n0_; have HO266 := n1_; have HO270 := n2_; have BK254 := n3_; have BK255 := n4_; have BK256 := n5_; have BK272 := n6_; have GW272 := n7_; have GE272 := n8_; have NB254_272 := n9_; have NB272_254 := n10_; have NB255_272 := n11_; have NB272_255 := n12_; have NB256_272 := n13_; have NB272_256 := n14_; have HB := n15_; clear n0_ n1_ n2_ n3_ n4_ n5_ n6_ n7_ n8_ n9_ n10_ n11_ n12_ n13_ n14_ n15_; have hHeld : w38.cell? ⟨gb254, 0, none⟩ = some (.int .i64 a1_0) ∧ w38.cell? ⟨gb254, 1, none⟩ = some (.slice A1_1 l1_1.length c1_1) ∧ w38.cell? ⟨gb254, 2, none⟩ = some (.int .i64 a1_2) ∧ w38.cell? ⟨gb255, 0, none⟩ = some (.int .i64 a2_0) ∧ w38.cell? ⟨gb255, 1, none⟩ = some (.slice A2_1 l2_1.length c2_1) ∧ w38.cell? ⟨gb255, 2, none⟩ = some (.int .i64 a2_2) := hS_; obtain ⟨Ao40, co40, eo40⟩ := Kd.R_slice HO270.out; (first | subst eo40 | (injection eo40 with f1_ f2_ f3_; have f4_ := f1_.symm; have f5_ := f3_.symm; clear f1_ f2_ f3_; subst f4_; subst f5_))
     refine norm_ (a' := ?_) ?_ ?_
     rotate_left
     ·simp only [putAll, Act.put, sI, s0, sS]
      rfl
     refine one_ (i := 10) (N := none) #[ti,ti,ti,ti,ti,ti,ti,ti,ti,ti,ti,fi] rfl rfl (one_of HT_.out (by kernel_rfl)) (by decide) (fun K hK => ?_)
     have hs39 : w38.cell? ⟨gb272, 0, none⟩ = some (.int .i64 0) := (blk_cell BK272.out 0).trans rfl; have hfs39 := blk_frozen BK272.out 0; have hns39_0 := NB254_272.out; have hns39_1 := NB255_272.out; have hns39_2 := NB256_272.out; have hms39_0 := NB272_254.out; have hms39_1 := NB272_255.out; have hms39_2 := NB272_256.out; have hs41 : w38.cell? ⟨gb272, 1, none⟩ = some (.slice none 0 0) := (blk_cell BK272.out 1).trans rfl; have hfs41 := blk_frozen BK272.out 1; have hns41_0 := NB254_272.out; have hns41_1 := NB255_272.out; have hns41_2 := NB256_272.out; have hms41_0 := NB272_254.out; have hms41_1 := NB272_255.out; have hms41_2 := NB272_256.out
     refine skip_ (w1 := ?_) (by rfl) rfl ?_ ?_
     rotate_left
     ·go_simp
      rfl
     refine hK.out _ _ ⟨((cell_far (p := ⟨gb272, _, none⟩) NB254_272.out _).trans (((cell_far (p := ⟨gb272, _, none⟩) NB254_272.out _).trans (hHeld.1)))), ((cell_far (p := ⟨gb272, _, none⟩) NB254_272.out _).trans (((cell_far (p := ⟨gb272, _, none⟩) NB254_272.out _).trans (hHeld.2.1)))), ((cell_far (p := ⟨gb272, _, none⟩) NB254_272.out _).trans (((cell_far (p := ⟨gb272, _, none⟩) NB254_272.out _).trans (hHeld.2.2.1)))), ((cell_far (p := ⟨gb272, _, none⟩) NB255_272.out _).trans (((cell_far (p := ⟨gb272, _, none⟩) NB255_272.out _).trans (hHeld.2.2.2.1)))), ((cell_far (p := ⟨gb272, _, none⟩) NB255_272.out _).trans (((cell_far (p := ⟨gb272, _, none⟩) NB255_272.out _).trans (hHeld.2.2.2.2.1)))), ((cell_far (p := ⟨gb272, _, none⟩) NB255_272.out _).trans (((cell_far (p := ⟨gb272, _, none⟩) NB255_272.out _).trans (hHeld.2.2.2.2.2))))⟩ (fun hHeld => ?_)
     clear hK K; refine py_ 11 9 HT_.out ?_
     refine done_ (done_of HT_.out (by kernel_rfl)) ?_
     have hnb42 := NB272_254.out; have hnc42 := NB254_272.out; have hnb43 := NB272_255.out; have hnc43 := NB255_272.out; have hnb44 := NB272_256.out; have hnc44 := NB256_272.out; have hcz45_0 : w38.cell? ⟨gb272, 0, none⟩ = some (.int .i64 0) := (blk_cell BK272.out 0).trans rfl; have hcz45_1 : w38.cell? ⟨gb272, 1, none⟩ = some (.slice none 0 0) := (blk_cell BK272.out 1).trans rfl; have hfz45_0 := blk_frozen BK272.out 0; have hfz45_1 := blk_frozen BK272.out 1; (try go_wp2_with (first | ((with_reducible refine gate_callee (f := 57) rfl ?_); refine goesL_ (some 32) rfl rfl Try.func57 (by kernel_rfl) rfl #[.agg #[.int .i64 t267, .slice Ao40 t268.length co40]] rfl zd_ ?_; (with_reducible refine (impl_diagramOf.calls kj3 t267 _ _ t268 t273 t274 t277 _ ?side1 ?side2 A30.out).mono ?_); (case side1 => refine (Kd.R_reads' (e := 3) (base := w.heap.size) (ok := fun k_ => (some k_ ≠ (v261 : Value).ownBlock ∧ some k_ ≠ (v265 : Value).ownBlock)) (n := t268.length) (c := co40) ?_).2.2; exact (by refine zr ?_; exact (Kd.R_mono (Kd.R_far (p := ⟨gb272, 1, none⟩) (Kd.R_far (p := ⟨gb272, 0, none⟩) (Kd.R_types HO270.out BK272.out (by decide)) (fun _ hk => hk.2) (.int .i64 t267)) (fun _ hk => hk.2) (.slice Ao40 t268.length co40)) (fun _ h_ => h_.1)))); (case side2 => exact (Kd.R_reads' HO270.out).2.1); rintro e w46 ⟨v275, rfl, ho0, hb⟩; refine ⟨_, rfl, ?_⟩; have n_ := z (Kd.R_below (by refine zr ?_; exact (Kd.R_mono (Kd.R_far (p := ⟨gb272, 1, none⟩) (Kd.R_far (p := ⟨gb272, 0, none⟩) (Kd.R_types HO262.out BK272.out (by decide)) (fun _ hk => hk.2) (.int .i64 t267)) (fun _ hk => hk.2) (.slice Ao40 t268.length co40)) (fun _ h_ => h_.1))) hb) <| z (Kd.R_below (by refine zr ?_; exact (Kd.R_mono (Kd.R_far (p := ⟨gb272, 1, none⟩) (Kd.R_far (p := ⟨gb272, 0, none⟩) (Kd.R_types HO266.out BK272.out (by decide)) (fun _ hk => hk.2) (.int .i64 t267)) (fun _ hk => hk.2) (.slice Ao40 t268.length co40)) (fun _ h_ => h_.1))) hb) <| z (Kd.R_below (by refine zr ?_; exact (Kd.R_mono (Kd.R_far (p := ⟨gb272, 1, none⟩) (Kd.R_far (p := ⟨gb272, 0, none⟩) (Kd.R_types HO270.out BK272.out (by decide)) (fun _ hk => hk.2) (.int .i64 t267)) (fun _ hk => hk.2) (.slice Ao40 t268.length co40)) (fun _ h_ => h_.1))) hb) <| z (Kd.R_lower ho0 (below_size zbc_)) <| z (blk_below (g := gb254) (o := .cells #[.int .i64 a1_0, .slice A1_1 l1_1.length c1_1, .int .i64 a1_2] 28 (0, 0)) (by refine zb ?_; refine blk_far ?_ NB254_272.out _; refine zb ?_; refine blk_far ?_ NB254_272.out _; refine zb ?_; exact BK254.out) hb) <| z (blk_below (g := gb255) (o := .cells #[.int .i64 a2_0, .slice A2_1 l2_1.length c2_1, .int .i64 a2_2] 28 (0, 0)) (by refine zb ?_; refine blk_far ?_ NB255_272.out _; refine zb ?_; refine blk_far ?_ NB255_272.out _; refine zb ?_; exact BK255.out) hb) <| z (blk_below (g := gb256) (o := .cells #[.int .i64 0, .slice none 0 0, .int .i64 0] 28 (0, 0)) (by refine zb ?_; refine blk_far ?_ NB256_272.out _; refine zb ?_; refine blk_far ?_ NB256_272.out _; refine zb ?_; exact BK256.out) hb) <| z (blk_below (g := gb272) (o := .cells #[.int .i64 t267, .slice Ao40 t268.length co40] 41 (0, 0)) (by refine zb ?_; refine blk_put (cs := #[.int .i64 t267, .slice none 0 0]) ?_ 1 _ rfl; refine zb ?_; refine blk_put (cs := #[.int .i64 0, .slice none 0 0]) ?_ 0 _ rfl; refine zb ?_; exact BK272.out) hb) <| z1 (below_step zbc_ hb); clear HO262 HO266 HO270 BK254 BK255 BK256 BK272 HB; obtain ⟨HO262, HO266, HO270, HO276, BK254, BK255, BK256, BK272, HB⟩ := n_; clear hb; (try clear hk); (try clear ho0); have hnb47 := NB256_254.out; have hnc47 := NB254_256.out; have hnb48 := NB256_255.out; have hnc48 := NB255_256.out; have hcz49_0 : w46.cell? ⟨gb256, 0, none⟩ = some (.int .i64 0) := (blk_cell BK256.out 0).trans rfl; have hcz49_1 : w46.cell? ⟨gb256, 1, none⟩ = some (.slice none 0 0) := (blk_cell BK256.out 1).trans rfl; have hcz49_2 : w46.cell? ⟨gb256, 2, none⟩ = some (.int .i64 0) := (blk_cell BK256.out 2).trans rfl; have hfz49_0 := blk_frozen BK256.out 0; have hfz49_1 := blk_frozen BK256.out 1; have hfz49_2 := blk_frozen BK256.out 2; obtain ⟨Ao50, co50, eo50⟩ := Kd.R_slice HO276.out; subst eo50)))
     refine bodyPost_ret (results_ct rfl _ _ gb256 28 #[.int .i64 t273, .slice Ao50 t274.length co50, .int .i64 t277] (0, 0) _ rfl (by refine zb ?_; refine blk_put (cs := #[.int .i64 t273, .slice Ao50 t274.length co50, .int .i64 0]) ?_ 2 _ rfl; refine zb ?_; refine blk_put (cs := #[.int .i64 t273, .slice none 0 0, .int .i64 0]) ?_ 1 _ rfl; refine zb ?_; refine blk_put (cs := #[.int .i64 0, .slice none 0 0, .int .i64 0]) ?_ 0 _ rfl; refine zb ?_; exact BK256.out) Try.underlying28 rfl (by kernel_rfl)) rfl ?_
     exact ⟨_, zf_, by refine zr ?_; exact Kd.R_mono (Kd.R_far (p := ⟨gb256, 2, none⟩) (Kd.R_far (p := ⟨gb256, 1, none⟩) (Kd.R_far (p := ⟨gb256, 0, none⟩) (Kd.R_types HO276.out BK256.out (by decide)) (fun _ hk => hk.2) (.int .i64 t273)) (fun _ hk => hk.2) (.slice Ao50 t274.length co50)) (fun _ hk => hk.2) (.int .i64 t277)) (fun _ hk => trivial), zbc_⟩
    ·replace c29 := Bool.eq_false_iff.mpr c29
     subst c29; have H1 : (some (0, ([] : List (S93)), 0, false)) = some (r1, r2, r3, r4) := by rw [if_neg (show ¬ (false = true) by decide)] at H; exact H
     clear H; have H := H1; clear H1
     simp only [Option.some.injEq, Prod.mk.injEq] at H
     obtain ⟨rfl, rfl, rfl, rfl⟩ := H; (try go_wp2); have n_ := z (blk_drew BK254.out) <| z (blk_drew BK255.out) <| z (blk_drew BK256.out) <| z1 (p1 HB.out)
     clear BK254 BK255 BK256 HB; obtain ⟨BK254, BK255, BK256, HB⟩ := n_
     refine start_ (n := 12) (S := fun w' => w'.cell? ⟨gb254, 0, none⟩ = some (.int .i64 a1_0) ∧ w'.cell? ⟨gb254, 1, none⟩ = some (.slice A1_1 l1_1.length c1_1) ∧ w'.cell? ⟨gb254, 2, none⟩ = some (.int .i64 a1_2) ∧ w'.cell? ⟨gb255, 0, none⟩ = some (.int .i64 a2_0) ∧ w'.cell? ⟨gb255, 1, none⟩ = some (.slice A2_1 l2_1.length c2_1) ∧ w'.cell? ⟨gb255, 2, none⟩ = some (.int .i64 a2_2)) (ds := []) #[fi,fi,fi,fi,fi,fi,fi,fi,fi,fi,fi,fi] (by kernel_rfl) rfl rfl ⟨(blk_cell BK254.out 0).trans rfl, (blk_cell BK254.out 1).trans rfl, (blk_cell BK254.out 2).trans rfl, (blk_cell BK255.out 0).trans rfl, (blk_cell BK255.out 1).trans rfl, (blk_cell BK255.out 2).trans rfl⟩ (fun hHeld => ?_); refine with_tabW impl_CombineDiagrams.tab3 impl_CombineDiagrams.bits3 (fun HT_ HW_ => ?_)
     generalize wc.drew = w51 at BK254 BK255 BK256 HB hHeld ⊢; refine py_ 0 20 HT_.out ?_
     refine take_ (i := 1) (N := some 21) (v := ?_) (a' := ?_) #[ti,ti,fi,fi,fi,fi,fi,fi,fi,fi,fi,fi] rfl rfl (take_ofW HT_.out HW_.out (by kernel_rfl)) (fun _ _ _ h => h) (Or.inl ⟨by rfl, ?_⟩) hHeld ?_ ?_
     rotate_left
     ·rintro w' ⟨s0, s1, s2, s3, s4, s5⟩
      go_simp
      with_reducible rfl
     rotate_left
     ·simp only [Act.put, sI, s0, sS, i64_w, i32_w]
      rfl
     refine take_ (i := 3) (N := some 23) (v := ?_) (a' := ?_) #[ti,ti,fi,ti,fi,fi,fi,fi,fi,fi,fi,fi] rfl rfl (take_ofW HT_.out HW_.out (by kernel_rfl)) (fun _ _ _ h => h) (Or.inl ⟨by rfl, ?_⟩) hHeld ?_ ?_
     rotate_left
     ·rintro w' ⟨s0, s1, s2, s3, s4, s5⟩
      go_simp
      with_reducible rfl
     rotate_left
     ·simp only [Act.put, sI, s0, sS, i64_w, i32_w]
      rfl
     refine join_ (σ := Value × Value × Value × Nat) 2 #[ti,ti,ti,ti,ti,ti,ti,ti,ti,ti,fi,fi] (fun s_ => [(22, .agg #[.int .i64 t259, s_.1]), (24, .agg #[.int .i64 t263, s_.2.1]), (25, .tuple #[.agg #[.int .i64 t267, s_.2.2.1], .bool false]), (8, .pointer (some ⟨s_.2.2.2, 0, none⟩)), (19, .tuple #[.agg #[.int .i64 t267, s_.2.2.1], .bool false]), (26, .agg #[.int .i64 t267, s_.2.2.1]), (27, .bool false)]) (fun s_ w' => (w'.cell? ⟨gb254, 0, none⟩ = some (.int .i64 a1_0) ∧ w'.cell? ⟨gb254, 1, none⟩ = some (.slice A1_1 l1_1.length c1_1) ∧ w'.cell? ⟨gb254, 2, none⟩ = some (.int .i64 a1_2) ∧ w'.cell? ⟨gb255, 0, none⟩ = some (.int .i64 a2_0) ∧ w'.cell? ⟨gb255, 1, none⟩ = some (.slice A2_1 l2_1.length c2_1) ∧ w'.cell? ⟨gb255, 2, none⟩ = some (.int .i64 a2_2)) ∧ (Kd.R (Kd.int .i64) 3 w' w.heap.size (fun k_ => some k_ ≠ (s_.2.1 : Value).ownBlock ∧ some k_ ≠ (s_.2.2.1 : Value).ownBlock) s_.1 t260) ∧ (Kd.R (Kd.int .i64) 3 w' w.heap.size (fun k_ => some k_ ≠ (s_.1 : Value).ownBlock ∧ some k_ ≠ (s_.2.2.1 : Value).ownBlock) s_.2.1 t264) ∧ (Kd.R (Kd.int .i64) 3 w' w.heap.size (fun k_ => some k_ ≠ (s_.1 : Value).ownBlock ∧ some k_ ≠ (s_.2.1 : Value).ownBlock) s_.2.2.1 t268) ∧ (w'.heap[gb254]? = some (.cells #[.int .i64 a1_0, .slice A1_1 l1_1.length c1_1, .int .i64 a1_2] 28 (0, 0))) ∧ (w'.heap[gb255]? = some (.cells #[.int .i64 a2_0, .slice A2_1 l2_1.length c2_1, .int .i64 a2_2] 28 (0, 0))) ∧ (w'.heap[gb256]? = some (.cells #[.int .i64 0, .slice none 0 0, .int .i64 0] 28 (0, 0))) ∧ (w'.heap[s_.2.2.2]? = some (.cells #[.int .i64 0, .slice none 0 0] 41 (0, 0))) ∧ (w.heap.size ≤ s_.2.2.2) ∧ (w.heap.size ≤ s_.2.2.2) ∧ (gb254 ≠ s_.2.2.2) ∧ (s_.2.2.2 ≠ gb254) ∧ (gb255 ≠ s_.2.2.2) ∧ (s_.2.2.2 ≠ gb255) ∧ (gb256 ≠ s_.2.2.2) ∧ (s_.2.2.2 ≠ gb256) ∧ (Below w.heap.size w w')) ?_ ?_
     rotate_left
     ·intro hCont
      refine two_ (i := 2) (j := 9) (Ni := some 22) (Nj := some 8) #[ti,ti,ti,ti,fi,fi,fi,fi,fi,fi,fi,fi] #[ti,ti,fi,ti,fi,fi,fi,fi,fi,ti,fi,fi] rfl rfl rfl rfl (two_of HT_.out (by kernel_rfl)) (by decide) (by decide) (fun K hK => ?_) (fun K hK => ?_)
      ·skip
       refine goes_ Try.func56 (by kernel_rfl) rfl #[.agg #[.int .i64 a1_0, .slice A1_1 l1_1.length c1_1, .int .i64 a1_2]] (by rfl) rfl rfl zd_ ?_
       with_reducible refine (impl_tableOfDiagram.calls kj3 a1_0 _ _ l1_1 a1_2 t259 t260 _ ?side1 ?side2 A26.out).mono ?_
       (case side1 => exact zj_)
       (case side2 => exact HC1_1.out)
       rintro e w52 ⟨v261, rfl, ho0, hb⟩
       refine ⟨_, rfl, ?_⟩
       have n_ := z (Kd.R_lower ho0 (below_size zi_)) <| z (blk_below (zb BK254.out) hb) <| z (blk_below (zb BK255.out) hb) <| z (blk_below (zb BK256.out) hb) <| z1 (below_step zi_ hb)
       clear BK254 BK255 BK256 HB; obtain ⟨HO262, BK254, BK255, BK256, HB⟩ := n_; (try clear hb); (try clear hb2); (try clear hk); (try clear hi); (try clear ho0)
       refine hK.out _ _ ⟨(blk_cell BK254.out 0).trans rfl, (blk_cell BK254.out 1).trans rfl, (blk_cell BK254.out 2).trans rfl, (blk_cell BK255.out 0).trans rfl, (blk_cell BK255.out 1).trans rfl, (blk_cell BK255.out 2).trans rfl⟩ (fun hHeld => ?_)
       clear hK K
       refine norm_ (a' := ?_) ?_ ?_
       rotate_left
       ·show Act.put _ (some 22) _ = _
        simp only [Act.put, sI, s0, sS, i64_w, i32_w]
        rfl
       refine two_ (i := 4) (j := 9) (Ni := some 24) (Nj := some 8) #[ti,ti,ti,ti,ti,fi,fi,fi,fi,fi,fi,fi] #[ti,ti,ti,ti,fi,fi,fi,fi,fi,ti,fi,fi] rfl rfl rfl rfl (two_of HT_.out (by kernel_rfl)) (by decide) (by decide) (fun K hK => ?_) (fun K hK => ?_)
       ·skip
        refine goes_ Try.func56 (by kernel_rfl) rfl #[.agg #[.int .i64 a2_0, .slice A2_1 l2_1.length c2_1, .int .i64 a2_2]] (by rfl) rfl rfl zd_ ?_
        with_reducible refine (impl_tableOfDiagram.calls kj3 a2_0 _ _ l2_1 a2_2 t263 t264 _ ?side1 ?side2 A27.out).mono ?_
        (case side1 => exact zba_)
        (case side2 => exact HC2_1.out)
        rintro e w53 ⟨v265, rfl, ho0, hb⟩
        refine ⟨_, rfl, ?_⟩
        have n_ := z (Kd.R_elder' (zr HO262.out) (Kd.R_base ho0) hb) <| z (Kd.R_lower (Kd.R_new' ho0 (Kd.R_lt (zr HO262.out))) (below_size zi_)) <| z (blk_below (zb BK254.out) hb) <| z (blk_below (zb BK255.out) hb) <| z (blk_below (zb BK256.out) hb) <| z1 (below_step zi_ hb)
        clear HO262 BK254 BK255 BK256 HB; obtain ⟨HO262, HO266, BK254, BK255, BK256, HB⟩ := n_; (try clear hb); (try clear hb2); (try clear hk); (try clear hi); (try clear ho0); obtain ⟨Ao54, co54, eo54⟩ := Kd.R_slice HO262.out; (first | subst eo54 | (injection eo54 with f1_ f2_ f3_; have f4_ := f1_.symm; have f5_ := f3_.symm; clear f1_ f2_ f3_; subst f4_; subst f5_)); obtain ⟨Ao55, co55, eo55⟩ := Kd.R_slice HO266.out; (first | subst eo55 | (injection eo55 with f1_ f2_ f3_; have f4_ := f1_.symm; have f5_ := f3_.symm; clear f1_ f2_ f3_; subst f4_; subst f5_))
        refine hK.out _ _ ⟨(blk_cell BK254.out 0).trans rfl, (blk_cell BK254.out 1).trans rfl, (blk_cell BK254.out 2).trans rfl, (blk_cell BK255.out 0).trans rfl, (blk_cell BK255.out 1).trans rfl, (blk_cell BK255.out 2).trans rfl⟩ (fun hHeld => ?_)
        clear hK K
        refine norm_ (a' := ?_) ?_ ?_
        rotate_left
        ·show Act.put _ (some 24) _ = _
         simp only [Act.put, sI, s0, sS, i64_w, i32_w]
         rfl
        refine two_ (i := 5) (j := 9) (Ni := some 25) (Nj := some 8) #[ti,ti,ti,ti,ti,ti,fi,fi,fi,fi,fi,fi] #[ti,ti,ti,ti,ti,fi,fi,fi,fi,ti,fi,fi] rfl rfl rfl rfl (two_of HT_.out (by kernel_rfl)) (by decide) (by decide) (fun K hK => ?_) (fun K hK => ?_)
        ·skip
         refine goes_ Try.func17 (by kernel_rfl) rfl #[.int .i64 a0, .agg #[.int .i64 t259, .slice Ao54 t260.length co54], .agg #[.int .i64 t263, .slice Ao55 t264.length co55]] (by rfl) rfl rfl zd_ ?_
         with_reducible refine (impl_CombineTables.calls kj3 a0 t259 _ _ t260 t263 _ _ t264 t267 t268 false _ ?side1 ?side2 ?side3 ?side4 A28.out).mono ?_
         (case side1 => exact zfe_)
         (case side2 => exact zff_)
         (case side3 => exact zfg_)
         (case side4 => exact zfh_)
         rintro e w56 ⟨v269, rfl, ho0, hb⟩
         refine ⟨_, rfl, ?_⟩
         have n_ := z (Kd.R_elder' (zr HO262.out) (Kd.R_base ho0) hb) <| z (Kd.R_elder' (zr HO266.out) (Kd.R_base ho0) hb) <| z (Kd.R_lower (Kd.R_new' (Kd.R_new' ho0 (Kd.R_lt (zr HO262.out))) (Kd.R_lt (zr HO266.out))) (below_size zi_)) <| z (blk_below (zb BK254.out) hb) <| z (blk_below (zb BK255.out) hb) <| z (blk_below (zb BK256.out) hb) <| z1 (below_step zi_ hb)
         clear HO262 HO266 BK254 BK255 BK256 HB; obtain ⟨HO262, HO266, HO270, BK254, BK255, BK256, HB⟩ := n_; (try clear hb); (try clear hb2); (try clear hk); (try clear hi); (try clear ho0)
         refine hK.out _ _ ⟨(blk_cell BK254.out 0).trans rfl, (blk_cell BK254.out 1).trans rfl, (blk_cell BK254.out 2).trans rfl, (blk_cell BK255.out 0).trans rfl, (blk_cell BK255.out 1).trans rfl, (blk_cell BK255.out 2).trans rfl⟩ (fun hHeld => ?_)
         clear hK K
         refine norm_ (a' := ?_) ?_ ?_
         rotate_left
         ·show Act.put _ (some 25) _ = _
          simp only [Act.put, sI, s0, sS, i64_w, i32_w]
          rfl
         refine py_ 6 19 HT_.out ?_; refine py_ 7 26 HT_.out ?_; refine py_ 8 27 HT_.out ?_
         refine one_ (i := 9) (N := some 8) #[ti,ti,ti,ti,ti,ti,ti,ti,ti,ti,fi,fi] rfl rfl (one_of HT_.out (by kernel_rfl)) (by decide) (fun K hK => ?_)
         refine box_step ?hg (N := 8) ?hd (cs := #[.int .i64 0, .slice none 0 0]) (t := 41) ?hr ?_; (case hd => rfl); (case hg => rfl); (case hr => exact zb_)
         intro gb272 hg w57 hbox hb
         have n_ := z (Kd.R_below (zr HO262.out) hb) <| z (Kd.R_below (zr HO266.out) hb) <| z (Kd.R_below (zr HO270.out) hb) <| z (blk_below (zb BK254.out) hb) <| z (blk_below (zb BK255.out) hb) <| z (blk_below (zb BK256.out) hb) <| z (below_step zi_ hb) <| z (hbox) <| z ((by rw [hg]; exact (below_size zi_) : w.heap.size ≤ gb272)) <| z ((by rw [hg]; exact (below_size zi_) : w.heap.size ≤ gb272)) <| z ((by rw [hg]; exact Nat.ne_of_lt (blk_lt (zb BK254.out)) : gb254 ≠ gb272)) <| z ((by rw [hg]; exact Nat.ne_of_gt (blk_lt (zb BK254.out)) : gb272 ≠ gb254)) <| z ((by rw [hg]; exact Nat.ne_of_lt (blk_lt (zb BK255.out)) : gb255 ≠ gb272)) <| z ((by rw [hg]; exact Nat.ne_of_gt (blk_lt (zb BK255.out)) : gb272 ≠ gb255)) <| z ((by rw [hg]; exact Nat.ne_of_lt (blk_lt (zb BK256.out)) : gb256 ≠ gb272)) <| z1 ((by rw [hg]; exact Nat.ne_of_gt (blk_lt (zb BK256.out)) : gb272 ≠ gb256))
         clear HO262 HO266 HO270 BK254 BK255 BK256 HB; obtain ⟨HO262, HO266, HO270, BK254, BK255, BK256, HB, BK272, GW272, GE272, NB254_272, NB272_254, NB255_272, NB272_255, NB256_272, NB272_256⟩ := n_; clear hb hbox hg
         refine hK.out _ _ ⟨(blk_cell BK254.out 0).trans rfl, (blk_cell BK254.out 1).trans rfl, (blk_cell BK254.out 2).trans rfl, (blk_cell BK255.out 0).trans rfl, (blk_cell BK255.out 1).trans rfl, (blk_cell BK255.out 2).trans rfl⟩ (fun hHeld => ?_)
         clear hK K
         refine norm_ (a' := ?_) ?_ ?_
         rotate_left
         ·show Act.put _ (some 8) _ = _
          simp only [Act.put, sI, s0, sS, i64_w, i32_w]
          rfl
         exact norm_ (by simp only [putAll, Act.put, sI, s0, sS]) (hCont (.slice Ao54 t260.length co54, .slice Ao55 t264.length co55, v269, gb272) _ ⟨hHeld, zfi_, zfj_, zga_, (zb BK254.out), (zb BK255.out), (zb BK256.out), (zb BK272.out), GW272.out, GE272.out, NB254_272.out, NB272_254.out, NB255_272.out, NB272_255.out, NB256_272.out, NB272_256.out, zbc_⟩)
        ·skip
         refine box_step ?hg (N := 8) ?hd (cs := #[.int .i64 0, .slice none 0 0]) (t := 41) ?hr ?_; (case hd => rfl); (case hg => rfl); (case hr => exact zb_)
         intro gb272 hg w54 hbox hb
         have n_ := z (Kd.R_below (zr HO262.out) hb) <| z (Kd.R_below (zr HO266.out) hb) <| z (blk_below (zb BK254.out) hb) <| z (blk_below (zb BK255.out) hb) <| z (blk_below (zb BK256.out) hb) <| z (below_step zi_ hb) <| z (hbox) <| z ((by rw [hg]; exact (below_size zi_) : w.heap.size ≤ gb272)) <| z ((by rw [hg]; exact (below_size zi_) : w.heap.size ≤ gb272)) <| z ((by rw [hg]; exact Nat.ne_of_lt (blk_lt (zb BK254.out)) : gb254 ≠ gb272)) <| z ((by rw [hg]; exact Nat.ne_of_gt (blk_lt (zb BK254.out)) : gb272 ≠ gb254)) <| z ((by rw [hg]; exact Nat.ne_of_lt (blk_lt (zb BK255.out)) : gb255 ≠ gb272)) <| z ((by rw [hg]; exact Nat.ne_of_gt (blk_lt (zb BK255.out)) : gb272 ≠ gb255)) <| z ((by rw [hg]; exact Nat.ne_of_lt (blk_lt (zb BK256.out)) : gb256 ≠ gb272)) <| z1 ((by rw [hg]; exact Nat.ne_of_gt (blk_lt (zb BK256.out)) : gb272 ≠ gb256))
         clear HO262 HO266 BK254 BK255 BK256 HB; obtain ⟨HO262, HO266, BK254, BK255, BK256, HB, BK272, GW272, GE272, NB254_272, NB272_254, NB255_272, NB272_255, NB256_272, NB272_256⟩ := n_; clear hb hbox hg; obtain ⟨Ao55, co55, eo55⟩ := Kd.R_slice HO262.out; (first | subst eo55 | (injection eo55 with f1_ f2_ f3_; have f4_ := f1_.symm; have f5_ := f3_.symm; clear f1_ f2_ f3_; subst f4_; subst f5_)); obtain ⟨Ao56, co56, eo56⟩ := Kd.R_slice HO266.out; (first | subst eo56 | (injection eo56 with f1_ f2_ f3_; have f4_ := f1_.symm; have f5_ := f3_.symm; clear f1_ f2_ f3_; subst f4_; subst f5_))
         refine hK.out _ _ ⟨(blk_cell BK254.out 0).trans rfl, (blk_cell BK254.out 1).trans rfl, (blk_cell BK254.out 2).trans rfl, (blk_cell BK255.out 0).trans rfl, (blk_cell BK255.out 1).trans rfl, (blk_cell BK255.out 2).trans rfl⟩ (fun hHeld => ?_)
         clear hK K
         refine norm_ (a' := ?_) ?_ ?_
         rotate_left
         ·show Act.put _ (some 8) _ = _
          simp only [Act.put, sI, s0, sS, i64_w, i32_w]
          rfl
         refine one_ (i := 5) (N := some 25) #[ti,ti,ti,ti,ti,ti,fi,fi,fi,ti,fi,fi] rfl rfl (one_of HT_.out (by kernel_rfl)) (by decide) (fun K hK => ?_)
         refine goes_ Try.func17 (by kernel_rfl) rfl #[.int .i64 a0, .agg #[.int .i64 t259, .slice Ao55 t260.length co55], .agg #[.int .i64 t263, .slice Ao56 t264.length co56]] (by rfl) rfl rfl zd_ ?_
         with_reducible refine (impl_CombineTables.calls kj3 a0 t259 _ _ t260 t263 _ _ t264 t267 t268 false _ ?side1 ?side2 ?side3 ?side4 A28.out).mono ?_
         (case side1 => exact zfe_)
         (case side2 => exact zff_)
         (case side3 => exact zfg_)
         (case side4 => exact zfh_)
         rintro e w57 ⟨v269, rfl, ho0, hb⟩
         refine ⟨_, rfl, ?_⟩
         have n_ := z (Kd.R_elder' (zr HO262.out) (Kd.R_base ho0) hb) <| z (Kd.R_elder' (zr HO266.out) (Kd.R_base ho0) hb) <| z (Kd.R_lower (Kd.R_new' (Kd.R_new' ho0 (Kd.R_lt (zr HO262.out))) (Kd.R_lt (zr HO266.out))) (below_size zbc_)) <| z (blk_below (zb BK254.out) hb) <| z (blk_below (zb BK255.out) hb) <| z (blk_below (zb BK256.out) hb) <| z (blk_below (zb BK272.out) hb) <| z1 (below_step zbc_ hb)
         clear HO262 HO266 BK254 BK255 BK256 BK272 HB; obtain ⟨HO262, HO266, HO270, BK254, BK255, BK256, BK272, HB⟩ := n_; (try clear hb); (try clear hb2); (try clear hk); (try clear hi); (try clear ho0)
         refine hK.out _ _ ⟨(blk_cell BK254.out 0).trans rfl, (blk_cell BK254.out 1).trans rfl, (blk_cell BK254.out 2).trans rfl, (blk_cell BK255.out 0).trans rfl, (blk_cell BK255.out 1).trans rfl, (blk_cell BK255.out 2).trans rfl⟩ (fun hHeld => ?_)
         clear hK K
         refine norm_ (a' := ?_) ?_ ?_
         rotate_left
         ·show Act.put _ (some 25) _ = _
          simp only [Act.put, sI, s0, sS, i64_w, i32_w]
          rfl
         refine py_ 6 19 HT_.out ?_; refine py_ 7 26 HT_.out ?_; refine py_ 8 27 HT_.out ?_
         exact norm_ (by simp only [putAll, Act.put, sI, s0, sS]) (hCont (.slice Ao55 t260.length co55, .slice Ao56 t264.length co56, v269, gb272) _ ⟨hHeld, zfi_, zfj_, zga_, (zb BK254.out), (zb BK255.out), (zb BK256.out), (zb BK272.out), GW272.out, GE272.out, NB254_272.out, NB272_254.out, NB255_272.out, NB272_255.out, NB256_272.out, NB272_256.out, zbc_⟩)
       ·skip
        refine box_step ?hg (N := 8) ?hd (cs := #[.int .i64 0, .slice none 0 0]) (t := 41) ?hr ?_; (case hd => rfl); (case hg => rfl); (case hr => exact zb_)
        intro gb272 hg w53 hbox hb
        have n_ := z (Kd.R_below (zr HO262.out) hb) <| z (blk_below (zb BK254.out) hb) <| z (blk_below (zb BK255.out) hb) <| z (blk_below (zb BK256.out) hb) <| z (below_step zi_ hb) <| z (hbox) <| z ((by rw [hg]; exact (below_size zi_) : w.heap.size ≤ gb272)) <| z ((by rw [hg]; exact (below_size zi_) : w.heap.size ≤ gb272)) <| z ((by rw [hg]; exact Nat.ne_of_lt (blk_lt (zb BK254.out)) : gb254 ≠ gb272)) <| z ((by rw [hg]; exact Nat.ne_of_gt (blk_lt (zb BK254.out)) : gb272 ≠ gb254)) <| z ((by rw [hg]; exact Nat.ne_of_lt (blk_lt (zb BK255.out)) : gb255 ≠ gb272)) <| z ((by rw [hg]; exact Nat.ne_of_gt (blk_lt (zb BK255.out)) : gb272 ≠ gb255)) <| z ((by rw [hg]; exact Nat.ne_of_lt (blk_lt (zb BK256.out)) : gb256 ≠ gb272)) <| z1 ((by rw [hg]; exact Nat.ne_of_gt (blk_lt (zb BK256.out)) : gb272 ≠ gb256))
        clear HO262 BK254 BK255 BK256 HB; obtain ⟨HO262, BK254, BK255, BK256, HB, BK272, GW272, GE272, NB254_272, NB272_254, NB255_272, NB272_255, NB256_272, NB272_256⟩ := n_; clear hb hbox hg
        refine hK.out _ _ ⟨(blk_cell BK254.out 0).trans rfl, (blk_cell BK254.out 1).trans rfl, (blk_cell BK254.out 2).trans rfl, (blk_cell BK255.out 0).trans rfl, (blk_cell BK255.out 1).trans rfl, (blk_cell BK255.out 2).trans rfl⟩ (fun hHeld => ?_)
        clear hK K
        refine norm_ (a' := ?_) ?_ ?_
        rotate_left
        ·show Act.put _ (some 8) _ = _
         simp only [Act.put, sI, s0, sS, i64_w, i32_w]
         rfl
        refine one_ (i := 4) (N := some 24) #[ti,ti,ti,ti,ti,fi,fi,fi,fi,ti,fi,fi] rfl rfl (one_of HT_.out (by kernel_rfl)) (by decide) (fun K hK => ?_)
        refine goes_ Try.func56 (by kernel_rfl) rfl #[.agg #[.int .i64 a2_0, .slice A2_1 l2_1.length c2_1, .int .i64 a2_2]] (by rfl) rfl rfl zd_ ?_
        with_reducible refine (impl_tableOfDiagram.calls kj3 a2_0 _ _ l2_1 a2_2 t263 t264 _ ?side1 ?side2 A27.out).mono ?_
        (case side1 => exact zba_)
        (case side2 => exact HC2_1.out)
        rintro e w54 ⟨v265, rfl, ho0, hb⟩
        refine ⟨_, rfl, ?_⟩
        have n_ := z (Kd.R_elder' (zr HO262.out) (Kd.R_base ho0) hb) <| z (Kd.R_lower (Kd.R_new' ho0 (Kd.R_lt (zr HO262.out))) (below_size zbc_)) <| z (blk_below (zb BK254.out) hb) <| z (blk_below (zb BK255.out) hb) <| z (blk_below (zb BK256.out) hb) <| z (blk_below (zb BK272.out) hb) <| z1 (below_step zbc_ hb)
        clear HO262 BK254 BK255 BK256 BK272 HB; obtain ⟨HO262, HO266, BK254, BK255, BK256, BK272, HB⟩ := n_; (try clear hb); (try clear hb2); (try clear hk); (try clear hi); (try clear ho0); obtain ⟨Ao55, co55, eo55⟩ := Kd.R_slice HO262.out; (first | subst eo55 | (injection eo55 with f1_ f2_ f3_; have f4_ := f1_.symm; have f5_ := f3_.symm; clear f1_ f2_ f3_; subst f4_; subst f5_)); obtain ⟨Ao56, co56, eo56⟩ := Kd.R_slice HO266.out; (first | subst eo56 | (injection eo56 with f1_ f2_ f3_; have f4_ := f1_.symm; have f5_ := f3_.symm; clear f1_ f2_ f3_; subst f4_; subst f5_))
        refine hK.out _ _ ⟨(blk_cell BK254.out 0).trans rfl, (blk_cell BK254.out 1).trans rfl, (blk_cell BK254.out 2).trans rfl, (blk_cell BK255.out 0).trans rfl, (blk_cell BK255.out 1).trans rfl, (blk_cell BK255.out 2).trans rfl⟩ (fun hHeld => ?_)
        clear hK K
        refine norm_ (a' := ?_) ?_ ?_
        rotate_left
        ·show Act.put _ (some 24) _ = _
         simp only [Act.put, sI, s0, sS, i64_w, i32_w]
         rfl
        refine one_ (i := 5) (N := some 25) #[ti,ti,ti,ti,ti,ti,fi,fi,fi,ti,fi,fi] rfl rfl (one_of HT_.out (by kernel_rfl)) (by decide) (fun K hK => ?_)
        refine goes_ Try.func17 (by kernel_rfl) rfl #[.int .i64 a0, .agg #[.int .i64 t259, .slice Ao55 t260.length co55], .agg #[.int .i64 t263, .slice Ao56 t264.length co56]] (by rfl) rfl rfl zd_ ?_
        with_reducible refine (impl_CombineTables.calls kj3 a0 t259 _ _ t260 t263 _ _ t264 t267 t268 false _ ?side1 ?side2 ?side3 ?side4 A28.out).mono ?_
        (case side1 => exact zfe_)
        (case side2 => exact zff_)
        (case side3 => exact zfg_)
        (case side4 => exact zfh_)
        rintro e w57 ⟨v269, rfl, ho0, hb⟩
        refine ⟨_, rfl, ?_⟩
        have n_ := z (Kd.R_elder' (zr HO262.out) (Kd.R_base ho0) hb) <| z (Kd.R_elder' (zr HO266.out) (Kd.R_base ho0) hb) <| z (Kd.R_lower (Kd.R_new' (Kd.R_new' ho0 (Kd.R_lt (zr HO262.out))) (Kd.R_lt (zr HO266.out))) (below_size zbc_)) <| z (blk_below (zb BK254.out) hb) <| z (blk_below (zb BK255.out) hb) <| z (blk_below (zb BK256.out) hb) <| z (blk_below (zb BK272.out) hb) <| z1 (below_step zbc_ hb)
        clear HO262 HO266 BK254 BK255 BK256 BK272 HB; obtain ⟨HO262, HO266, HO270, BK254, BK255, BK256, BK272, HB⟩ := n_; (try clear hb); (try clear hb2); (try clear hk); (try clear hi); (try clear ho0)
        refine hK.out _ _ ⟨(blk_cell BK254.out 0).trans rfl, (blk_cell BK254.out 1).trans rfl, (blk_cell BK254.out 2).trans rfl, (blk_cell BK255.out 0).trans rfl, (blk_cell BK255.out 1).trans rfl, (blk_cell BK255.out 2).trans rfl⟩ (fun hHeld => ?_)
        clear hK K
        refine norm_ (a' := ?_) ?_ ?_
        rotate_left
        ·show Act.put _ (some 25) _ = _
         simp only [Act.put, sI, s0, sS, i64_w, i32_w]
         rfl
        refine py_ 6 19 HT_.out ?_; refine py_ 7 26 HT_.out ?_; refine py_ 8 27 HT_.out ?_
        exact norm_ (by simp only [putAll, Act.put, sI, s0, sS]) (hCont (.slice Ao55 t260.length co55, .slice Ao56 t264.length co56, v269, gb272) _ ⟨hHeld, zfi_, zfj_, zga_, (zb BK254.out), (zb BK255.out), (zb BK256.out), (zb BK272.out), GW272.out, GE272.out, NB254_272.out, NB272_254.out, NB255_272.out, NB272_255.out, NB256_272.out, NB272_256.out, zbc_⟩)
      ·skip
       refine box_step ?hg (N := 8) ?hd (cs := #[.int .i64 0, .slice none 0 0]) (t := 41) ?hr ?_; (case hd => rfl); (case hg => rfl); (case hr => exact zb_)
       intro gb272 hg w52 hbox hb
       have n_ := z (blk_below (zb BK254.out) hb) <| z (blk_below (zb BK255.out) hb) <| z (blk_below (zb BK256.out) hb) <| z (below_step zi_ hb) <| z (hbox) <| z ((by rw [hg]; exact (below_size zi_) : w.heap.size ≤ gb272)) <| z ((by rw [hg]; exact (below_size zi_) : w.heap.size ≤ gb272)) <| z ((by rw [hg]; exact Nat.ne_of_lt (blk_lt (zb BK254.out)) : gb254 ≠ gb272)) <| z ((by rw [hg]; exact Nat.ne_of_gt (blk_lt (zb BK254.out)) : gb272 ≠ gb254)) <| z ((by rw [hg]; exact Nat.ne_of_lt (blk_lt (zb BK255.out)) : gb255 ≠ gb272)) <| z ((by rw [hg]; exact Nat.ne_of_gt (blk_lt (zb BK255.out)) : gb272 ≠ gb255)) <| z ((by rw [hg]; exact Nat.ne_of_lt (blk_lt (zb BK256.out)) : gb256 ≠ gb272)) <| z1 ((by rw [hg]; exact Nat.ne_of_gt (blk_lt (zb BK256.out)) : gb272 ≠ gb256))
       clear BK254 BK255 BK256 HB; obtain ⟨BK254, BK255, BK256, HB, BK272, GW272, GE272, NB254_272, NB272_254, NB255_272, NB272_255, NB256_272, NB272_256⟩ := n_; clear hb hbox hg
       refine hK.out _ _ ⟨(blk_cell BK254.out 0).trans rfl, (blk_cell BK254.out 1).trans rfl, (blk_cell BK254.out 2).trans rfl, (blk_cell BK255.out 0).trans rfl, (blk_cell BK255.out 1).trans rfl, (blk_cell BK255.out 2).trans rfl⟩ (fun hHeld => ?_)
       clear hK K
       refine norm_ (a' := ?_) ?_ ?_
       rotate_left
       ·show Act.put _ (some 8) _ = _
        simp only [Act.put, sI, s0, sS, i64_w, i32_w]
        rfl
       refine one_ (i := 2) (N := some 22) #[ti,ti,ti,ti,fi,fi,fi,fi,fi,ti,fi,fi] rfl rfl (one_of HT_.out (by kernel_rfl)) (by decide) (fun K hK => ?_)
       refine goes_ Try.func56 (by kernel_rfl) rfl #[.agg #[.int .i64 a1_0, .slice A1_1 l1_1.length c1_1, .int .i64 a1_2]] (by rfl) rfl rfl zd_ ?_
       with_reducible refine (impl_tableOfDiagram.calls kj3 a1_0 _ _ l1_1 a1_2 t259 t260 _ ?side1 ?side2 A26.out).mono ?_
       (case side1 => exact zj_)
       (case side2 => exact HC1_1.out)
       rintro e w53 ⟨v261, rfl, ho0, hb⟩
       refine ⟨_, rfl, ?_⟩
       have n_ := z (Kd.R_lower ho0 (below_size zbc_)) <| z (blk_below (zb BK254.out) hb) <| z (blk_below (zb BK255.out) hb) <| z (blk_below (zb BK256.out) hb) <| z (blk_below (zb BK272.out) hb) <| z1 (below_step zbc_ hb)
       clear BK254 BK255 BK256 BK272 HB; obtain ⟨HO262, BK254, BK255, BK256, BK272, HB⟩ := n_; (try clear hb); (try clear hb2); (try clear hk); (try clear hi); (try clear ho0)
       refine hK.out _ _ ⟨(blk_cell BK254.out 0).trans rfl, (blk_cell BK254.out 1).trans rfl, (blk_cell BK254.out 2).trans rfl, (blk_cell BK255.out 0).trans rfl, (blk_cell BK255.out 1).trans rfl, (blk_cell BK255.out 2).trans rfl⟩ (fun hHeld => ?_)
       clear hK K
       refine norm_ (a' := ?_) ?_ ?_
       rotate_left
       ·show Act.put _ (some 22) _ = _
        simp only [Act.put, sI, s0, sS, i64_w, i32_w]
        rfl
       refine one_ (i := 4) (N := some 24) #[ti,ti,ti,ti,ti,fi,fi,fi,fi,ti,fi,fi] rfl rfl (one_of HT_.out (by kernel_rfl)) (by decide) (fun K hK => ?_)
       refine goes_ Try.func56 (by kernel_rfl) rfl #[.agg #[.int .i64 a2_0, .slice A2_1 l2_1.length c2_1, .int .i64 a2_2]] (by rfl) rfl rfl zd_ ?_
       with_reducible refine (impl_tableOfDiagram.calls kj3 a2_0 _ _ l2_1 a2_2 t263 t264 _ ?side1 ?side2 A27.out).mono ?_
       (case side1 => exact zba_)
       (case side2 => exact HC2_1.out)
       rintro e w54 ⟨v265, rfl, ho0, hb⟩
       refine ⟨_, rfl, ?_⟩
       have n_ := z (Kd.R_elder' (zr HO262.out) (Kd.R_base ho0) hb) <| z (Kd.R_lower (Kd.R_new' ho0 (Kd.R_lt (zr HO262.out))) (below_size zbc_)) <| z (blk_below (zb BK254.out) hb) <| z (blk_below (zb BK255.out) hb) <| z (blk_below (zb BK256.out) hb) <| z (blk_below (zb BK272.out) hb) <| z1 (below_step zbc_ hb)
       clear HO262 BK254 BK255 BK256 BK272 HB; obtain ⟨HO262, HO266, BK254, BK255, BK256, BK272, HB⟩ := n_; (try clear hb); (try clear hb2); (try clear hk); (try clear hi); (try clear ho0); obtain ⟨Ao55, co55, eo55⟩ := Kd.R_slice HO262.out; (first | subst eo55 | (injection eo55 with f1_ f2_ f3_; have f4_ := f1_.symm; have f5_ := f3_.symm; clear f1_ f2_ f3_; subst f4_; subst f5_)); obtain ⟨Ao56, co56, eo56⟩ := Kd.R_slice HO266.out; (first | subst eo56 | (injection eo56 with f1_ f2_ f3_; have f4_ := f1_.symm; have f5_ := f3_.symm; clear f1_ f2_ f3_; subst f4_; subst f5_))
       refine hK.out _ _ ⟨(blk_cell BK254.out 0).trans rfl, (blk_cell BK254.out 1).trans rfl, (blk_cell BK254.out 2).trans rfl, (blk_cell BK255.out 0).trans rfl, (blk_cell BK255.out 1).trans rfl, (blk_cell BK255.out 2).trans rfl⟩ (fun hHeld => ?_)
       clear hK K
       refine norm_ (a' := ?_) ?_ ?_
       rotate_left
       ·show Act.put _ (some 24) _ = _
        simp only [Act.put, sI, s0, sS, i64_w, i32_w]
        rfl
       refine one_ (i := 5) (N := some 25) #[ti,ti,ti,ti,ti,ti,fi,fi,fi,ti,fi,fi] rfl rfl (one_of HT_.out (by kernel_rfl)) (by decide) (fun K hK => ?_)
       refine goes_ Try.func17 (by kernel_rfl) rfl #[.int .i64 a0, .agg #[.int .i64 t259, .slice Ao55 t260.length co55], .agg #[.int .i64 t263, .slice Ao56 t264.length co56]] (by rfl) rfl rfl zd_ ?_
       with_reducible refine (impl_CombineTables.calls kj3 a0 t259 _ _ t260 t263 _ _ t264 t267 t268 false _ ?side1 ?side2 ?side3 ?side4 A28.out).mono ?_
       (case side1 => exact zfe_)
       (case side2 => exact zff_)
       (case side3 => exact zfg_)
       (case side4 => exact zfh_)
       rintro e w57 ⟨v269, rfl, ho0, hb⟩
       refine ⟨_, rfl, ?_⟩
       have n_ := z (Kd.R_elder' (zr HO262.out) (Kd.R_base ho0) hb) <| z (Kd.R_elder' (zr HO266.out) (Kd.R_base ho0) hb) <| z (Kd.R_lower (Kd.R_new' (Kd.R_new' ho0 (Kd.R_lt (zr HO262.out))) (Kd.R_lt (zr HO266.out))) (below_size zbc_)) <| z (blk_below (zb BK254.out) hb) <| z (blk_below (zb BK255.out) hb) <| z (blk_below (zb BK256.out) hb) <| z (blk_below (zb BK272.out) hb) <| z1 (below_step zbc_ hb)
       clear HO262 HO266 BK254 BK255 BK256 BK272 HB; obtain ⟨HO262, HO266, HO270, BK254, BK255, BK256, BK272, HB⟩ := n_; (try clear hb); (try clear hb2); (try clear hk); (try clear hi); (try clear ho0)
       refine hK.out _ _ ⟨(blk_cell BK254.out 0).trans rfl, (blk_cell BK254.out 1).trans rfl, (blk_cell BK254.out 2).trans rfl, (blk_cell BK255.out 0).trans rfl, (blk_cell BK255.out 1).trans rfl, (blk_cell BK255.out 2).trans rfl⟩ (fun hHeld => ?_)
       clear hK K
       refine norm_ (a' := ?_) ?_ ?_
       rotate_left
       ·show Act.put _ (some 25) _ = _
        simp only [Act.put, sI, s0, sS, i64_w, i32_w]
        rfl
       refine py_ 6 19 HT_.out ?_; refine py_ 7 26 HT_.out ?_; refine py_ 8 27 HT_.out ?_
       exact norm_ (by simp only [putAll, Act.put, sI, s0, sS]) (hCont (.slice Ao55 t260.length co55, .slice Ao56 t264.length co56, v269, gb272) _ ⟨hHeld, zfi_, zfj_, zga_, (zb BK254.out), (zb BK255.out), (zb BK256.out), (zb BK272.out), GW272.out, GE272.out, NB254_272.out, NB272_254.out, NB255_272.out, NB272_255.out, NB256_272.out, NB272_256.out, zbc_⟩)
     rintro ⟨v261, v265, v269, gb272⟩ w58 ⟨hS_, h0_, h1_, h2_, h3_, h4_, h5_, h6_, h7_, h8_, h9_, h10_, h11_, h12_, h13_, h14_, h15_⟩
     have n0_ : Aside0 (Kd.R (Kd.int .i64) 3 w58 w.heap.size (fun k_ => some k_ ≠ (v265 : Value).ownBlock ∧ some k_ ≠ (v269 : Value).ownBlock) v261 t260) := ⟨h0_⟩; have n1_ : Aside0 (Kd.R (Kd.int .i64) 3 w58 w.heap.size (fun k_ => some k_ ≠ (v261 : Value).ownBlock ∧ some k_ ≠ (v269 : Value).ownBlock) v265 t264) := ⟨h1_⟩; have n2_ : Aside0 (Kd.R (Kd.int .i64) 3 w58 w.heap.size (fun k_ => some k_ ≠ (v261 : Value).ownBlock ∧ some k_ ≠ (v265 : Value).ownBlock) v269 t268) := ⟨h2_⟩; have n3_ : Aside0 (w58.heap[gb254]? = some (.cells #[.int .i64 a1_0, .slice A1_1 l1_1.length c1_1, .int .i64 a1_2] 28 (0, 0))) := ⟨h3_⟩; have n4_ : Aside0 (w58.heap[gb255]? = some (.cells #[.int .i64 a2_0, .slice A2_1 l2_1.length c2_1, .int .i64 a2_2] 28 (0, 0))) := ⟨h4_⟩; have n5_ : Aside0 (w58.heap[gb256]? = some (.cells #[.int .i64 0, .slice none 0 0, .int .i64 0] 28 (0, 0))) := ⟨h5_⟩; have n6_ : Aside0 (w58.heap[gb272]? = some (.cells #[.int .i64 0, .slice none 0 0] 41 (0, 0))) := ⟨h6_⟩; have n7_ : Aside0 (w.heap.size ≤ gb272) := ⟨h7_⟩; have n8_ : Aside0 (w.heap.size ≤ gb272) := ⟨h8_⟩; have n9_ : Aside0 (gb254 ≠ gb272) := ⟨h9_⟩; have n10_ : Aside0 (gb272 ≠ gb254) := ⟨h10_⟩; have n11_ : Aside0 (gb255 ≠ gb272) := ⟨h11_⟩; have n12_ : Aside0 (gb272 ≠ gb255) := ⟨h12_⟩; have n13_ : Aside0 (gb256 ≠ gb272) := ⟨h13_⟩; have n14_ : Aside0 (gb272 ≠ gb256) := ⟨h14_⟩; have n15_ : Aside0 (Below w.heap.size w w58) := ⟨h15_⟩; clear BK254 BK255 BK256 HB h0_ h1_ h2_ h3_ h4_ h5_ h6_ h7_ h8_ h9_ h10_ h11_ h12_ h13_ h14_ h15_; have HO262 := n0_; have HO266 := n1_; have HO270 := n2_; have BK254 := n3_; have BK255 := n4_; have BK256 := n5_; have BK272 := n6_; have GW272 := n7_; have GE272 := n8_; have NB254_272 := n9_; have NB272_254 := n10_; have NB255_272 := n11_; have NB272_255 := n12_; have NB256_272 := n13_; have NB272_256 := n14_; have HB := n15_; clear n0_ n1_ n2_ n3_ n4_ n5_ n6_ n7_ n8_ n9_ n10_ n11_ n12_ n13_ n14_ n15_; have hHeld : w58.cell? ⟨gb254, 0, none⟩ = some (.int .i64 a1_0) ∧ w58.cell? ⟨gb254, 1, none⟩ = some (.slice A1_1 l1_1.length c1_1) ∧ w58.cell? ⟨gb254, 2, none⟩ = some (.int .i64 a1_2) ∧ w58.cell? ⟨gb255, 0, none⟩ = some (.int .i64 a2_0) ∧ w58.cell? ⟨gb255, 1, none⟩ = some (.slice A2_1 l2_1.length c2_1) ∧ w58.cell? ⟨gb255, 2, none⟩ = some (.int .i64 a2_2) := hS_; obtain ⟨Ao60, co60, eo60⟩ := Kd.R_slice HO270.out; (first | subst eo60 | (injection eo60 with f1_ f2_ f3_; have f4_ := f1_.symm; have f5_ := f3_.symm; clear f1_ f2_ f3_; subst f4_; subst f5_))
     refine norm_ (a' := ?_) ?_ ?_
     rotate_left
     ·simp only [putAll, Act.put, sI, s0, sS]
      rfl
     refine one_ (i := 10) (N := none) #[ti,ti,ti,ti,ti,ti,ti,ti,ti,ti,ti,fi] rfl rfl (one_of HT_.out (by kernel_rfl)) (by decide) (fun K hK => ?_)
     have hs59 : w58.cell? ⟨gb272, 0, none⟩ = some (.int .i64 0) := (blk_cell BK272.out 0).trans rfl; have hfs59 := blk_frozen BK272.out 0; have hns59_0 := NB254_272.out; have hns59_1 := NB255_272.out; have hns59_2 := NB256_272.out; have hms59_0 := NB272_254.out; have hms59_1 := NB272_255.out; have hms59_2 := NB272_256.out; have hs61 : w58.cell? ⟨gb272, 1, none⟩ = some (.slice none 0 0) := (blk_cell BK272.out 1).trans rfl; have hfs61 := blk_frozen BK272.out 1; have hns61_0 := NB254_272.out; have hns61_1 := NB255_272.out; have hns61_2 := NB256_272.out; have hms61_0 := NB272_254.out; have hms61_1 := NB272_255.out; have hms61_2 := NB272_256.out
     refine skip_ (w1 := ?_) (by rfl) rfl ?_ ?_
     rotate_left
     ·go_simp
      rfl
     refine hK.out _ _ ⟨((cell_far (p := ⟨gb272, _, none⟩) NB254_272.out _).trans (((cell_far (p := ⟨gb272, _, none⟩) NB254_272.out _).trans (hHeld.1)))), ((cell_far (p := ⟨gb272, _, none⟩) NB254_272.out _).trans (((cell_far (p := ⟨gb272, _, none⟩) NB254_272.out _).trans (hHeld.2.1)))), ((cell_far (p := ⟨gb272, _, none⟩) NB254_272.out _).trans (((cell_far (p := ⟨gb272, _, none⟩) NB254_272.out _).trans (hHeld.2.2.1)))), ((cell_far (p := ⟨gb272, _, none⟩) NB255_272.out _).trans (((cell_far (p := ⟨gb272, _, none⟩) NB255_272.out _).trans (hHeld.2.2.2.1)))), ((cell_far (p := ⟨gb272, _, none⟩) NB255_272.out _).trans (((cell_far (p := ⟨gb272, _, none⟩) NB255_272.out _).trans (hHeld.2.2.2.2.1)))), ((cell_far (p := ⟨gb272, _, none⟩) NB255_272.out _).trans (((cell_far (p := ⟨gb272, _, none⟩) NB255_272.out _).trans (hHeld.2.2.2.2.2))))⟩ (fun hHeld => ?_)
     clear hK K; refine py_ 11 9 HT_.out ?_
     refine done_ (done_of HT_.out (by kernel_rfl)) ?_
     have hnb62 := NB256_254.out; have hnc62 := NB254_256.out; have hnb63 := NB256_255.out; have hnc63 := NB255_256.out; have hnb64 := NB256_272.out; have hnc64 := NB272_256.out; have hcz65_0 : w58.cell? ⟨gb256, 0, none⟩ = some (.int .i64 0) := (blk_cell BK256.out 0).trans rfl; have hcz65_1 : w58.cell? ⟨gb256, 1, none⟩ = some (.slice none 0 0) := (blk_cell BK256.out 1).trans rfl; have hcz65_2 : w58.cell? ⟨gb256, 2, none⟩ = some (.int .i64 0) := (blk_cell BK256.out 2).trans rfl; have hfz65_0 := blk_frozen BK256.out 0; have hfz65_1 := blk_frozen BK256.out 1; have hfz65_2 := blk_frozen BK256.out 2; (try go_wp2)
     refine bodyPost_ret (results_ct rfl _ _ gb256 28 #[.int .i64 0, .slice none 0 0, .int .i64 0] (0, 0) _ rfl (by refine zb ?_; refine blk_put (cs := #[.int .i64 0, .slice none 0 0, .int .i64 0]) ?_ 2 _ rfl; refine zb ?_; refine blk_put (cs := #[.int .i64 0, .slice none 0 0, .int .i64 0]) ?_ 1 _ rfl; refine zb ?_; refine blk_put (cs := #[.int .i64 0, .slice none 0 0, .int .i64 0]) ?_ 0 _ rfl; refine zb ?_; refine blk_far ?_ NB256_272.out _; refine zb ?_; refine blk_far ?_ NB256_272.out _; refine zb ?_; exact BK256.out) Try.underlying28 rfl (by kernel_rfl)) rfl ?_
     exact ⟨_, zf_, zdg_, zbc_⟩
end Go.Proofs.Ytlnhpkjioppbiaa.QFnExactCombineDiagrams
