/- Functions of FnExactCombineDiagrams, each as a Lean function, with the proof that the Go code comes to its answers. -/
import Derived.Test.YtlnhpkjioppbiaaSFnExactCombineDiagramsx0
import Derived.Test.YtlnhpkjioppbiaaSFnExactCombineDiagramsx1
import Derived.Test.YtlnhpkjioppbiaaSFnExactCombineDiagramsx8
import Derived.Test.YtlnhpkjioppbiaaSFnExactCombineDiagramsx9
namespace Go.Proofs.Ytlnhpkjioppbiaa.QFnExactCombineDiagrams
open Go.RowKit Go.Proofs.YtlnhpkjioppbiaaW.PrintWords Go.Proofs.YtlnhpkjioppbiaaW.PrintLast Go.Proofs.YtlnhpkjioppbiaaW.PrintMore
open Go.Proofs.YtlnhpkjioppbiaaW.PrintWords renaming pw_below_drewN → pN, below_drew1 → p1, below_alloc → pA
open Go.Proofs.YtlnhpkjioppbiaaW.PrintWords.Kd renaming R_alloc → kA, R_drewN → kN, R_drew → kD, C_alloc → cA, C_drewN → cN, C_drew → cD
open Go.Proofs.YtlnhpkjioppbiaaW.PrintWords.Aside0 renaming mk → aM
open List renaming setIfInBounds_toArray → sI, set_cons_zero → s0, set_cons_succ → sS, map_toArray → mT, length_take → lT, length_drop → lD, map_cons → mC, map_nil → mN
open Option renaming bind_eq_some_iff → oB
attribute [local go_sem] max2_int min2_int max_two min_two max_three min_three max_four min_four
set_option maxHeartbeats 8000000
set_option maxRecDepth 100000
set_option linter.unusedVariables false
set_option linter.unusedSimpArgs false
attribute [local go_sem high] eqA93
mutual
def impl_IsDiagram.j0 : Nat → Bool → Int → List (S93) → Int → Option (Bool)
 | 0, _, _, _, _ => none
 | k + 1, x36, x226000, x226001, x226002 => if x36 = true then (some false) else (impl_IsDiagram.l0 k x226001 (x226001.length : Int) 0 x226000 x226001 x226002)
def impl_IsDiagram.l0 : Nat → List (S93) → Int → Int → Int → List (S93) → Int → Option (Bool)
 | 0, _, _, _, _, _, _ => none
 | k + 1, x38, x39, x40, x226000, x226001, x226002 => if x40 < x39 then (if 0 ≤ x40 then (if x40 < (x38.length : Int) then (if ((rd_T93 x38 x40).f0) < 0 then (impl_IsDiagram.j2 k x40 x38 x39 x40 true x226000 x226001 x226002 ((rd_T93 x38 x40).f0) ((rd_T93 x38 x40).f1) ((rd_T93 x38 x40).f2)) else (if ((rd_T93 x38 x40).f0) ≥ x226000 then (impl_IsDiagram.j2 k x40 x38 x39 x40 true x226000 x226001 x226002 ((rd_T93 x38 x40).f0) ((rd_T93 x38 x40).f1) ((rd_T93 x38 x40).f2)) else (if ((rd_T93 x38 x40).f1) = ((rd_T93 x38 x40).f2) then (impl_IsDiagram.j2 k x40 x38 x39 x40 true x226000 x226001 x226002 ((rd_T93 x38 x40).f0) ((rd_T93 x38 x40).f1) ((rd_T93 x38 x40).f2)) else ((impl_goodReference.f x226000 x226001 x226002 x40 ((rd_T93 x38 x40).f1)).bind fun t228 => (if t228 = true then ((impl_goodReference.f x226000 x226001 x226002 x40 ((rd_T93 x38 x40).f2)).bind fun t229 => (impl_IsDiagram.j2 k x40 x38 x39 x40 (!t229) x226000 x226001 x226002 ((rd_T93 x38 x40).f0) ((rd_T93 x38 x40).f1) ((rd_T93 x38 x40).f2))) else (impl_IsDiagram.j2 k x40 x38 x39 x40 true x226000 x226001 x226002 ((rd_T93 x38 x40).f0) ((rd_T93 x38 x40).f1) ((rd_T93 x38 x40).f2))))))) else (none)) else (none)) else ((impl_visitOrder.f k x226000 x226001 x226002).bind fun t231 => (if (t231.length : Int) = (x226001.length : Int) then (impl_IsDiagram.l2 k t231 (t231.length : Int) 0) else (some false)))
def impl_IsDiagram.j2 : Nat → Int → List (S93) → Int → Int → Bool → Int → List (S93) → Int → Int → Int → Int → Option (Bool)
 | 0, _, _, _, _, _, _, _, _, _, _, _ => none
 | k + 1, x3, x38, x39, x40, x77, x226000, x226001, x226002, x228000, x228001, x228002 => if x77 = true then (some false) else (impl_IsDiagram.l1 k x3 0 x38 x39 x40 x226000 x226001 x226002 x228000 x228001 x228002)
def impl_IsDiagram.l1 : Nat → Int → Int → List (S93) → Int → Int → Int → List (S93) → Int → Int → Int → Int → Option (Bool)
 | 0, _, _, _, _, _, _, _, _, _, _, _ => none
 | k + 1, x3, x5, x38, x39, x40, x226000, x226001, x226002, x228000, x228001, x228002 => if x5 < x3 then (if 0 ≤ x5 then (if x5 < (x226001.length : Int) then (if (((rd_T93 x226001 x5).f0) == x228000 && (((rd_T93 x226001 x5).f1) == x228001 && (((rd_T93 x226001 x5).f2) == x228002))) = true then (some false) else (impl_IsDiagram.l1 k x3 (wrap64 (x5 + 1)) x38 x39 x40 x226000 x226001 x226002 x228000 x228001 x228002)) else (none)) else (none)) else (impl_IsDiagram.l0 k x38 x39 (wrap64 (x40 + 1)) x226000 x226001 x226002)
def impl_IsDiagram.l2 : Nat → List Int → Int → Int → Option (Bool)
 | 0, _, _, _ => none
 | k + 1, x99, x100, x101 => if x101 < x100 then (if 0 ≤ x101 then (if x101 < (x99.length : Int) then (if x101 = (rd x99 x101) then (impl_IsDiagram.l2 k x99 x100 (wrap64 (x101 + 1))) else (some false)) else (none)) else (none)) else (some true)
end
def impl_IsDiagram.f (k : Nat) (a0_0 : Int) (l0_1 : List (S93)) (a0_2 : Int) : Option (Bool) := if a0_0 < 0 then (impl_IsDiagram.j0 k true a0_0 l0_1 a0_2) else (if a0_0 > 4 then (impl_IsDiagram.j0 k true a0_0 l0_1 a0_2) else (if (l0_1.length : Int) > 40 then (impl_IsDiagram.j0 k true a0_0 l0_1 a0_2) else (if a0_2 < 0 then (impl_IsDiagram.j0 k true a0_0 l0_1 a0_2) else (impl_IsDiagram.j0 k (decide (a0_2 > (wrap64 (1 + (l0_1.length : Int))))) a0_0 l0_1 a0_2))))
theorem impl_IsDiagram.mono_l : ∀ k, (∀ y0 y1 y2 y3, LeO (impl_IsDiagram.j0 k y0 y1 y2 y3) (impl_IsDiagram.j0 (k + 1) y0 y1 y2 y3)) ∧ (∀ y0 y1 y2 y3 y4 y5, LeO (impl_IsDiagram.l0 k y0 y1 y2 y3 y4 y5) (impl_IsDiagram.l0 (k + 1) y0 y1 y2 y3 y4 y5)) ∧ (∀ y0 y1 y2 y3 y4 y5 y6 y7 y8 y9 y10, LeO (impl_IsDiagram.j2 k y0 y1 y2 y3 y4 y5 y6 y7 y8 y9 y10) (impl_IsDiagram.j2 (k + 1) y0 y1 y2 y3 y4 y5 y6 y7 y8 y9 y10)) ∧ (∀ y0 y1 y2 y3 y4 y5 y6 y7 y8 y9 y10, LeO (impl_IsDiagram.l1 k y0 y1 y2 y3 y4 y5 y6 y7 y8 y9 y10) (impl_IsDiagram.l1 (k + 1) y0 y1 y2 y3 y4 y5 y6 y7 y8 y9 y10)) ∧ (∀ y0 y1 y2, LeO (impl_IsDiagram.l2 k y0 y1 y2) (impl_IsDiagram.l2 (k + 1) y0 y1 y2))
 | 0 => ⟨fun _ _ _ _ r h => by simp [impl_IsDiagram.j0] at h, fun _ _ _ _ _ _ r h => by simp [impl_IsDiagram.l0] at h, fun _ _ _ _ _ _ _ _ _ _ _ r h => by simp [impl_IsDiagram.j2] at h, fun _ _ _ _ _ _ _ _ _ _ _ r h => by simp [impl_IsDiagram.l1] at h, fun _ _ _ r h => by simp [impl_IsDiagram.l2] at h⟩
 | k + 1 => by
  obtain ⟨ih0, ih1, ih2, ih3, ih4⟩ := impl_IsDiagram.mono_l k
  refine ⟨?_, ?_, ?_, ?_, ?_⟩
  ·intro y0 y1 y2 y3
   unfold impl_IsDiagram.j0
   repeat' first
   | (with_reducible exact ih0 _ _ _ _)
   | (with_reducible exact ih1 _ _ _ _ _ _)
   | (with_reducible exact ih2 _ _ _ _ _ _ _ _ _ _ _)
   | (with_reducible exact ih3 _ _ _ _ _ _ _ _ _ _ _)
   | (with_reducible exact ih4 _ _ _)
   | (with_reducible exact impl_visitOrder.mono _ _ _ _)
   | (with_reducible exact LeO.refl _)
   | (with_reducible exact LeO.none _)
   | (with_reducible refine LeO.ite ?_ ?_)
   | (with_reducible refine LeO.bind ?_ (fun _ => ?_))
   | exact ih0 _ _ _ _
   | exact ih1 _ _ _ _ _ _
   | exact ih2 _ _ _ _ _ _ _ _ _ _ _
   | exact ih3 _ _ _ _ _ _ _ _ _ _ _
   | exact ih4 _ _ _
   | exact impl_visitOrder.mono _ _ _ _
   | exact LeO.none _
   | refine LeO.ite ?_ ?_
   | refine LeO.bind ?_ (fun _ => ?_)
  ·intro y0 y1 y2 y3 y4 y5
   unfold impl_IsDiagram.l0
   repeat' first
   | (with_reducible exact ih0 _ _ _ _)
   | (with_reducible exact ih1 _ _ _ _ _ _)
   | (with_reducible exact ih2 _ _ _ _ _ _ _ _ _ _ _)
   | (with_reducible exact ih3 _ _ _ _ _ _ _ _ _ _ _)
   | (with_reducible exact ih4 _ _ _)
   | (with_reducible exact impl_visitOrder.mono _ _ _ _)
   | (with_reducible exact LeO.refl _)
   | (with_reducible exact LeO.none _)
   | (with_reducible refine LeO.ite ?_ ?_)
   | (with_reducible refine LeO.bind ?_ (fun _ => ?_))
   | exact ih0 _ _ _ _
   | exact ih1 _ _ _ _ _ _
   | exact ih2 _ _ _ _ _ _ _ _ _ _ _
   | exact ih3 _ _ _ _ _ _ _ _ _ _ _
   | exact ih4 _ _ _
   | exact impl_visitOrder.mono _ _ _ _
   | exact LeO.none _
   | refine LeO.ite ?_ ?_
   | refine LeO.bind ?_ (fun _ => ?_)
  ·intro y0 y1 y2 y3 y4 y5 y6 y7 y8 y9 y10
   unfold impl_IsDiagram.j2
   repeat' first
   | (with_reducible exact ih0 _ _ _ _)
   | (with_reducible exact ih1 _ _ _ _ _ _)
   | (with_reducible exact ih2 _ _ _ _ _ _ _ _ _ _ _)
   | (with_reducible exact ih3 _ _ _ _ _ _ _ _ _ _ _)
   | (with_reducible exact ih4 _ _ _)
   | (with_reducible exact impl_visitOrder.mono _ _ _ _)
   | (with_reducible exact LeO.refl _)
   | (with_reducible exact LeO.none _)
   | (with_reducible refine LeO.ite ?_ ?_)
   | (with_reducible refine LeO.bind ?_ (fun _ => ?_))
   | exact ih0 _ _ _ _
   | exact ih1 _ _ _ _ _ _
   | exact ih2 _ _ _ _ _ _ _ _ _ _ _
   | exact ih3 _ _ _ _ _ _ _ _ _ _ _
   | exact ih4 _ _ _
   | exact impl_visitOrder.mono _ _ _ _
   | exact LeO.none _
   | refine LeO.ite ?_ ?_
   | refine LeO.bind ?_ (fun _ => ?_)
  ·intro y0 y1 y2 y3 y4 y5 y6 y7 y8 y9 y10
   unfold impl_IsDiagram.l1
   repeat' first
   | (with_reducible exact ih0 _ _ _ _)
   | (with_reducible exact ih1 _ _ _ _ _ _)
   | (with_reducible exact ih2 _ _ _ _ _ _ _ _ _ _ _)
   | (with_reducible exact ih3 _ _ _ _ _ _ _ _ _ _ _)
   | (with_reducible exact ih4 _ _ _)
   | (with_reducible exact impl_visitOrder.mono _ _ _ _)
   | (with_reducible exact LeO.refl _)
   | (with_reducible exact LeO.none _)
   | (with_reducible refine LeO.ite ?_ ?_)
   | (with_reducible refine LeO.bind ?_ (fun _ => ?_))
   | exact ih0 _ _ _ _
   | exact ih1 _ _ _ _ _ _
   | exact ih2 _ _ _ _ _ _ _ _ _ _ _
   | exact ih3 _ _ _ _ _ _ _ _ _ _ _
   | exact ih4 _ _ _
   | exact impl_visitOrder.mono _ _ _ _
   | exact LeO.none _
   | refine LeO.ite ?_ ?_
   | refine LeO.bind ?_ (fun _ => ?_)
  ·intro y0 y1 y2
   unfold impl_IsDiagram.l2
   repeat' first
   | (with_reducible exact ih0 _ _ _ _)
   | (with_reducible exact ih1 _ _ _ _ _ _)
   | (with_reducible exact ih2 _ _ _ _ _ _ _ _ _ _ _)
   | (with_reducible exact ih3 _ _ _ _ _ _ _ _ _ _ _)
   | (with_reducible exact ih4 _ _ _)
   | (with_reducible exact impl_visitOrder.mono _ _ _ _)
   | (with_reducible exact LeO.refl _)
   | (with_reducible exact LeO.none _)
   | (with_reducible refine LeO.ite ?_ ?_)
   | (with_reducible refine LeO.bind ?_ (fun _ => ?_))
   | exact ih0 _ _ _ _
   | exact ih1 _ _ _ _ _ _
   | exact ih2 _ _ _ _ _ _ _ _ _ _ _
   | exact ih3 _ _ _ _ _ _ _ _ _ _ _
   | exact ih4 _ _ _
   | exact impl_visitOrder.mono _ _ _ _
   | exact LeO.none _
   | refine LeO.ite ?_ ?_
   | refine LeO.bind ?_ (fun _ => ?_)
theorem impl_IsDiagram.mono : ∀ a0 a1 a2 k, LeO (impl_IsDiagram.f k a0 a1 a2) (impl_IsDiagram.f (k + 1) a0 a1 a2) := by
 intro a0 a1 a2 k
 obtain ⟨ih0, ih1, ih2, ih3, ih4⟩ := impl_IsDiagram.mono_l k
 unfold impl_IsDiagram.f
 repeat' first
   | (with_reducible exact ih0 _ _ _ _)
   | (with_reducible exact ih1 _ _ _ _ _ _)
   | (with_reducible exact ih2 _ _ _ _ _ _ _ _ _ _ _)
   | (with_reducible exact ih3 _ _ _ _ _ _ _ _ _ _ _)
   | (with_reducible exact ih4 _ _ _)
   | (with_reducible exact impl_visitOrder.mono _ _ _ _)
   | (with_reducible exact LeO.refl _)
   | (with_reducible exact LeO.none _)
   | (with_reducible refine LeO.ite ?_ ?_)
   | (with_reducible refine LeO.bind ?_ (fun _ => ?_))
   | exact ih0 _ _ _ _
   | exact ih1 _ _ _ _ _ _
   | exact ih2 _ _ _ _ _ _ _ _ _ _ _
   | exact ih3 _ _ _ _ _ _ _ _ _ _ _
   | exact ih4 _ _ _
   | exact impl_visitOrder.mono _ _ _ _
   | exact LeO.none _
   | refine LeO.ite ?_ ?_
   | refine LeO.bind ?_ (fun _ => ?_)
theorem impl_IsDiagram.calls (k : Nat) (a0_0 : Int) (A0_1 : Option Addr) (c0_1 : Nat) (l0_1 : List (S93)) (a0_2 : Int) (r : Bool) (w : World) (hr0_1 : Kd.C k93 w A0_1 l0_1.length l0_1) (hc0_1 : l0_1.length ≤ c0_1) (h : impl_IsDiagram.f k a0_0 l0_1 a0_2 = some r) :
  Calls Try.prog 22 #[.agg #[.int .i64 a0_0, .slice A0_1 l0_1.length c0_1, .int .i64 a0_2]] w fun e w' => e = .returned (.bool r) ∧ Below w.heap.size w w' := by
 have hu28 := Try.underlying28
 have hu93 := Try.underlying93
 have HR0_1 := aM hr0_1
 have HC0_1 := aM hc0_1
 clear hr0_1 hc0_1
 have HB := aM (Below.refl w.heap.size w)
 have H : (if a0_0 < 0 then (impl_IsDiagram.j0 k true a0_0 l0_1 a0_2) else (if a0_0 > 4 then (impl_IsDiagram.j0 k true a0_0 l0_1 a0_2) else (if (l0_1.length : Int) > 40 then (impl_IsDiagram.j0 k true a0_0 l0_1 a0_2) else (if a0_2 < 0 then (impl_IsDiagram.j0 k true a0_0 l0_1 a0_2) else (impl_IsDiagram.j0 k (decide (a0_2 > (wrap64 (1 + (l0_1.length : Int))))) a0_0 l0_1 a0_2))))) = some r := h
 clear h
 have HC2 := aM H
 clear H
 go_enter Try.func22, Try.ntmps22
 go_upto_region 1 with (first | ((with_reducible refine gate_dst (N := 1) rfl ?_); (try (refine gate_guard (by rfl) ?_; dsimp only)); refine box_event ?hg (N := 1) ?hd (cs := #[.int .i64 a0_0, .slice A0_1 l0_1.length c0_1, .int .i64 a0_2]) (t := 28) ?hr ?_; (case hd => rfl); (case hg => rfl); (case hr => exact zb_); intro gb225 hg w3 hbox hb; have n_ := z (below_step za_ hb) <| z (hbox) <| z ((by rw [hg]; exact (below_size za_) : w.heap.size ≤ gb225)) <| z1 ((by rw [hg]; exact (below_size za_) : w.heap.size ≤ gb225)); clear HB; obtain ⟨HB, BK225, GW225, GE225⟩ := n_; clear hb hbox hg))
 repeat (go_quiet (first | ((with_reducible refine gate_dst (N := 1) rfl ?_); (try (refine gate_guard (by rfl) ?_; dsimp only)); refine box_event ?hg (N := 1) ?hd (cs := #[.int .i64 a0_0, .slice A0_1 l0_1.length c0_1, .int .i64 a0_2]) (t := 28) ?hr ?_; (case hd => rfl); (case hg => rfl); (case hr => exact zb_); intro gb225 hg w3 hbox hb; have n_ := z (below_step za_ hb) <| z (hbox) <| z ((by rw [hg]; exact (below_size za_) : w.heap.size ≤ gb225)) <| z1 ((by rw [hg]; exact (below_size za_) : w.heap.size ≤ gb225)); clear HB; obtain ⟨HB, BK225, GW225, GE225⟩ := n_; clear hb hbox hg)); go_upto_region 1 with (first | ((with_reducible refine gate_dst (N := 1) rfl ?_); (try (refine gate_guard (by rfl) ?_; dsimp only)); refine box_event ?hg (N := 1) ?hd (cs := #[.int .i64 a0_0, .slice A0_1 l0_1.length c0_1, .int .i64 a0_2]) (t := 28) ?hr ?_; (case hd => rfl); (case hg => rfl); (case hr => exact zb_); intro gb225 hg w3 hbox hb; have n_ := z (below_step za_ hb) <| z (hbox) <| z ((by rw [hg]; exact (below_size za_) : w.heap.size ≤ gb225)) <| z1 ((by rw [hg]; exact (below_size za_) : w.heap.size ≤ gb225)); clear HB; obtain ⟨HB, BK225, GW225, GE225⟩ := n_; clear hb hbox hg)))
 (try simp only [Act.put, sI, s0, sS])
 go_cut [36] (fun v36 wc => ∃ (kq : Nat) (x36_1 : Bool), v36 = .bool x36_1 ∧ Aside0 (impl_IsDiagram.j0 kq x36_1 a0_0 l0_1 a0_2 = some r) ∧ Aside0 (kq ≤ k) ∧ Aside0 (wc.heap[gb225]? = some (.cells #[.int .i64 a0_0, (.slice A0_1 l0_1.length c0_1), .int .i64 a0_2] 28 (0, 0))) ∧ Aside0 (Below w.heap.size w wc))
 case first =>
  have H := HC2.out; clear HC2
  by_cases c4 : a0_0 < 0
  ·rw [if_pos c4] at H
   have c4b0 := decide_eq_true c4; clear c4; (first | rw [c4b0] | (simp only [i64_w, i32_w]; rw [c4b0]) | skip); have H' := aM H; clear H; have hcz5_0 : w3.cell? ⟨gb225, 0, none⟩ = some (.int .i64 a0_0) := (blk_cell BK225.out 0).trans rfl; have hcz5_1 : w3.cell? ⟨gb225, 1, none⟩ = some (.slice A0_1 l0_1.length c0_1) := (blk_cell BK225.out 1).trans rfl; have hcz5_2 : w3.cell? ⟨gb225, 2, none⟩ = some (.int .i64 a0_2) := (blk_cell BK225.out 2).trans rfl; have hfz5_0 := blk_frozen BK225.out 0; have hfz5_1 := blk_frozen BK225.out 1; have hfz5_2 := blk_frozen BK225.out 2
   go_wp2
   repeat (go_quiet (fail); try go_wp2)
   go_meet
   case rel => exact ⟨_, (true), ze_, H', ⟨zbh_⟩, ⟨zb BK225.out⟩, ⟨zbd_⟩⟩
  ·rw [if_neg c4] at H
   have c4b0 := decide_eq_false c4; clear c4; (first | rw [c4b0] | (simp only [i64_w, i32_w]; rw [c4b0]) | skip)
   by_cases c6 : a0_0 > 4
   ·rw [if_pos c6] at H
    have c6b0 : decide (4 < a0_0) = true := decide_eq_true c6; clear c6; have H' := aM H; clear H; have hcz7_0 : w3.cell? ⟨gb225, 0, none⟩ = some (.int .i64 a0_0) := (blk_cell BK225.out 0).trans rfl; have hcz7_1 : w3.cell? ⟨gb225, 1, none⟩ = some (.slice A0_1 l0_1.length c0_1) := (blk_cell BK225.out 1).trans rfl; have hcz7_2 : w3.cell? ⟨gb225, 2, none⟩ = some (.int .i64 a0_2) := (blk_cell BK225.out 2).trans rfl; have hfz7_0 := blk_frozen BK225.out 0; have hfz7_1 := blk_frozen BK225.out 1; have hfz7_2 := blk_frozen BK225.out 2
    go_wp2
    repeat (go_quiet (fail); try go_wp2)
    go_meet
    case rel => exact ⟨_, (true), ze_, H', ⟨zbh_⟩, ⟨zb BK225.out⟩, ⟨zbd_⟩⟩
   ·rw [if_neg c6] at H
    have c6b0 : decide (4 < a0_0) = false := decide_eq_false c6; clear c6
    by_cases c8 : (l0_1.length : Int) > 40
    ·rw [if_pos c8] at H
     have c8b0 : decide (40 < (l0_1.length : Int)) = true := decide_eq_true c8; have c8b1 : decide (40 < l0_1.length) = true := decide_eq_true (by omega); clear c8; have H' := aM H; clear H; have hcz9_0 : w3.cell? ⟨gb225, 0, none⟩ = some (.int .i64 a0_0) := (blk_cell BK225.out 0).trans rfl; have hcz9_1 : w3.cell? ⟨gb225, 1, none⟩ = some (.slice A0_1 l0_1.length c0_1) := (blk_cell BK225.out 1).trans rfl; have hcz9_2 : w3.cell? ⟨gb225, 2, none⟩ = some (.int .i64 a0_2) := (blk_cell BK225.out 2).trans rfl; have hfz9_0 := blk_frozen BK225.out 0; have hfz9_1 := blk_frozen BK225.out 1; have hfz9_2 := blk_frozen BK225.out 2
     go_wp2
     repeat (go_quiet (fail); try go_wp2)
     go_meet
     case rel => exact ⟨_, (true), ze_, H', ⟨zbh_⟩, ⟨zb BK225.out⟩, ⟨zbd_⟩⟩
    ·rw [if_neg c8] at H
     have c8b0 : decide (40 < (l0_1.length : Int)) = false := decide_eq_false c8; have c8b1 : decide (40 < l0_1.length) = false := decide_eq_false (by omega); clear c8
     by_cases c10 : a0_2 < 0
     ·rw [if_pos c10] at H
      have c10b0 := decide_eq_true c10; clear c10; have H' := aM H; clear H; have hcz11_0 : w3.cell? ⟨gb225, 0, none⟩ = some (.int .i64 a0_0) := (blk_cell BK225.out 0).trans rfl; have hcz11_1 : w3.cell? ⟨gb225, 1, none⟩ = some (.slice A0_1 l0_1.length c0_1) := (blk_cell BK225.out 1).trans rfl; have hcz11_2 : w3.cell? ⟨gb225, 2, none⟩ = some (.int .i64 a0_2) := (blk_cell BK225.out 2).trans rfl; have hfz11_0 := blk_frozen BK225.out 0; have hfz11_1 := blk_frozen BK225.out 1; have hfz11_2 := blk_frozen BK225.out 2
      go_wp2
      repeat (go_quiet (fail); try go_wp2)
      go_meet
      case rel => exact ⟨_, (true), ze_, H', ⟨zbh_⟩, ⟨zb BK225.out⟩, ⟨zbd_⟩⟩
     ·rw [if_neg c10] at H
      have c10b0 := decide_eq_false c10; clear c10; have H' := aM H; clear H; have hcz12_0 : w3.cell? ⟨gb225, 0, none⟩ = some (.int .i64 a0_0) := (blk_cell BK225.out 0).trans rfl; have hcz12_1 : w3.cell? ⟨gb225, 1, none⟩ = some (.slice A0_1 l0_1.length c0_1) := (blk_cell BK225.out 1).trans rfl; have hcz12_2 : w3.cell? ⟨gb225, 2, none⟩ = some (.int .i64 a0_2) := (blk_cell BK225.out 2).trans rfl; have hfz12_0 := blk_frozen BK225.out 0; have hfz12_1 := blk_frozen BK225.out 1; have hfz12_2 := blk_frozen BK225.out 2
      go_wp2
      repeat (go_quiet (fail); try go_wp2)
      go_meet
      case rel => exact ⟨_, (decide (a0_2 > (wrap64 (1 + (l0_1.length : Int))))), ze_, H', ⟨zbh_⟩, ⟨zb BK225.out⟩, ⟨zbd_⟩⟩
 case rest =>
  clear HC2; obtain ⟨kq, x36_1, rfl, HA, HJ1, BK225, HB⟩ := hcut
  cases kq with
  | zero => exact absurd HA.out (by simp [impl_IsDiagram.j0])
  | succ kj1 =>
   have H := HA.out; clear HA
   simp only [impl_IsDiagram.j0] at H
   by_cases c13 : x36_1 = true
   ·subst c13
    have H1 : (some false) = some r := by rw [if_pos rfl] at H; exact H
    clear H; have H := H1; clear H1; obtain rfl := Option.some.inj H
    go_wp2
    repeat (go_quiet (fail); try go_wp2)
    go_ret
    exact ⟨zf_, zbd_⟩
   ·replace c13 := Bool.eq_false_iff.mpr c13
    subst c13; have H1 : (impl_IsDiagram.l0 kj1 l0_1 (l0_1.length : Int) 0 a0_0 l0_1 a0_2) = some r := by rw [if_neg (show ¬ (false = true) by decide)] at H; exact H
    clear H; have H := H1; clear H1; have H' := aM H; clear H; have hcz14_0 : wc.cell? ⟨gb225, 0, none⟩ = some (.int .i64 a0_0) := (blk_cell BK225.out 0).trans rfl; have hcz14_1 : wc.cell? ⟨gb225, 1, none⟩ = some (.slice A0_1 l0_1.length c0_1) := (blk_cell BK225.out 1).trans rfl; have hcz14_2 : wc.cell? ⟨gb225, 2, none⟩ = some (.int .i64 a0_2) := (blk_cell BK225.out 2).trans rfl; have hfz14_0 := blk_frozen BK225.out 0; have hfz14_1 := blk_frozen BK225.out 1; have hfz14_2 := blk_frozen BK225.out 2
    go_wp2
    repeat (go_quiet (fail); try go_wp2)
    go_loopg [40] kj1 (fun kq v40 w' => ∃ (x40_2 : Int), v40 = .int .i64 x40_2 ∧ Aside0 (impl_IsDiagram.l0 kq l0_1 (l0_1.length : Int) x40_2 a0_0 l0_1 a0_2 = some r) ∧ Aside0 (kq ≤ kj1) ∧ Aside0 (w'.heap[gb225]? = some (.cells #[.int .i64 a0_0, (.slice A0_1 l0_1.length c0_1), .int .i64 a0_2] 28 (0, 0))) ∧ Aside0 (Below w.heap.size w w'))
    case atStart => exact ⟨(0), ze_, H', ⟨Nat.le_refl _⟩, ⟨zb BK225.out⟩, ⟨zbd_⟩⟩
    case round =>
     clear H'; (try clear hcz14_0); (try clear hcz14_1); (try clear hcz14_2); (try clear hfz14_0); (try clear hfz14_1); (try clear hfz14_2); obtain ⟨x40_2, rfl, HA, HK2, BK225, HB⟩ := hrel
     cases gk with
     | zero => exact absurd HA.out (by simp [impl_IsDiagram.l0])
     | succ k2 =>
      have H := HA.out; clear HA
      simp only [impl_IsDiagram.l0] at H
      by_cases c15 : x40_2 < (l0_1.length : Int)
      ·rw [if_pos c15] at H
       have c15b0 := decide_eq_true c15; clear c15
       by_cases c16 : 0 ≤ x40_2
       ·rw [if_pos c16] at H
        have c16b0 := decide_eq_true c16; clear c16
        by_cases c17 : x40_2 < (l0_1.length : Int)
        ·rw [if_pos c17] at H
         have c17b0 := decide_eq_true c17; clear c17; have HC18 := aM H; clear H; have p226 : 0 ≤ (x40_2 : Int) := of_decide_eq_true zc_; have q226 : x40_2 < (l0_1.length : Int) := of_decide_eq_true zc_; obtain ⟨ad226, e226, hx226_0, hx226_1, hx226_2⟩ := at_T93 HR0_1.out x40_2 p226 q226
         cases e226
         (try (replace hx226_0 := (HB.out.cell (World.block_lt_of_cell? w _ hx226_0)).trans hx226_0)); (try (replace hx226_1 := (HB.out.cell (World.block_lt_of_cell? w _ hx226_1)).trans hx226_1)); (try (replace hx226_2 := (HB.out.cell (World.block_lt_of_cell? w _ hx226_2)).trans hx226_2)); replace p226 := eq_true p226; replace q226 := eq_true q226
         go_upto_region 6 with (first | ((with_reducible refine gate_dst (N := 4) rfl ?_); (try (refine gate_guard (by rfl) ?_; dsimp only)); refine box_event ?hg (N := 4) ?hd (cs := #[.int .i64 0, .int .i64 0, .int .i64 0]) (t := 93) ?hr ?_; (case hd => rfl); (case hg => rfl); (case hr => exact zb_); intro gb227 hg w19 hbox hb; have n_ := z (blk_below (zb BK225.out) hb) <| z (below_step zbd_ hb) <| z (hbox) <| z ((by rw [hg]; exact (below_size zbd_) : w.heap.size ≤ gb227)) <| z ((by rw [hg]; exact (below_size zbd_) : w.heap.size ≤ gb227)) <| z ((by rw [hg]; exact Nat.ne_of_lt (blk_lt (zb BK225.out)) : gb225 ≠ gb227)) <| z1 ((by rw [hg]; exact Nat.ne_of_gt (blk_lt (zb BK225.out)) : gb227 ≠ gb225)); clear BK225 HB; obtain ⟨BK225, HB, BK227, GW227, GE227, NB225_227, NB227_225⟩ := n_; clear hb hbox hg; have hnb20 := NB227_225.out; have hnc20 := NB225_227.out; have hcz21_0 : w19.cell? ⟨gb227, 0, none⟩ = some (.int .i64 0) := (blk_cell BK227.out 0).trans rfl; have hcz21_1 : w19.cell? ⟨gb227, 1, none⟩ = some (.int .i64 0) := (blk_cell BK227.out 1).trans rfl; have hcz21_2 : w19.cell? ⟨gb227, 2, none⟩ = some (.int .i64 0) := (blk_cell BK227.out 2).trans rfl; have hfz21_0 := blk_frozen BK227.out 0; have hfz21_1 := blk_frozen BK227.out 1; have hfz21_2 := blk_frozen BK227.out 2))
         repeat (go_quiet (first | ((with_reducible refine gate_dst (N := 4) rfl ?_); (try (refine gate_guard (by rfl) ?_; dsimp only)); refine box_event ?hg (N := 4) ?hd (cs := #[.int .i64 0, .int .i64 0, .int .i64 0]) (t := 93) ?hr ?_; (case hd => rfl); (case hg => rfl); (case hr => exact zb_); intro gb227 hg w19 hbox hb; have n_ := z (blk_below (zb BK225.out) hb) <| z (below_step zbd_ hb) <| z (hbox) <| z ((by rw [hg]; exact (below_size zbd_) : w.heap.size ≤ gb227)) <| z ((by rw [hg]; exact (below_size zbd_) : w.heap.size ≤ gb227)) <| z ((by rw [hg]; exact Nat.ne_of_lt (blk_lt (zb BK225.out)) : gb225 ≠ gb227)) <| z1 ((by rw [hg]; exact Nat.ne_of_gt (blk_lt (zb BK225.out)) : gb227 ≠ gb225)); clear BK225 HB; obtain ⟨BK225, HB, BK227, GW227, GE227, NB225_227, NB227_225⟩ := n_; clear hb hbox hg; have hnb20 := NB227_225.out; have hnc20 := NB225_227.out; have hcz21_0 : w19.cell? ⟨gb227, 0, none⟩ = some (.int .i64 0) := (blk_cell BK227.out 0).trans rfl; have hcz21_1 : w19.cell? ⟨gb227, 1, none⟩ = some (.int .i64 0) := (blk_cell BK227.out 1).trans rfl; have hcz21_2 : w19.cell? ⟨gb227, 2, none⟩ = some (.int .i64 0) := (blk_cell BK227.out 2).trans rfl; have hfz21_0 := blk_frozen BK227.out 0; have hfz21_1 := blk_frozen BK227.out 1; have hfz21_2 := blk_frozen BK227.out 2)); go_upto_region 6 with (first | ((with_reducible refine gate_dst (N := 4) rfl ?_); (try (refine gate_guard (by rfl) ?_; dsimp only)); refine box_event ?hg (N := 4) ?hd (cs := #[.int .i64 0, .int .i64 0, .int .i64 0]) (t := 93) ?hr ?_; (case hd => rfl); (case hg => rfl); (case hr => exact zb_); intro gb227 hg w19 hbox hb; have n_ := z (blk_below (zb BK225.out) hb) <| z (below_step zbd_ hb) <| z (hbox) <| z ((by rw [hg]; exact (below_size zbd_) : w.heap.size ≤ gb227)) <| z ((by rw [hg]; exact (below_size zbd_) : w.heap.size ≤ gb227)) <| z ((by rw [hg]; exact Nat.ne_of_lt (blk_lt (zb BK225.out)) : gb225 ≠ gb227)) <| z1 ((by rw [hg]; exact Nat.ne_of_gt (blk_lt (zb BK225.out)) : gb227 ≠ gb225)); clear BK225 HB; obtain ⟨BK225, HB, BK227, GW227, GE227, NB225_227, NB227_225⟩ := n_; clear hb hbox hg; have hnb20 := NB227_225.out; have hnc20 := NB225_227.out; have hcz21_0 : w19.cell? ⟨gb227, 0, none⟩ = some (.int .i64 0) := (blk_cell BK227.out 0).trans rfl; have hcz21_1 : w19.cell? ⟨gb227, 1, none⟩ = some (.int .i64 0) := (blk_cell BK227.out 1).trans rfl; have hcz21_2 : w19.cell? ⟨gb227, 2, none⟩ = some (.int .i64 0) := (blk_cell BK227.out 2).trans rfl; have hfz21_0 := blk_frozen BK227.out 0; have hfz21_1 := blk_frozen BK227.out 1; have hfz21_2 := blk_frozen BK227.out 2)))
         (try simp only [Act.put, sI, s0, sS])
         go_cut [77] (fun v77 wc => ∃ (kq : Nat) (x77_17 : Bool), v77 = .bool x77_17 ∧ Aside0 (impl_IsDiagram.j2 kq x40_2 l0_1 (l0_1.length : Int) x40_2 x77_17 a0_0 l0_1 a0_2 ((rd_T93 l0_1 x40_2).f0) ((rd_T93 l0_1 x40_2).f1) ((rd_T93 l0_1 x40_2).f2) = some r) ∧ Aside0 (kq ≤ k2) ∧ Aside0 (wc.heap[gb225]? = some (.cells #[.int .i64 a0_0, (.slice (some ad226) l0_1.length c0_1), .int .i64 a0_2] 28 (0, 0))) ∧ Aside0 (wc.heap[gb227]? = some (.cells #[.int .i64 ((rd_T93 l0_1 x40_2).f0), .int .i64 ((rd_T93 l0_1 x40_2).f1), .int .i64 ((rd_T93 l0_1 x40_2).f2)] 93 (0, 0))) ∧ Aside0 (Below w.heap.size w wc))
         case first =>
          have H := HC18.out; clear HC18
          by_cases c22 : ((rd_T93 l0_1 x40_2).f0) < 0
          ·rw [if_pos c22] at H
           have c22b0 := decide_eq_true c22; clear c22; (first | rw [c22b0] | (simp only [i64_w, i32_w]; rw [c22b0]) | skip); have H' := aM H; clear H; have hnb23 := NB227_225.out; have hnc23 := NB225_227.out; have hcz24_0 : w19.cell? ⟨gb227, 0, none⟩ = some (.int .i64 0) := (blk_cell BK227.out 0).trans rfl; have hcz24_1 : w19.cell? ⟨gb227, 1, none⟩ = some (.int .i64 0) := (blk_cell BK227.out 1).trans rfl; have hcz24_2 : w19.cell? ⟨gb227, 2, none⟩ = some (.int .i64 0) := (blk_cell BK227.out 2).trans rfl; have hfz24_0 := blk_frozen BK227.out 0; have hfz24_1 := blk_frozen BK227.out 1; have hfz24_2 := blk_frozen BK227.out 2
           go_wp2
           repeat (go_quiet (fail); try go_wp2)
           go_meet
           case rel => exact ⟨_, (true), ze_, H', ⟨zhb_⟩, ⟨zea_⟩, ⟨zeb_⟩, ⟨zcc_⟩⟩
          ·rw [if_neg c22] at H
           have c22b0 := decide_eq_false c22; clear c22; (first | rw [c22b0] | (simp only [i64_w, i32_w]; rw [c22b0]) | skip)
           by_cases c25 : ((rd_T93 l0_1 x40_2).f0) ≥ a0_0
           ·rw [if_pos c25] at H
            have c25b0 : decide (a0_0 ≤ ((rd_T93 l0_1 x40_2).f0)) = true := decide_eq_true c25; clear c25; have H' := aM H; clear H; have hnb26 := NB227_225.out; have hnc26 := NB225_227.out; have hcz27_0 : w19.cell? ⟨gb227, 0, none⟩ = some (.int .i64 0) := (blk_cell BK227.out 0).trans rfl; have hcz27_1 : w19.cell? ⟨gb227, 1, none⟩ = some (.int .i64 0) := (blk_cell BK227.out 1).trans rfl; have hcz27_2 : w19.cell? ⟨gb227, 2, none⟩ = some (.int .i64 0) := (blk_cell BK227.out 2).trans rfl; have hfz27_0 := blk_frozen BK227.out 0; have hfz27_1 := blk_frozen BK227.out 1; have hfz27_2 := blk_frozen BK227.out 2; have hcz28_0 : w19.cell? ⟨gb225, 0, none⟩ = some (.int .i64 a0_0) := (blk_cell BK225.out 0).trans rfl; have hcz28_1 : w19.cell? ⟨gb225, 1, none⟩ = some (.slice (some ad226) l0_1.length c0_1) := (blk_cell BK225.out 1).trans rfl; have hcz28_2 : w19.cell? ⟨gb225, 2, none⟩ = some (.int .i64 a0_2) := (blk_cell BK225.out 2).trans rfl; have hfz28_0 := blk_frozen BK225.out 0; have hfz28_1 := blk_frozen BK225.out 1; have hfz28_2 := blk_frozen BK225.out 2
            go_wp2
            repeat (go_quiet (fail); try go_wp2)
            go_meet
            case rel => exact ⟨_, (true), ze_, H', ⟨zhb_⟩, ⟨zea_⟩, ⟨zeb_⟩, ⟨zcc_⟩⟩
           ·rw [if_neg c25] at H
            have c25b0 : decide (a0_0 ≤ ((rd_T93 l0_1 x40_2).f0)) = false := decide_eq_false c25; clear c25
            by_cases c29 : ((rd_T93 l0_1 x40_2).f1) = ((rd_T93 l0_1 x40_2).f2)
            ·rw [if_pos c29] at H
             have c29b0 := beq_iff_eq.mpr c29; have c29b1 := bne_eq_false_iff_eq.mpr c29; clear c29; have H' := aM H; clear H; have hnb30 := NB227_225.out; have hnc30 := NB225_227.out; have hcz31_0 : w19.cell? ⟨gb227, 0, none⟩ = some (.int .i64 0) := (blk_cell BK227.out 0).trans rfl; have hcz31_1 : w19.cell? ⟨gb227, 1, none⟩ = some (.int .i64 0) := (blk_cell BK227.out 1).trans rfl; have hcz31_2 : w19.cell? ⟨gb227, 2, none⟩ = some (.int .i64 0) := (blk_cell BK227.out 2).trans rfl; have hfz31_0 := blk_frozen BK227.out 0; have hfz31_1 := blk_frozen BK227.out 1; have hfz31_2 := blk_frozen BK227.out 2; have hcz32_0 : w19.cell? ⟨gb225, 0, none⟩ = some (.int .i64 a0_0) := (blk_cell BK225.out 0).trans rfl; have hcz32_1 : w19.cell? ⟨gb225, 1, none⟩ = some (.slice (some ad226) l0_1.length c0_1) := (blk_cell BK225.out 1).trans rfl; have hcz32_2 : w19.cell? ⟨gb225, 2, none⟩ = some (.int .i64 a0_2) := (blk_cell BK225.out 2).trans rfl; have hfz32_0 := blk_frozen BK225.out 0; have hfz32_1 := blk_frozen BK225.out 1; have hfz32_2 := blk_frozen BK225.out 2
             go_wp2
             repeat (go_quiet (fail); try go_wp2)
             go_meet
             case rel => exact ⟨_, (true), ze_, H', ⟨zhb_⟩, ⟨zea_⟩, ⟨zeb_⟩, ⟨zcc_⟩⟩
            ·rw [if_neg c29] at H
             have c29b0 := beq_eq_false_iff_ne.mpr c29; have c29b1 := bne_iff_ne.mpr c29; replace H := oB.mp H; obtain ⟨t228, A330, H⟩ := H; replace H : (if t228 = true then ((impl_goodReference.f a0_0 l0_1 a0_2 x40_2 ((rd_T93 l0_1 x40_2).f2)).bind fun t229 => (impl_IsDiagram.j2 k2 x40_2 l0_1 (l0_1.length : Int) x40_2 (!t229) a0_0 l0_1 a0_2 ((rd_T93 l0_1 x40_2).f0) ((rd_T93 l0_1 x40_2).f1) ((rd_T93 l0_1 x40_2).f2))) else (impl_IsDiagram.j2 k2 x40_2 l0_1 (l0_1.length : Int) x40_2 true a0_0 l0_1 a0_2 ((rd_T93 l0_1 x40_2).f0) ((rd_T93 l0_1 x40_2).f1) ((rd_T93 l0_1 x40_2).f2))) = some r := H; have A33 := aM A330; clear A330
             by_cases c34 : t228 = true
             ·subst c34
              have H1 : ((impl_goodReference.f a0_0 l0_1 a0_2 x40_2 ((rd_T93 l0_1 x40_2).f2)).bind fun t229 => (impl_IsDiagram.j2 k2 x40_2 l0_1 (l0_1.length : Int) x40_2 (!t229) a0_0 l0_1 a0_2 ((rd_T93 l0_1 x40_2).f0) ((rd_T93 l0_1 x40_2).f1) ((rd_T93 l0_1 x40_2).f2))) = some r := by rw [if_pos rfl] at H; exact H
              clear H; have H := H1; clear H1; replace H := oB.mp H; obtain ⟨t229, A350, H⟩ := H; replace H : (impl_IsDiagram.j2 k2 x40_2 l0_1 (l0_1.length : Int) x40_2 (!t229) a0_0 l0_1 a0_2 ((rd_T93 l0_1 x40_2).f0) ((rd_T93 l0_1 x40_2).f1) ((rd_T93 l0_1 x40_2).f2)) = some r := H; have A35 := aM A350; clear A350; have H' := aM H; clear H; have hnb36 := NB227_225.out; have hnc36 := NB225_227.out; have hcz37_0 : w19.cell? ⟨gb227, 0, none⟩ = some (.int .i64 0) := (blk_cell BK227.out 0).trans rfl; have hcz37_1 : w19.cell? ⟨gb227, 1, none⟩ = some (.int .i64 0) := (blk_cell BK227.out 1).trans rfl; have hcz37_2 : w19.cell? ⟨gb227, 2, none⟩ = some (.int .i64 0) := (blk_cell BK227.out 2).trans rfl; have hfz37_0 := blk_frozen BK227.out 0; have hfz37_1 := blk_frozen BK227.out 1; have hfz37_2 := blk_frozen BK227.out 2; have hcz38_0 : w19.cell? ⟨gb225, 0, none⟩ = some (.int .i64 a0_0) := (blk_cell BK225.out 0).trans rfl; have hcz38_1 : w19.cell? ⟨gb225, 1, none⟩ = some (.slice (some ad226) l0_1.length c0_1) := (blk_cell BK225.out 1).trans rfl; have hcz38_2 : w19.cell? ⟨gb225, 2, none⟩ = some (.int .i64 a0_2) := (blk_cell BK225.out 2).trans rfl; have hfz38_0 := blk_frozen BK225.out 0; have hfz38_1 := blk_frozen BK225.out 1; have hfz38_2 := blk_frozen BK225.out 2
              go_wp2_with (first | (go_at_call 71; (with_reducible refine (impl_goodReference.calls a0_0 _ _ l0_1 a0_2 x40_2 ((rd_T93 l0_1 x40_2).f1) true _ ?side1 ?side2 A33.out).mono ?_); (case side1 => exact zgg_); (case side2 => exact HC0_1.out); rintro e w39 ⟨rfl, hb⟩; have n_ := z (blk_below (g := gb225) (o := .cells #[.int .i64 a0_0, .slice (some ad226) l0_1.length c0_1, .int .i64 a0_2] 28 (0, 0)) zea_ hb) <| z (blk_below (g := gb227) (o := .cells #[.int .i64 ((rd_T93 l0_1 x40_2).f0), .int .i64 ((rd_T93 l0_1 x40_2).f1), .int .i64 ((rd_T93 l0_1 x40_2).f2)] 93 (0, 0)) zeb_ hb) <| z1 (below_step zcc_ hb); clear BK225 BK227 HB; obtain ⟨BK225, BK227, HB⟩ := n_; clear hb; have hcz40_0 : w39.cell? ⟨gb225, 0, none⟩ = some (.int .i64 a0_0) := (blk_cell BK225.out 0).trans rfl; have hcz40_1 : w39.cell? ⟨gb225, 1, none⟩ = some (.slice (some ad226) l0_1.length c0_1) := (blk_cell BK225.out 1).trans rfl; have hcz40_2 : w39.cell? ⟨gb225, 2, none⟩ = some (.int .i64 a0_2) := (blk_cell BK225.out 2).trans rfl; have hfz40_0 := blk_frozen BK225.out 0; have hfz40_1 := blk_frozen BK225.out 1; have hfz40_2 := blk_frozen BK225.out 2; have hcz41_0 : w39.cell? ⟨gb227, 0, none⟩ = some (.int .i64 ((rd_T93 l0_1 x40_2).f0)) := (blk_cell BK227.out 0).trans rfl; have hcz41_1 : w39.cell? ⟨gb227, 1, none⟩ = some (.int .i64 ((rd_T93 l0_1 x40_2).f1)) := (blk_cell BK227.out 1).trans rfl; have hcz41_2 : w39.cell? ⟨gb227, 2, none⟩ = some (.int .i64 ((rd_T93 l0_1 x40_2).f2)) := (blk_cell BK227.out 2).trans rfl; have hfz41_0 := blk_frozen BK227.out 0; have hfz41_1 := blk_frozen BK227.out 1; have hfz41_2 := blk_frozen BK227.out 2) | (go_at_call 71; (with_reducible refine (impl_goodReference.calls a0_0 _ _ l0_1 a0_2 x40_2 ((rd_T93 l0_1 x40_2).f2) t229 _ ?side1 ?side2 A35.out).mono ?_); (case side1 => exact zbj_); (case side2 => exact HC0_1.out); rintro e w42 ⟨rfl, hb⟩; have n_ := z (blk_below (zb BK225.out) hb) <| z (blk_below (g := gb227) (o := .cells #[.int .i64 ((rd_T93 l0_1 x40_2).f0), .int .i64 ((rd_T93 l0_1 x40_2).f1), .int .i64 ((rd_T93 l0_1 x40_2).f2)] 93 (0, 0)) (zb BK227.out) hb) <| z1 (below_step zcc_ hb); clear BK225 BK227 HB; obtain ⟨BK225, BK227, HB⟩ := n_; clear hb))
              repeat (go_quiet (first | (go_at_call 71; (with_reducible refine (impl_goodReference.calls a0_0 _ _ l0_1 a0_2 x40_2 ((rd_T93 l0_1 x40_2).f1) true _ ?side1 ?side2 A33.out).mono ?_); (case side1 => exact zgg_); (case side2 => exact HC0_1.out); rintro e w39 ⟨rfl, hb⟩; have n_ := z (blk_below (g := gb225) (o := .cells #[.int .i64 a0_0, .slice (some ad226) l0_1.length c0_1, .int .i64 a0_2] 28 (0, 0)) zea_ hb) <| z (blk_below (g := gb227) (o := .cells #[.int .i64 ((rd_T93 l0_1 x40_2).f0), .int .i64 ((rd_T93 l0_1 x40_2).f1), .int .i64 ((rd_T93 l0_1 x40_2).f2)] 93 (0, 0)) zeb_ hb) <| z1 (below_step zcc_ hb); clear BK225 BK227 HB; obtain ⟨BK225, BK227, HB⟩ := n_; clear hb; have hcz40_0 : w39.cell? ⟨gb225, 0, none⟩ = some (.int .i64 a0_0) := (blk_cell BK225.out 0).trans rfl; have hcz40_1 : w39.cell? ⟨gb225, 1, none⟩ = some (.slice (some ad226) l0_1.length c0_1) := (blk_cell BK225.out 1).trans rfl; have hcz40_2 : w39.cell? ⟨gb225, 2, none⟩ = some (.int .i64 a0_2) := (blk_cell BK225.out 2).trans rfl; have hfz40_0 := blk_frozen BK225.out 0; have hfz40_1 := blk_frozen BK225.out 1; have hfz40_2 := blk_frozen BK225.out 2; have hcz41_0 : w39.cell? ⟨gb227, 0, none⟩ = some (.int .i64 ((rd_T93 l0_1 x40_2).f0)) := (blk_cell BK227.out 0).trans rfl; have hcz41_1 : w39.cell? ⟨gb227, 1, none⟩ = some (.int .i64 ((rd_T93 l0_1 x40_2).f1)) := (blk_cell BK227.out 1).trans rfl; have hcz41_2 : w39.cell? ⟨gb227, 2, none⟩ = some (.int .i64 ((rd_T93 l0_1 x40_2).f2)) := (blk_cell BK227.out 2).trans rfl; have hfz41_0 := blk_frozen BK227.out 0; have hfz41_1 := blk_frozen BK227.out 1; have hfz41_2 := blk_frozen BK227.out 2) | (go_at_call 71; (with_reducible refine (impl_goodReference.calls a0_0 _ _ l0_1 a0_2 x40_2 ((rd_T93 l0_1 x40_2).f2) t229 _ ?side1 ?side2 A35.out).mono ?_); (case side1 => exact zbj_); (case side2 => exact HC0_1.out); rintro e w42 ⟨rfl, hb⟩; have n_ := z (blk_below (zb BK225.out) hb) <| z (blk_below (g := gb227) (o := .cells #[.int .i64 ((rd_T93 l0_1 x40_2).f0), .int .i64 ((rd_T93 l0_1 x40_2).f1), .int .i64 ((rd_T93 l0_1 x40_2).f2)] 93 (0, 0)) (zb BK227.out) hb) <| z1 (below_step zcc_ hb); clear BK225 BK227 HB; obtain ⟨BK225, BK227, HB⟩ := n_; clear hb)); try go_wp2_with (first | (go_at_call 71; (with_reducible refine (impl_goodReference.calls a0_0 _ _ l0_1 a0_2 x40_2 ((rd_T93 l0_1 x40_2).f1) true _ ?side1 ?side2 A33.out).mono ?_); (case side1 => exact zgg_); (case side2 => exact HC0_1.out); rintro e w39 ⟨rfl, hb⟩; have n_ := z (blk_below (g := gb225) (o := .cells #[.int .i64 a0_0, .slice (some ad226) l0_1.length c0_1, .int .i64 a0_2] 28 (0, 0)) zea_ hb) <| z (blk_below (g := gb227) (o := .cells #[.int .i64 ((rd_T93 l0_1 x40_2).f0), .int .i64 ((rd_T93 l0_1 x40_2).f1), .int .i64 ((rd_T93 l0_1 x40_2).f2)] 93 (0, 0)) zeb_ hb) <| z1 (below_step zcc_ hb); clear BK225 BK227 HB; obtain ⟨BK225, BK227, HB⟩ := n_; clear hb; have hcz40_0 : w39.cell? ⟨gb225, 0, none⟩ = some (.int .i64 a0_0) := (blk_cell BK225.out 0).trans rfl; have hcz40_1 : w39.cell? ⟨gb225, 1, none⟩ = some (.slice (some ad226) l0_1.length c0_1) := (blk_cell BK225.out 1).trans rfl; have hcz40_2 : w39.cell? ⟨gb225, 2, none⟩ = some (.int .i64 a0_2) := (blk_cell BK225.out 2).trans rfl; have hfz40_0 := blk_frozen BK225.out 0; have hfz40_1 := blk_frozen BK225.out 1; have hfz40_2 := blk_frozen BK225.out 2; have hcz41_0 : w39.cell? ⟨gb227, 0, none⟩ = some (.int .i64 ((rd_T93 l0_1 x40_2).f0)) := (blk_cell BK227.out 0).trans rfl; have hcz41_1 : w39.cell? ⟨gb227, 1, none⟩ = some (.int .i64 ((rd_T93 l0_1 x40_2).f1)) := (blk_cell BK227.out 1).trans rfl; have hcz41_2 : w39.cell? ⟨gb227, 2, none⟩ = some (.int .i64 ((rd_T93 l0_1 x40_2).f2)) := (blk_cell BK227.out 2).trans rfl; have hfz41_0 := blk_frozen BK227.out 0; have hfz41_1 := blk_frozen BK227.out 1; have hfz41_2 := blk_frozen BK227.out 2) | (go_at_call 71; (with_reducible refine (impl_goodReference.calls a0_0 _ _ l0_1 a0_2 x40_2 ((rd_T93 l0_1 x40_2).f2) t229 _ ?side1 ?side2 A35.out).mono ?_); (case side1 => exact zbj_); (case side2 => exact HC0_1.out); rintro e w42 ⟨rfl, hb⟩; have n_ := z (blk_below (zb BK225.out) hb) <| z (blk_below (g := gb227) (o := .cells #[.int .i64 ((rd_T93 l0_1 x40_2).f0), .int .i64 ((rd_T93 l0_1 x40_2).f1), .int .i64 ((rd_T93 l0_1 x40_2).f2)] 93 (0, 0)) (zb BK227.out) hb) <| z1 (below_step zcc_ hb); clear BK225 BK227 HB; obtain ⟨BK225, BK227, HB⟩ := n_; clear hb)))
              go_meet
              case rel => exact ⟨_, (!t229), ze_, H', ⟨zhb_⟩, ⟨zb BK225.out⟩, ⟨zb BK227.out⟩, ⟨zcc_⟩⟩
             ·replace c34 := Bool.eq_false_iff.mpr c34
              subst c34; have H1 : (impl_IsDiagram.j2 k2 x40_2 l0_1 (l0_1.length : Int) x40_2 true a0_0 l0_1 a0_2 ((rd_T93 l0_1 x40_2).f0) ((rd_T93 l0_1 x40_2).f1) ((rd_T93 l0_1 x40_2).f2)) = some r := by rw [if_neg (show ¬ (false = true) by decide)] at H; exact H
              clear H; have H := H1; clear H1; have H' := aM H; clear H; have hnb43 := NB227_225.out; have hnc43 := NB225_227.out; have hcz44_0 : w19.cell? ⟨gb227, 0, none⟩ = some (.int .i64 0) := (blk_cell BK227.out 0).trans rfl; have hcz44_1 : w19.cell? ⟨gb227, 1, none⟩ = some (.int .i64 0) := (blk_cell BK227.out 1).trans rfl; have hcz44_2 : w19.cell? ⟨gb227, 2, none⟩ = some (.int .i64 0) := (blk_cell BK227.out 2).trans rfl; have hfz44_0 := blk_frozen BK227.out 0; have hfz44_1 := blk_frozen BK227.out 1; have hfz44_2 := blk_frozen BK227.out 2; have hcz45_0 : w19.cell? ⟨gb225, 0, none⟩ = some (.int .i64 a0_0) := (blk_cell BK225.out 0).trans rfl; have hcz45_1 : w19.cell? ⟨gb225, 1, none⟩ = some (.slice (some ad226) l0_1.length c0_1) := (blk_cell BK225.out 1).trans rfl; have hcz45_2 : w19.cell? ⟨gb225, 2, none⟩ = some (.int .i64 a0_2) := (blk_cell BK225.out 2).trans rfl; have hfz45_0 := blk_frozen BK225.out 0; have hfz45_1 := blk_frozen BK225.out 1; have hfz45_2 := blk_frozen BK225.out 2
              go_wp2_with (first | (go_at_call 71; (with_reducible refine (impl_goodReference.calls a0_0 _ _ l0_1 a0_2 x40_2 ((rd_T93 l0_1 x40_2).f1) false _ ?side1 ?side2 A33.out).mono ?_); (case side1 => exact zgg_); (case side2 => exact HC0_1.out); rintro e w46 ⟨rfl, hb⟩; have n_ := z (blk_below (g := gb225) (o := .cells #[.int .i64 a0_0, .slice (some ad226) l0_1.length c0_1, .int .i64 a0_2] 28 (0, 0)) zea_ hb) <| z (blk_below (g := gb227) (o := .cells #[.int .i64 ((rd_T93 l0_1 x40_2).f0), .int .i64 ((rd_T93 l0_1 x40_2).f1), .int .i64 ((rd_T93 l0_1 x40_2).f2)] 93 (0, 0)) zeb_ hb) <| z1 (below_step zcc_ hb); clear BK225 BK227 HB; obtain ⟨BK225, BK227, HB⟩ := n_; clear hb))
              repeat (go_quiet (first | (go_at_call 71; (with_reducible refine (impl_goodReference.calls a0_0 _ _ l0_1 a0_2 x40_2 ((rd_T93 l0_1 x40_2).f1) false _ ?side1 ?side2 A33.out).mono ?_); (case side1 => exact zgg_); (case side2 => exact HC0_1.out); rintro e w46 ⟨rfl, hb⟩; have n_ := z (blk_below (g := gb225) (o := .cells #[.int .i64 a0_0, .slice (some ad226) l0_1.length c0_1, .int .i64 a0_2] 28 (0, 0)) zea_ hb) <| z (blk_below (g := gb227) (o := .cells #[.int .i64 ((rd_T93 l0_1 x40_2).f0), .int .i64 ((rd_T93 l0_1 x40_2).f1), .int .i64 ((rd_T93 l0_1 x40_2).f2)] 93 (0, 0)) zeb_ hb) <| z1 (below_step zcc_ hb); clear BK225 BK227 HB; obtain ⟨BK225, BK227, HB⟩ := n_; clear hb)); try go_wp2_with (first | (go_at_call 71; (with_reducible refine (impl_goodReference.calls a0_0 _ _ l0_1 a0_2 x40_2 ((rd_T93 l0_1 x40_2).f1) false _ ?side1 ?side2 A33.out).mono ?_); (case side1 => exact zgg_); (case side2 => exact HC0_1.out); rintro e w46 ⟨rfl, hb⟩; have n_ := z (blk_below (g := gb225) (o := .cells #[.int .i64 a0_0, .slice (some ad226) l0_1.length c0_1, .int .i64 a0_2] 28 (0, 0)) zea_ hb) <| z (blk_below (g := gb227) (o := .cells #[.int .i64 ((rd_T93 l0_1 x40_2).f0), .int .i64 ((rd_T93 l0_1 x40_2).f1), .int .i64 ((rd_T93 l0_1 x40_2).f2)] 93 (0, 0)) zeb_ hb) <| z1 (below_step zcc_ hb); clear BK225 BK227 HB; obtain ⟨BK225, BK227, HB⟩ := n_; clear hb)))
              go_meet
              case rel => exact ⟨_, (true), ze_, H', ⟨zhb_⟩, ⟨zb BK225.out⟩, ⟨zb BK227.out⟩, ⟨zcc_⟩⟩
         case rest =>
          clear HC18; (try clear c15b0); (try clear c16b0); (try clear c17b0); (try clear hcz21_0); (try clear hcz21_1); (try clear hcz21_2); (try clear hfz21_0); (try clear hfz21_1); (try clear hfz21_2); (try clear hx226_0); (try clear hx226_1); (try clear hx226_2); (try clear p226); (try clear q226); obtain ⟨kq, x77_17, rfl, HA, HJ17, BK225, BK227, HB⟩ := hcut
          cases kq with
          | zero => exact absurd HA.out (by simp [impl_IsDiagram.j2])
          | succ kj17 =>
           have H := HA.out; clear HA
           simp only [impl_IsDiagram.j2] at H
           by_cases c47 : x77_17 = true
           ·subst c47
            have H1 : (some false) = some r := by rw [if_pos rfl] at H; exact H
            clear H; have H := H1; clear H1; obtain rfl := Option.some.inj H
            go_wp2
            repeat (go_quiet (fail); try go_wp2)
            go_ret
            exact ⟨zf_, zcc_⟩
           ·replace c47 := Bool.eq_false_iff.mpr c47
            subst c47; have H1 : (impl_IsDiagram.l1 kj17 x40_2 0 l0_1 (l0_1.length : Int) x40_2 a0_0 l0_1 a0_2 ((rd_T93 l0_1 x40_2).f0) ((rd_T93 l0_1 x40_2).f1) ((rd_T93 l0_1 x40_2).f2)) = some r := by rw [if_neg (show ¬ (false = true) by decide)] at H; exact H
            clear H; have H := H1; clear H1; have H' := aM H; clear H
            go_wp2
            repeat (go_quiet (fail); try go_wp2)
            go_loopg [5] kj17 (fun kq v5 w' => ∃ (x5_4 : Int), v5 = .int .i64 x5_4 ∧ Aside0 (impl_IsDiagram.l1 kq x40_2 x5_4 l0_1 (l0_1.length : Int) x40_2 a0_0 l0_1 a0_2 ((rd_T93 l0_1 x40_2).f0) ((rd_T93 l0_1 x40_2).f1) ((rd_T93 l0_1 x40_2).f2) = some r) ∧ Aside0 (kq ≤ kj17) ∧ Aside0 (w'.heap[gb225]? = some (.cells #[.int .i64 a0_0, (.slice (some ad226) l0_1.length c0_1), .int .i64 a0_2] 28 (0, 0))) ∧ Aside0 (w'.heap[gb227]? = some (.cells #[.int .i64 ((rd_T93 l0_1 x40_2).f0), .int .i64 ((rd_T93 l0_1 x40_2).f1), .int .i64 ((rd_T93 l0_1 x40_2).f2)] 93 (0, 0))) ∧ Aside0 (Below w.heap.size w w'))
            case atStart => exact ⟨(0), ze_, H', ⟨Nat.le_refl _⟩, ⟨zb BK225.out⟩, ⟨zb BK227.out⟩, ⟨zcc_⟩⟩
            case round =>
             clear H'; obtain ⟨x5_4, rfl, HA, HK4, BK225, BK227, HB⟩ := hrel
             cases gk with
             | zero => exact absurd HA.out (by simp [impl_IsDiagram.l1])
             | succ k4 =>
              have H := HA.out; clear HA
              simp only [impl_IsDiagram.l1] at H
              by_cases c48 : x5_4 < x40_2
              ·rw [if_pos c48] at H
               have c48b0 := decide_eq_true c48; clear c48
               by_cases c49 : 0 ≤ x5_4
               ·rw [if_pos c49] at H
                have c49b0 := decide_eq_true c49; clear c49
                by_cases c50 : x5_4 < (l0_1.length : Int)
                ·rw [if_pos c50] at H
                 have c50b0 := decide_eq_true c50; clear c50
                 by_cases c51 : (((rd_T93 l0_1 x5_4).f0) == ((rd_T93 l0_1 x40_2).f0) && (((rd_T93 l0_1 x5_4).f1) == ((rd_T93 l0_1 x40_2).f1) && (((rd_T93 l0_1 x5_4).f2) == ((rd_T93 l0_1 x40_2).f2)))) = true
                 ·rw [if_pos c51] at H
                  have c51b0 : (((rd_T93 l0_1 x5_4).f0) == ((rd_T93 l0_1 x40_2).f0) && (((rd_T93 l0_1 x5_4).f1) == ((rd_T93 l0_1 x40_2).f1) && (((rd_T93 l0_1 x5_4).f2) == ((rd_T93 l0_1 x40_2).f2)))) = true := c51; (try (have c51b1 : decide (((rd_T93 l0_1 x5_4).f0) = ((rd_T93 l0_1 x40_2).f0) && (((rd_T93 l0_1 x5_4).f1) == ((rd_T93 l0_1 x40_2).f1) && (((rd_T93 l0_1 x5_4).f2) == ((rd_T93 l0_1 x40_2).f2)))) = true := by simpa using c51)); (try (have c51b2 : (((rd_T93 l0_1 x5_4).f0) == ((rd_T93 l0_1 x40_2).f0) && (((rd_T93 l0_1 x5_4).f1) == ((rd_T93 l0_1 x40_2).f1) && (((rd_T93 l0_1 x5_4).f2) == ((rd_T93 l0_1 x40_2).f2)))) = true := by simpa using c51)); clear c51; obtain rfl := Option.some.inj H; have hnb52 := NB225_227.out; have hnc52 := NB227_225.out; have hcz53_0 : wr.cell? ⟨gb225, 0, none⟩ = some (.int .i64 a0_0) := (blk_cell BK225.out 0).trans rfl; have hcz53_1 : wr.cell? ⟨gb225, 1, none⟩ = some (.slice (some ad226) l0_1.length c0_1) := (blk_cell BK225.out 1).trans rfl; have hcz53_2 : wr.cell? ⟨gb225, 2, none⟩ = some (.int .i64 a0_2) := (blk_cell BK225.out 2).trans rfl; have hfz53_0 := blk_frozen BK225.out 0; have hfz53_1 := blk_frozen BK225.out 1; have hfz53_2 := blk_frozen BK225.out 2; have p230 : 0 ≤ (x5_4 : Int) := of_decide_eq_true zc_; have q230 : x5_4 < (l0_1.length : Int) := of_decide_eq_true zc_; obtain ⟨ad230, e230, hx230_0, hx230_1, hx230_2⟩ := at_T93 HR0_1.out x5_4 p230 q230; obtain rfl : ad226 = ad230 := (by injection e230); (try (replace hx230_0 := (HB.out.cell (World.block_lt_of_cell? w _ hx230_0)).trans hx230_0)); (try (replace hx230_1 := (HB.out.cell (World.block_lt_of_cell? w _ hx230_1)).trans hx230_1)); (try (replace hx230_2 := (HB.out.cell (World.block_lt_of_cell? w _ hx230_2)).trans hx230_2)); replace p230 := eq_true p230; replace q230 := eq_true q230; have hcz54_0 : wr.cell? ⟨gb227, 0, none⟩ = some (.int .i64 ((rd_T93 l0_1 x40_2).f0)) := (blk_cell BK227.out 0).trans rfl; have hcz54_1 : wr.cell? ⟨gb227, 1, none⟩ = some (.int .i64 ((rd_T93 l0_1 x40_2).f1)) := (blk_cell BK227.out 1).trans rfl; have hcz54_2 : wr.cell? ⟨gb227, 2, none⟩ = some (.int .i64 ((rd_T93 l0_1 x40_2).f2)) := (blk_cell BK227.out 2).trans rfl; have hfz54_0 := blk_frozen BK227.out 0; have hfz54_1 := blk_frozen BK227.out 1; have hfz54_2 := blk_frozen BK227.out 2
                  go_wp2
                  repeat (go_quiet (fail); try go_wp2)
                  go_ret
                  exact ⟨zf_, zcc_⟩
                 ·rw [if_neg c51] at H
                  have c51b0 : (((rd_T93 l0_1 x5_4).f0) == ((rd_T93 l0_1 x40_2).f0) && (((rd_T93 l0_1 x5_4).f1) == ((rd_T93 l0_1 x40_2).f1) && (((rd_T93 l0_1 x5_4).f2) == ((rd_T93 l0_1 x40_2).f2)))) = false := by simpa using c51
                  (try (have c51b1 : decide (((rd_T93 l0_1 x5_4).f0) = ((rd_T93 l0_1 x40_2).f0) && (((rd_T93 l0_1 x5_4).f1) == ((rd_T93 l0_1 x40_2).f1) && (((rd_T93 l0_1 x5_4).f2) == ((rd_T93 l0_1 x40_2).f2)))) = false := by simpa using c51)); (try (have c51b2 : (((rd_T93 l0_1 x5_4).f0) == ((rd_T93 l0_1 x40_2).f0) && (((rd_T93 l0_1 x5_4).f1) == ((rd_T93 l0_1 x40_2).f1) && (((rd_T93 l0_1 x5_4).f2) == ((rd_T93 l0_1 x40_2).f2)))) = false := by simpa using c51)); (try (have c51b3 : ¬ (((rd_T93 l0_1 x5_4).f0) = ((rd_T93 l0_1 x40_2).f0) && (((rd_T93 l0_1 x5_4).f1) == ((rd_T93 l0_1 x40_2).f1) && (((rd_T93 l0_1 x5_4).f2) == ((rd_T93 l0_1 x40_2).f2)))) := by simpa using c51)); clear c51; have H' := aM H; clear H; have hnb55 := NB225_227.out; have hnc55 := NB227_225.out; have hcz56_0 : wr.cell? ⟨gb225, 0, none⟩ = some (.int .i64 a0_0) := (blk_cell BK225.out 0).trans rfl; have hcz56_1 : wr.cell? ⟨gb225, 1, none⟩ = some (.slice (some ad226) l0_1.length c0_1) := (blk_cell BK225.out 1).trans rfl; have hcz56_2 : wr.cell? ⟨gb225, 2, none⟩ = some (.int .i64 a0_2) := (blk_cell BK225.out 2).trans rfl; have hfz56_0 := blk_frozen BK225.out 0; have hfz56_1 := blk_frozen BK225.out 1; have hfz56_2 := blk_frozen BK225.out 2; have p230 : 0 ≤ (x5_4 : Int) := of_decide_eq_true zc_; have q230 : x5_4 < (l0_1.length : Int) := of_decide_eq_true zc_; obtain ⟨ad230, e230, hx230_0, hx230_1, hx230_2⟩ := at_T93 HR0_1.out x5_4 p230 q230; obtain rfl : ad226 = ad230 := (by injection e230); (try (replace hx230_0 := (HB.out.cell (World.block_lt_of_cell? w _ hx230_0)).trans hx230_0)); (try (replace hx230_1 := (HB.out.cell (World.block_lt_of_cell? w _ hx230_1)).trans hx230_1)); (try (replace hx230_2 := (HB.out.cell (World.block_lt_of_cell? w _ hx230_2)).trans hx230_2)); replace p230 := eq_true p230; replace q230 := eq_true q230; have hcz57_0 : wr.cell? ⟨gb227, 0, none⟩ = some (.int .i64 ((rd_T93 l0_1 x40_2).f0)) := (blk_cell BK227.out 0).trans rfl; have hcz57_1 : wr.cell? ⟨gb227, 1, none⟩ = some (.int .i64 ((rd_T93 l0_1 x40_2).f1)) := (blk_cell BK227.out 1).trans rfl; have hcz57_2 : wr.cell? ⟨gb227, 2, none⟩ = some (.int .i64 ((rd_T93 l0_1 x40_2).f2)) := (blk_cell BK227.out 2).trans rfl; have hfz57_0 := blk_frozen BK227.out 0; have hfz57_1 := blk_frozen BK227.out 1; have hfz57_2 := blk_frozen BK227.out 2
                  go_wp2
                  repeat (go_quiet (fail); try go_wp2)
                  go_roundg k4
                  case measure => have := HJ1.out; have := HK2.out; have := HJ17.out; have := HK4.out; omega
                  case rel => exact ⟨(wrap64 (x5_4 + 1)), ze_, H', ⟨by have := HJ1.out; have := HK2.out; have := HJ17.out; have := HK4.out; omega⟩, ⟨zb BK225.out⟩, ⟨zb BK227.out⟩, ⟨zcc_⟩⟩
                ·rw [if_neg c50] at H
                 exact absurd H (by simp)
               ·rw [if_neg c49] at H
                exact absurd H (by simp)
              ·rw [if_neg c48] at H
               have c48b0 := decide_eq_false c48; clear c48; have H' := aM H; clear H
               go_wp2
               repeat (go_quiet (fail); try go_wp2)
               go_roundg k4
               case measure => have := HJ1.out; have := HK2.out; have := HJ17.out; have := HK4.out; omega
               case rel => exact ⟨(wrap64 (x40_2 + 1)), ze_, H', ⟨by have := HJ1.out; have := HK2.out; have := HJ17.out; have := HK4.out; omega⟩, ⟨zb BK225.out⟩, ⟨zcc_⟩⟩
        ·rw [if_neg c17] at H
         exact absurd H (by simp)
       ·rw [if_neg c16] at H
        exact absurd H (by simp)
      ·rw [if_neg c15] at H
       have c15b0 := decide_eq_false c15; clear c15; replace H := oB.mp H; obtain ⟨t231, A580, H⟩ := H; replace H : (if (t231.length : Int) = (l0_1.length : Int) then (impl_IsDiagram.l2 k2 t231 (t231.length : Int) 0) else (some false)) = some r := H; have A58 := aM A580; clear A580
       by_cases c59 : (t231.length : Int) = (l0_1.length : Int)
       ·rw [if_pos c59] at H
        have c59b0 := beq_iff_eq.mpr c59; have c59b1 := bne_eq_false_iff_eq.mpr c59; have c59b2 : (t231.length == l0_1.length) = true := by first | simpa using c59 | (simp at c59 ⊢; omega)
        clear c59; have H' := aM H; clear H; have hcz60_0 : wr.cell? ⟨gb225, 0, none⟩ = some (.int .i64 a0_0) := (blk_cell BK225.out 0).trans rfl; have hcz60_1 : wr.cell? ⟨gb225, 1, none⟩ = some (.slice A0_1 l0_1.length c0_1) := (blk_cell BK225.out 1).trans rfl; have hcz60_2 : wr.cell? ⟨gb225, 2, none⟩ = some (.int .i64 a0_2) := (blk_cell BK225.out 2).trans rfl; have hfz60_0 := blk_frozen BK225.out 0; have hfz60_1 := blk_frozen BK225.out 1; have hfz60_2 := blk_frozen BK225.out 2
        go_wp2_with (first | (go_at_call 72; (with_reducible refine (impl_visitOrder.calls k2 a0_0 _ _ l0_1 a0_2 t231 _ ?side1 ?side2 A58.out).mono ?_); (case side1 => exact zbj_); (case side2 => exact HC0_1.out); rintro e w61 ⟨v232, rfl, ho0, hb⟩; have n_ := z (Kd.R_lower ho0 (below_size zbd_)) <| z (blk_below (zb BK225.out) hb) <| z1 (below_step zbd_ hb); clear BK225 HB; obtain ⟨HO233, BK225, HB⟩ := n_; clear hb; (try clear ho0); obtain ⟨Ao62, co62, eo62⟩ := Kd.R_slice HO233.out; subst eo62; have hcz63_0 : w61.cell? ⟨gb225, 0, none⟩ = some (.int .i64 a0_0) := (blk_cell BK225.out 0).trans rfl; have hcz63_1 : w61.cell? ⟨gb225, 1, none⟩ = some (.slice A0_1 l0_1.length c0_1) := (blk_cell BK225.out 1).trans rfl; have hcz63_2 : w61.cell? ⟨gb225, 2, none⟩ = some (.int .i64 a0_2) := (blk_cell BK225.out 2).trans rfl; have hfz63_0 := blk_frozen BK225.out 0; have hfz63_1 := blk_frozen BK225.out 1; have hfz63_2 := blk_frozen BK225.out 2))
        repeat (go_quiet (first | (go_at_call 72; (with_reducible refine (impl_visitOrder.calls k2 a0_0 _ _ l0_1 a0_2 t231 _ ?side1 ?side2 A58.out).mono ?_); (case side1 => exact zbj_); (case side2 => exact HC0_1.out); rintro e w61 ⟨v232, rfl, ho0, hb⟩; have n_ := z (Kd.R_lower ho0 (below_size zbd_)) <| z (blk_below (zb BK225.out) hb) <| z1 (below_step zbd_ hb); clear BK225 HB; obtain ⟨HO233, BK225, HB⟩ := n_; clear hb; (try clear ho0); obtain ⟨Ao62, co62, eo62⟩ := Kd.R_slice HO233.out; subst eo62; have hcz63_0 : w61.cell? ⟨gb225, 0, none⟩ = some (.int .i64 a0_0) := (blk_cell BK225.out 0).trans rfl; have hcz63_1 : w61.cell? ⟨gb225, 1, none⟩ = some (.slice A0_1 l0_1.length c0_1) := (blk_cell BK225.out 1).trans rfl; have hcz63_2 : w61.cell? ⟨gb225, 2, none⟩ = some (.int .i64 a0_2) := (blk_cell BK225.out 2).trans rfl; have hfz63_0 := blk_frozen BK225.out 0; have hfz63_1 := blk_frozen BK225.out 1; have hfz63_2 := blk_frozen BK225.out 2)); try go_wp2_with (first | (go_at_call 72; (with_reducible refine (impl_visitOrder.calls k2 a0_0 _ _ l0_1 a0_2 t231 _ ?side1 ?side2 A58.out).mono ?_); (case side1 => exact zbj_); (case side2 => exact HC0_1.out); rintro e w61 ⟨v232, rfl, ho0, hb⟩; have n_ := z (Kd.R_lower ho0 (below_size zbd_)) <| z (blk_below (zb BK225.out) hb) <| z1 (below_step zbd_ hb); clear BK225 HB; obtain ⟨HO233, BK225, HB⟩ := n_; clear hb; (try clear ho0); obtain ⟨Ao62, co62, eo62⟩ := Kd.R_slice HO233.out; subst eo62; have hcz63_0 : w61.cell? ⟨gb225, 0, none⟩ = some (.int .i64 a0_0) := (blk_cell BK225.out 0).trans rfl; have hcz63_1 : w61.cell? ⟨gb225, 1, none⟩ = some (.slice A0_1 l0_1.length c0_1) := (blk_cell BK225.out 1).trans rfl; have hcz63_2 : w61.cell? ⟨gb225, 2, none⟩ = some (.int .i64 a0_2) := (blk_cell BK225.out 2).trans rfl; have hfz63_0 := blk_frozen BK225.out 0; have hfz63_1 := blk_frozen BK225.out 1; have hfz63_2 := blk_frozen BK225.out 2)))
        go_loopg [101] k2 (fun kq v101 w' => ∃ (x101_3 : Int), v101 = .int .i64 x101_3 ∧ Aside0 (impl_IsDiagram.l2 kq t231 (t231.length : Int) x101_3 = some r) ∧ Aside0 (kq ≤ k2) ∧ Aside0 (Kd.R (Kd.int .i64) 3 w' w.heap.size (fun _ => True) (.slice Ao62 t231.length co62) t231) ∧ Aside0 (w'.heap[gb225]? = some (.cells #[.int .i64 a0_0, (.slice A0_1 l0_1.length c0_1), .int .i64 a0_2] 28 (0, 0))) ∧ Aside0 (Below w.heap.size w w'))
        case atStart => exact ⟨(0), ze_, H', ⟨Nat.le_refl _⟩, ⟨zr HO233.out⟩, ⟨zb BK225.out⟩, ⟨zbd_⟩⟩
        case round =>
         clear H'; (try clear c15b0); (try clear c59b0); (try clear c59b1); (try clear c59b2); (try clear hcz60_0); (try clear hcz60_1); (try clear hcz60_2); (try clear hcz63_0); (try clear hcz63_1); (try clear hcz63_2); (try clear hfz60_0); (try clear hfz60_1); (try clear hfz60_2); (try clear hfz63_0); (try clear hfz63_1); (try clear hfz63_2); obtain ⟨x101_3, rfl, HA, HK3, HO_99, BK225, HB⟩ := hrel
         cases gk with
         | zero => exact absurd HA.out (by simp [impl_IsDiagram.l2])
         | succ k3 =>
          have H := HA.out; clear HA
          simp only [impl_IsDiagram.l2] at H
          by_cases c64 : x101_3 < (t231.length : Int)
          ·rw [if_pos c64] at H
           have c64b0 := decide_eq_true c64; clear c64
           by_cases c65 : 0 ≤ x101_3
           ·rw [if_pos c65] at H
            have c65b0 := decide_eq_true c65; clear c65
            by_cases c66 : x101_3 < (t231.length : Int)
            ·rw [if_pos c66] at H
             have c66b0 := decide_eq_true c66; clear c66
             by_cases c67 : x101_3 = (rd t231 x101_3)
             ·rw [if_pos c67] at H
              have c67b0 := beq_iff_eq.mpr c67; have c67b1 := bne_eq_false_iff_eq.mpr c67; clear c67; have H' := aM H; clear H; have p234 : 0 ≤ (x101_3 : Int) := of_decide_eq_true zc_; have q234 : x101_3 < (t231.length : Int) := of_decide_eq_true zc_; obtain ⟨ad234, e234, hx234_0⟩ := Kd.at_int (Kd.R_reads' HO_99.out).2.2 x101_3 p234 q234
              cases e234
              replace p234 := eq_true p234; replace q234 := eq_true q234
              go_wp2
              repeat (go_quiet (fail); try go_wp2)
              go_roundg k3
              case measure => have := HJ1.out; have := HK2.out; have := HK3.out; omega
              case rel => exact ⟨(wrap64 (x101_3 + 1)), ze_, H', ⟨by have := HJ1.out; have := HK2.out; have := HK3.out; omega⟩, ⟨zr HO_99.out⟩, ⟨zb BK225.out⟩, ⟨zbd_⟩⟩
             ·rw [if_neg c67] at H
              have c67b0 := beq_eq_false_iff_ne.mpr c67; have c67b1 := bne_iff_ne.mpr c67; obtain rfl := Option.some.inj H; have p234 : 0 ≤ (x101_3 : Int) := of_decide_eq_true zc_; have q234 : x101_3 < (t231.length : Int) := of_decide_eq_true zc_; obtain ⟨ad234, e234, hx234_0⟩ := Kd.at_int (Kd.R_reads' HO_99.out).2.2 x101_3 p234 q234
              cases e234
              replace p234 := eq_true p234; replace q234 := eq_true q234
              go_wp2
              repeat (go_quiet (fail); try go_wp2)
              go_ret
              exact ⟨zf_, zbd_⟩
            ·rw [if_neg c66] at H
             exact absurd H (by simp)
           ·rw [if_neg c65] at H
            exact absurd H (by simp)
          ·rw [if_neg c64] at H
           have c64b0 := decide_eq_false c64; clear c64; obtain rfl := Option.some.inj H
           go_wp2
           repeat (go_quiet (fail); try go_wp2)
           go_ret
           exact ⟨zf_, zbd_⟩
       ·rw [if_neg c59] at H
        have c59b0 := beq_eq_false_iff_ne.mpr c59; have c59b1 := bne_iff_ne.mpr c59; have c59b2 : (t231.length == l0_1.length) = false := by first | simpa using c59 | (simp at c59 ⊢; omega)
        obtain rfl := Option.some.inj H; have hcz68_0 : wr.cell? ⟨gb225, 0, none⟩ = some (.int .i64 a0_0) := (blk_cell BK225.out 0).trans rfl; have hcz68_1 : wr.cell? ⟨gb225, 1, none⟩ = some (.slice A0_1 l0_1.length c0_1) := (blk_cell BK225.out 1).trans rfl; have hcz68_2 : wr.cell? ⟨gb225, 2, none⟩ = some (.int .i64 a0_2) := (blk_cell BK225.out 2).trans rfl; have hfz68_0 := blk_frozen BK225.out 0; have hfz68_1 := blk_frozen BK225.out 1; have hfz68_2 := blk_frozen BK225.out 2
        go_wp2_with (first | (go_at_call 72; (with_reducible refine (impl_visitOrder.calls k2 a0_0 _ _ l0_1 a0_2 t231 _ ?side1 ?side2 A58.out).mono ?_); (case side1 => exact zbj_); (case side2 => exact HC0_1.out); rintro e w69 ⟨v232, rfl, ho0, hb⟩; have n_ := z (Kd.R_lower ho0 (below_size zbd_)) <| z (blk_below (zb BK225.out) hb) <| z1 (below_step zbd_ hb); clear BK225 HB; obtain ⟨HO233, BK225, HB⟩ := n_; clear hb; (try clear ho0); obtain ⟨Ao70, co70, eo70⟩ := Kd.R_slice HO233.out; subst eo70; have hcz71_0 : w69.cell? ⟨gb225, 0, none⟩ = some (.int .i64 a0_0) := (blk_cell BK225.out 0).trans rfl; have hcz71_1 : w69.cell? ⟨gb225, 1, none⟩ = some (.slice A0_1 l0_1.length c0_1) := (blk_cell BK225.out 1).trans rfl; have hcz71_2 : w69.cell? ⟨gb225, 2, none⟩ = some (.int .i64 a0_2) := (blk_cell BK225.out 2).trans rfl; have hfz71_0 := blk_frozen BK225.out 0; have hfz71_1 := blk_frozen BK225.out 1; have hfz71_2 := blk_frozen BK225.out 2))
        repeat (go_quiet (first | (go_at_call 72; (with_reducible refine (impl_visitOrder.calls k2 a0_0 _ _ l0_1 a0_2 t231 _ ?side1 ?side2 A58.out).mono ?_); (case side1 => exact zbj_); (case side2 => exact HC0_1.out); rintro e w69 ⟨v232, rfl, ho0, hb⟩; have n_ := z (Kd.R_lower ho0 (below_size zbd_)) <| z (blk_below (zb BK225.out) hb) <| z1 (below_step zbd_ hb); clear BK225 HB; obtain ⟨HO233, BK225, HB⟩ := n_; clear hb; (try clear ho0); obtain ⟨Ao70, co70, eo70⟩ := Kd.R_slice HO233.out; subst eo70; have hcz71_0 : w69.cell? ⟨gb225, 0, none⟩ = some (.int .i64 a0_0) := (blk_cell BK225.out 0).trans rfl; have hcz71_1 : w69.cell? ⟨gb225, 1, none⟩ = some (.slice A0_1 l0_1.length c0_1) := (blk_cell BK225.out 1).trans rfl; have hcz71_2 : w69.cell? ⟨gb225, 2, none⟩ = some (.int .i64 a0_2) := (blk_cell BK225.out 2).trans rfl; have hfz71_0 := blk_frozen BK225.out 0; have hfz71_1 := blk_frozen BK225.out 1; have hfz71_2 := blk_frozen BK225.out 2)); try go_wp2_with (first | (go_at_call 72; (with_reducible refine (impl_visitOrder.calls k2 a0_0 _ _ l0_1 a0_2 t231 _ ?side1 ?side2 A58.out).mono ?_); (case side1 => exact zbj_); (case side2 => exact HC0_1.out); rintro e w69 ⟨v232, rfl, ho0, hb⟩; have n_ := z (Kd.R_lower ho0 (below_size zbd_)) <| z (blk_below (zb BK225.out) hb) <| z1 (below_step zbd_ hb); clear BK225 HB; obtain ⟨HO233, BK225, HB⟩ := n_; clear hb; (try clear ho0); obtain ⟨Ao70, co70, eo70⟩ := Kd.R_slice HO233.out; subst eo70; have hcz71_0 : w69.cell? ⟨gb225, 0, none⟩ = some (.int .i64 a0_0) := (blk_cell BK225.out 0).trans rfl; have hcz71_1 : w69.cell? ⟨gb225, 1, none⟩ = some (.slice A0_1 l0_1.length c0_1) := (blk_cell BK225.out 1).trans rfl; have hcz71_2 : w69.cell? ⟨gb225, 2, none⟩ = some (.int .i64 a0_2) := (blk_cell BK225.out 2).trans rfl; have hfz71_0 := blk_frozen BK225.out 0; have hfz71_1 := blk_frozen BK225.out 1; have hfz71_2 := blk_frozen BK225.out 2)))
        go_ret
        exact ⟨zf_, zbd_⟩
end Go.Proofs.Ytlnhpkjioppbiaa.QFnExactCombineDiagrams
