/- Functions of FnExactCombineDiagrams, each as a Lean function, with the proof that the Go code comes to its answers. -/
import Derived.Test.YtlnhpkjioppbiaaSFnExactCombineDiagramsx0
namespace Go.Proofs.Ytlnhpkjioppbiaa.QFnExactCombineDiagrams
open Go.RowKit Go.Proofs.YtlnhpkjioppbiaaW.PrintWords Go.Proofs.YtlnhpkjioppbiaaW.PrintLast Go.Proofs.YtlnhpkjioppbiaaW.PrintMore
open Go.Proofs.YtlnhpkjioppbiaaW.PrintWords renaming pw_below_drewN → pN, below_drew1 → p1, below_alloc → pA
open Go.Proofs.YtlnhpkjioppbiaaW.PrintWords.Kd renaming R_alloc → kA, R_drewN → kN, R_drew → kD, C_alloc → cA, C_drewN → cN, C_drew → cD
open Go.Proofs.YtlnhpkjioppbiaaW.PrintWords.Aside0 renaming mk → aM
open List renaming setIfInBounds_toArray → sI, set_cons_zero → s0, set_cons_succ → sS, map_toArray → mT, length_take → lT, length_drop → lD, map_cons → mC, map_nil → mN
open Option renaming bind_some → oS
attribute [local go_sem] max2_int min2_int max_two min_two max_three min_three max_four min_four
set_option maxHeartbeats 8000000
set_option maxRecDepth 100000
set_option linter.unusedVariables false
set_option linter.unusedSimpArgs false
def impl_diagramValue.l0 : Nat → List Int → Int → Int → List (S93) → Int → Option (Int)
 | 0, _, _, _, _, _ => none
 | k + 1, x1, x5, x236000, x236001, x236002 => if x5 > 1 then (if 0 ≤ (wrap64 (x5 - 2)) then (if (wrap64 (x5 - 2)) < (x236001.length : Int) then (if 0 ≤ ((rd_T93 x236001 (wrap64 (x5 - 2))).f0) then (if ((rd_T93 x236001 (wrap64 (x5 - 2))).f0) < (x1.length : Int) then (if (rd x1 ((rd_T93 x236001 (wrap64 (x5 - 2))).f0)) = 1 then (impl_diagramValue.l0 k x1 ((rd_T93 x236001 (wrap64 (x5 - 2))).f2) x236000 x236001 x236002) else (impl_diagramValue.l0 k x1 ((rd_T93 x236001 (wrap64 (x5 - 2))).f1) x236000 x236001 x236002)) else (none)) else (none)) else (none)) else (none)) else (some x5)
def impl_diagramValue.f (k : Nat) (a0_0 : Int) (l0_1 : List (S93)) (a0_2 : Int) (l1 : List Int) : Option (Int) := impl_diagramValue.l0 k l1 a0_2 a0_0 l0_1 a0_2
theorem impl_diagramValue.mono_l : ∀ k, (∀ y0 y1 y2 y3 y4, LeO (impl_diagramValue.l0 k y0 y1 y2 y3 y4) (impl_diagramValue.l0 (k + 1) y0 y1 y2 y3 y4))
 | 0 => fun _ _ _ _ _ r h => by simp [impl_diagramValue.l0] at h
 | k + 1 => by
  have ih0 := impl_diagramValue.mono_l k
  ·intro y0 y1 y2 y3 y4
   unfold impl_diagramValue.l0
   repeat' first
   | (with_reducible exact ih0 _ _ _ _ _)
   | (with_reducible exact LeO.refl _)
   | (with_reducible exact LeO.none _)
   | (with_reducible refine LeO.ite ?_ ?_)
   | (with_reducible refine LeO.bind ?_ (fun _ => ?_))
   | exact ih0 _ _ _ _ _
   | exact LeO.none _
   | refine LeO.ite ?_ ?_
   | refine LeO.bind ?_ (fun _ => ?_)
theorem impl_diagramValue.mono : ∀ a0 a1 a2 a3 k, LeO (impl_diagramValue.f k a0 a1 a2 a3) (impl_diagramValue.f (k + 1) a0 a1 a2 a3) := by
 intro a0 a1 a2 a3 k
 have ih0 := impl_diagramValue.mono_l k
 unfold impl_diagramValue.f
 repeat' first
   | (with_reducible exact ih0 _ _ _ _ _)
   | (with_reducible exact LeO.refl _)
   | (with_reducible exact LeO.none _)
   | (with_reducible refine LeO.ite ?_ ?_)
   | (with_reducible refine LeO.bind ?_ (fun _ => ?_))
   | exact ih0 _ _ _ _ _
   | exact LeO.none _
   | refine LeO.ite ?_ ?_
   | refine LeO.bind ?_ (fun _ => ?_)
theorem impl_diagramValue.calls (k : Nat) (a0_0 : Int) (A0_1 : Option Addr) (c0_1 : Nat) (l0_1 : List (S93)) (a0_2 : Int) (A1 : Option Addr) (c1 : Nat) (l1 : List Int) (r : Int) (w : World) (hr0_1 : Kd.C k93 w A0_1 l0_1.length l0_1) (hc0_1 : l0_1.length ≤ c0_1) (hr1 : Kd.C (Kd.int .i64) w A1 l1.length l1) (hc1 : l1.length ≤ c1) (h : impl_diagramValue.f k a0_0 l0_1 a0_2 l1 = some r) :
  Calls Try.prog 107 #[.agg #[.int .i64 a0_0, .slice A0_1 l0_1.length c0_1, .int .i64 a0_2], .slice A1 l1.length c1] w fun e w' => e = .returned (.int .i64 r) ∧ Below w.heap.size w w' := by
 have hu28 := Try.underlying28
 have hu93 := Try.underlying93
 have HR0_1 := aM hr0_1
 have HC0_1 := aM hc0_1
 clear hr0_1 hc0_1
 have HR1 := aM hr1
 have HC1 := aM hc1
 clear hr1 hc1
 have HB := aM (Below.refl w.heap.size w)
 have H : (impl_diagramValue.l0 k l1 a0_2 a0_0 l0_1 a0_2) = some r := h
 clear h
 have H' := aM H
 clear H
 go_enter Try.func107, Try.ntmps107
 go_wp2_with (first | ((with_reducible refine gate_dst (N := 2) rfl ?_); refine box_event ?hg (N := 2) ?hd (cs := #[.int .i64 a0_0, .slice A0_1 l0_1.length c0_1, .int .i64 a0_2]) (t := 28) ?hr ?_; (case hd => rfl); (case hg => rfl); (case hr => exact zb_); intro gb235 hg w3 hbox hb; have n_ := z (below_step za_ hb) <| z (hbox) <| z ((by rw [hg]; exact (below_size za_) : w.heap.size ≤ gb235)) <| z1 ((by rw [hg]; exact (below_size za_) : w.heap.size ≤ gb235)); clear HB; obtain ⟨HB, BK235, GW235, GE235⟩ := n_; clear hb hbox hg; have hcz4_0 : w3.cell? ⟨gb235, 0, none⟩ = some (.int .i64 a0_0) := (blk_cell BK235.out 0).trans rfl; have hcz4_1 : w3.cell? ⟨gb235, 1, none⟩ = some (.slice A0_1 l0_1.length c0_1) := (blk_cell BK235.out 1).trans rfl; have hcz4_2 : w3.cell? ⟨gb235, 2, none⟩ = some (.int .i64 a0_2) := (blk_cell BK235.out 2).trans rfl; have hfz4_0 := blk_frozen BK235.out 0; have hfz4_1 := blk_frozen BK235.out 1; have hfz4_2 := blk_frozen BK235.out 2))
 go_loopg [5] k (fun kq v5 w' => ∃ (x5_1 : Int), v5 = .int .i64 x5_1 ∧ Aside0 (impl_diagramValue.l0 kq l1 x5_1 a0_0 l0_1 a0_2 = some r) ∧ Aside0 (kq ≤ k) ∧ Aside0 (w'.heap[gb235]? = some (.cells #[.int .i64 a0_0, (.slice A0_1 l0_1.length c0_1), .int .i64 a0_2] 28 (0, 0))) ∧ Aside0 (Below w.heap.size w w'))
 case atStart => exact ⟨(a0_2), ze_, H', ⟨Nat.le_refl _⟩, ⟨zb BK235.out⟩, ⟨zfc_⟩⟩
 case round =>
  clear H'; (try clear hcz4_0); (try clear hcz4_1); (try clear hcz4_2); (try clear hfz4_0); (try clear hfz4_1); (try clear hfz4_2); obtain ⟨x5_1, rfl, HA, HK1, BK235, HB⟩ := hrel
  cases gk with
  | zero => exact absurd HA.out (by simp [impl_diagramValue.l0])
  | succ k1 =>
   have H := HA.out; clear HA
   simp only [impl_diagramValue.l0] at H
   by_cases c5 : x5_1 > 1
   ·rw [if_pos c5] at H
    have c5b0 : decide (1 < x5_1) = true := decide_eq_true c5; clear c5; obtain ⟨ji6, hji6⟩ : ∃ j_ : Int, (wrap64 (x5_1 - 2)) = j_ := ⟨_, rfl⟩; replace H : (if 0 ≤ (ji6) then (if (ji6) < (l0_1.length : Int) then (if 0 ≤ ((rd_T93 l0_1 (ji6)).f0) then (if ((rd_T93 l0_1 (ji6)).f0) < (l1.length : Int) then (if (rd l1 ((rd_T93 l0_1 (ji6)).f0)) = 1 then (impl_diagramValue.l0 k1 l1 ((rd_T93 l0_1 (ji6)).f2) a0_0 l0_1 a0_2) else (impl_diagramValue.l0 k1 l1 ((rd_T93 l0_1 (ji6)).f1) a0_0 l0_1 a0_2)) else (none)) else (none)) else (none)) else (none)) = some r := by first | (rw [hji6] at H; exact H) | (simp only [hji6] at H ⊢; exact H)
    have hji6w : (IntKind.i64.wrap (x5_1 - 2)) = ji6 := (i64_w _).trans hji6
    by_cases c7 : 0 ≤ (ji6)
    ·rw [if_pos c7] at H
     have c7b0 := decide_eq_true c7; clear c7
     by_cases c8 : (ji6) < (l0_1.length : Int)
     ·rw [if_pos c8] at H
      have c8b0 := decide_eq_true c8; clear c8
      by_cases c9 : 0 ≤ ((rd_T93 l0_1 (ji6)).f0)
      ·rw [if_pos c9] at H
       have c9b0 := decide_eq_true c9; clear c9
       by_cases c10 : ((rd_T93 l0_1 (ji6)).f0) < (l1.length : Int)
       ·rw [if_pos c10] at H
        have c10b0 := decide_eq_true c10; clear c10
        by_cases c11 : (rd l1 ((rd_T93 l0_1 (ji6)).f0)) = 1
        ·rw [if_pos c11] at H
         have c11b0 := beq_iff_eq.mpr c11; have c11b1 := bne_eq_false_iff_eq.mpr c11; clear c11; have H' := aM H; clear H; have hcz12_0 : wr.cell? ⟨gb235, 0, none⟩ = some (.int .i64 a0_0) := (blk_cell BK235.out 0).trans rfl; have hcz12_1 : wr.cell? ⟨gb235, 1, none⟩ = some (.slice A0_1 l0_1.length c0_1) := (blk_cell BK235.out 1).trans rfl; have hcz12_2 : wr.cell? ⟨gb235, 2, none⟩ = some (.int .i64 a0_2) := (blk_cell BK235.out 2).trans rfl; have hfz12_0 := blk_frozen BK235.out 0; have hfz12_1 := blk_frozen BK235.out 1; have hfz12_2 := blk_frozen BK235.out 2; have p236 : 0 ≤ ((ji6) : Int) := of_decide_eq_true zc_; have q236 : (ji6) < (l0_1.length : Int) := of_decide_eq_true zc_; obtain ⟨ad236, e236, hx236_0, hx236_1, hx236_2⟩ := at_T93 HR0_1.out (ji6) p236 q236
         cases e236
         (try (replace hx236_0 := (HB.out.cell (World.block_lt_of_cell? w _ hx236_0)).trans hx236_0)); (try (replace hx236_1 := (HB.out.cell (World.block_lt_of_cell? w _ hx236_1)).trans hx236_1)); (try (replace hx236_2 := (HB.out.cell (World.block_lt_of_cell? w _ hx236_2)).trans hx236_2)); replace p236 := eq_true p236; replace q236 := eq_true q236
         go_wp2_with (first | ((with_reducible refine gate_dst (N := 6) rfl ?_); refine box_event ?hg (N := 6) ?hd (cs := #[.int .i64 0, .int .i64 0, .int .i64 0]) (t := 93) ?hr ?_; (case hd => rfl); (case hg => rfl); (case hr => exact zb_); intro gb237 hg w13 hbox hb; have n_ := z (blk_below (zb BK235.out) hb) <| z (below_step zfc_ hb) <| z (hbox) <| z ((by rw [hg]; exact (below_size zfc_) : w.heap.size ≤ gb237)) <| z ((by rw [hg]; exact (below_size zfc_) : w.heap.size ≤ gb237)) <| z ((by rw [hg]; exact Nat.ne_of_lt (blk_lt (zb BK235.out)) : gb235 ≠ gb237)) <| z1 ((by rw [hg]; exact Nat.ne_of_gt (blk_lt (zb BK235.out)) : gb237 ≠ gb235)); clear BK235 HB; obtain ⟨BK235, HB, BK237, GW237, GE237, NB235_237, NB237_235⟩ := n_; clear hb hbox hg; have hnb14 := NB237_235.out; have hnc14 := NB235_237.out; have hcz15_0 : w13.cell? ⟨gb237, 0, none⟩ = some (.int .i64 0) := (blk_cell BK237.out 0).trans rfl; have hcz15_1 : w13.cell? ⟨gb237, 1, none⟩ = some (.int .i64 0) := (blk_cell BK237.out 1).trans rfl; have hcz15_2 : w13.cell? ⟨gb237, 2, none⟩ = some (.int .i64 0) := (blk_cell BK237.out 2).trans rfl; have hfz15_0 := blk_frozen BK237.out 0; have hfz15_1 := blk_frozen BK237.out 1; have hfz15_2 := blk_frozen BK237.out 2; have p238 : 0 ≤ (((rd_T93 l0_1 (ji6)).f0) : Int) := of_decide_eq_true zc_; have q238 : ((rd_T93 l0_1 (ji6)).f0) < (l1.length : Int) := of_decide_eq_true zc_; obtain ⟨ad238, e238, hx238_0⟩ := Kd.at_int HR1.out ((rd_T93 l0_1 (ji6)).f0) p238 q238; cases e238; have hn238_0 : ad238.block ≠ gb237 := Nat.ne_of_lt (Nat.lt_of_lt_of_le zgh_ GW237.out); have hn238_1 : ad238.block ≠ gb237 := Nat.ne_of_lt (Nat.lt_of_lt_of_le zgh_ GW237.out); have hn238_2 : ad238.block ≠ gb237 := Nat.ne_of_lt (Nat.lt_of_lt_of_le zgh_ GW237.out); replace hx238_0 := (HB.out.cell (World.block_lt_of_cell? w _ hx238_0)).trans hx238_0; replace hx238_0 := (cell_far (p := ⟨gb237, 0, none⟩) (by first | (rw [add_block]; exact hn238_0) | (show (Addr.add _ _).block ≠ _; rw [add_block]; exact hn238_0) | exact hn238_0) (.int .i64 ((rd_T93 l0_1 (ji6)).f0))).trans hx238_0; replace hx238_0 := (cell_far (p := ⟨gb237, 1, none⟩) (by first | (rw [add_block]; exact hn238_1) | (show (Addr.add _ _).block ≠ _; rw [add_block]; exact hn238_1) | exact hn238_1) (.int .i64 ((rd_T93 l0_1 (ji6)).f1))).trans hx238_0; replace hx238_0 := (cell_far (p := ⟨gb237, 2, none⟩) (by first | (rw [add_block]; exact hn238_2) | (show (Addr.add _ _).block ≠ _; rw [add_block]; exact hn238_2) | exact hn238_2) (.int .i64 ((rd_T93 l0_1 (ji6)).f2))).trans hx238_0; clear hn238_0 hn238_1 hn238_2; replace p238 := eq_true p238; replace q238 := eq_true q238))
         go_roundg k1
         case measure => have := HK1.out; omega
         case rel => exact ⟨((rd_T93 l0_1 (ji6)).f2), zhe_, H', ⟨zci_⟩, ⟨by refine zb ?_; refine blk_far ?_ NB235_237.out _; refine zb ?_; refine blk_far ?_ NB235_237.out _; refine zb ?_; refine blk_far ?_ NB235_237.out _; refine zb ?_; exact BK235.out⟩, ⟨by repeat (first | (with_reducible first | exact HB.out | apply pA | apply pN | apply p1 | refine below_set ?_ GE235.out | refine below_set ?_ GE237.out) | exact HB.out)⟩⟩
        ·rw [if_neg c11] at H
         have c11b0 := beq_eq_false_iff_ne.mpr c11; have c11b1 := bne_iff_ne.mpr c11; have H' := aM H; clear H; have hcz16_0 : wr.cell? ⟨gb235, 0, none⟩ = some (.int .i64 a0_0) := (blk_cell BK235.out 0).trans rfl; have hcz16_1 : wr.cell? ⟨gb235, 1, none⟩ = some (.slice A0_1 l0_1.length c0_1) := (blk_cell BK235.out 1).trans rfl; have hcz16_2 : wr.cell? ⟨gb235, 2, none⟩ = some (.int .i64 a0_2) := (blk_cell BK235.out 2).trans rfl; have hfz16_0 := blk_frozen BK235.out 0; have hfz16_1 := blk_frozen BK235.out 1; have hfz16_2 := blk_frozen BK235.out 2; have p236 : 0 ≤ ((ji6) : Int) := of_decide_eq_true zc_; have q236 : (ji6) < (l0_1.length : Int) := of_decide_eq_true zc_; obtain ⟨ad236, e236, hx236_0, hx236_1, hx236_2⟩ := at_T93 HR0_1.out (ji6) p236 q236
         cases e236
         (try (replace hx236_0 := (HB.out.cell (World.block_lt_of_cell? w _ hx236_0)).trans hx236_0)); (try (replace hx236_1 := (HB.out.cell (World.block_lt_of_cell? w _ hx236_1)).trans hx236_1)); (try (replace hx236_2 := (HB.out.cell (World.block_lt_of_cell? w _ hx236_2)).trans hx236_2)); replace p236 := eq_true p236; replace q236 := eq_true q236
         go_wp2_with (first | ((with_reducible refine gate_dst (N := 6) rfl ?_); refine box_event ?hg (N := 6) ?hd (cs := #[.int .i64 0, .int .i64 0, .int .i64 0]) (t := 93) ?hr ?_; (case hd => rfl); (case hg => rfl); (case hr => exact zb_); intro gb237 hg w17 hbox hb; have n_ := z (blk_below (zb BK235.out) hb) <| z (below_step zfc_ hb) <| z (hbox) <| z ((by rw [hg]; exact (below_size zfc_) : w.heap.size ≤ gb237)) <| z ((by rw [hg]; exact (below_size zfc_) : w.heap.size ≤ gb237)) <| z ((by rw [hg]; exact Nat.ne_of_lt (blk_lt (zb BK235.out)) : gb235 ≠ gb237)) <| z1 ((by rw [hg]; exact Nat.ne_of_gt (blk_lt (zb BK235.out)) : gb237 ≠ gb235)); clear BK235 HB; obtain ⟨BK235, HB, BK237, GW237, GE237, NB235_237, NB237_235⟩ := n_; clear hb hbox hg; have hnb18 := NB237_235.out; have hnc18 := NB235_237.out; have hcz19_0 : w17.cell? ⟨gb237, 0, none⟩ = some (.int .i64 0) := (blk_cell BK237.out 0).trans rfl; have hcz19_1 : w17.cell? ⟨gb237, 1, none⟩ = some (.int .i64 0) := (blk_cell BK237.out 1).trans rfl; have hcz19_2 : w17.cell? ⟨gb237, 2, none⟩ = some (.int .i64 0) := (blk_cell BK237.out 2).trans rfl; have hfz19_0 := blk_frozen BK237.out 0; have hfz19_1 := blk_frozen BK237.out 1; have hfz19_2 := blk_frozen BK237.out 2; have p238 : 0 ≤ (((rd_T93 l0_1 (ji6)).f0) : Int) := of_decide_eq_true zc_; have q238 : ((rd_T93 l0_1 (ji6)).f0) < (l1.length : Int) := of_decide_eq_true zc_; obtain ⟨ad238, e238, hx238_0⟩ := Kd.at_int HR1.out ((rd_T93 l0_1 (ji6)).f0) p238 q238; cases e238; have hn238_0 : ad238.block ≠ gb237 := Nat.ne_of_lt (Nat.lt_of_lt_of_le zgh_ GW237.out); have hn238_1 : ad238.block ≠ gb237 := Nat.ne_of_lt (Nat.lt_of_lt_of_le zgh_ GW237.out); have hn238_2 : ad238.block ≠ gb237 := Nat.ne_of_lt (Nat.lt_of_lt_of_le zgh_ GW237.out); replace hx238_0 := (HB.out.cell (World.block_lt_of_cell? w _ hx238_0)).trans hx238_0; replace hx238_0 := (cell_far (p := ⟨gb237, 0, none⟩) (by first | (rw [add_block]; exact hn238_0) | (show (Addr.add _ _).block ≠ _; rw [add_block]; exact hn238_0) | exact hn238_0) (.int .i64 ((rd_T93 l0_1 (ji6)).f0))).trans hx238_0; replace hx238_0 := (cell_far (p := ⟨gb237, 1, none⟩) (by first | (rw [add_block]; exact hn238_1) | (show (Addr.add _ _).block ≠ _; rw [add_block]; exact hn238_1) | exact hn238_1) (.int .i64 ((rd_T93 l0_1 (ji6)).f1))).trans hx238_0; replace hx238_0 := (cell_far (p := ⟨gb237, 2, none⟩) (by first | (rw [add_block]; exact hn238_2) | (show (Addr.add _ _).block ≠ _; rw [add_block]; exact hn238_2) | exact hn238_2) (.int .i64 ((rd_T93 l0_1 (ji6)).f2))).trans hx238_0; clear hn238_0 hn238_1 hn238_2; replace p238 := eq_true p238; replace q238 := eq_true q238))
         go_roundg k1
         case measure => have := HK1.out; omega
         case rel => exact ⟨((rd_T93 l0_1 (ji6)).f1), zhe_, H', ⟨zci_⟩, ⟨by refine zb ?_; refine blk_far ?_ NB235_237.out _; refine zb ?_; refine blk_far ?_ NB235_237.out _; refine zb ?_; refine blk_far ?_ NB235_237.out _; refine zb ?_; exact BK235.out⟩, ⟨by repeat (first | (with_reducible first | exact HB.out | apply pA | apply pN | apply p1 | refine below_set ?_ GE235.out | refine below_set ?_ GE237.out) | exact HB.out)⟩⟩
       ·rw [if_neg c10] at H
        exact absurd H (by simp)
      ·rw [if_neg c9] at H
       exact absurd H (by simp)
     ·rw [if_neg c8] at H
      exact absurd H (by simp)
    ·rw [if_neg c7] at H
     exact absurd H (by simp)
   ·rw [if_neg c5] at H
    have c5b0 : decide (1 < x5_1) = false := decide_eq_false c5; clear c5; obtain rfl := Option.some.inj H
    go_wp2
    go_ret
    exact ⟨zf_, zfc_⟩
def impl_bitList.l0 : Nat → Int → List Int → Int → Int → Option (List Int)
 | 0, _, _, _, _ => none
 | k + 1, x0, x5, x10, x11 => if x11 < x10 then (if 0 ≤ x11 then (if x11 < (x5.length : Int) then (impl_bitList.l0 k x0 (x5.set (x11 : Int).toNat (Go.bits .and .i64 (shr .i64 x0 x11) 1)) x10 (wrap64 (x11 + 1))) else (none)) else (none)) else (some x5)
def impl_bitList.f (k : Nat) (a0 : Int) (a1 : Int) : Option (List Int) := if 0 ≤ a1 then (if (a1 : Int).toNat ≤ 35184372088832 then ((some (List.replicate (a1 : Int).toNat 0 : List Int)).bind fun y239 => (impl_bitList.l0 k a0 y239 (y239.length : Int) 0)) else (none)) else (none)
theorem impl_bitList.mono_l : ∀ k, (∀ y0 y1 y2 y3, LeO (impl_bitList.l0 k y0 y1 y2 y3) (impl_bitList.l0 (k + 1) y0 y1 y2 y3))
 | 0 => fun _ _ _ _ r h => by simp [impl_bitList.l0] at h
 | k + 1 => by
  have ih0 := impl_bitList.mono_l k
  ·intro y0 y1 y2 y3
   unfold impl_bitList.l0
   repeat' first
   | (with_reducible exact ih0 _ _ _ _)
   | (with_reducible exact LeO.refl _)
   | (with_reducible exact LeO.none _)
   | (with_reducible refine LeO.ite ?_ ?_)
   | (with_reducible refine LeO.bind ?_ (fun _ => ?_))
   | exact ih0 _ _ _ _
   | exact LeO.none _
   | refine LeO.ite ?_ ?_
   | refine LeO.bind ?_ (fun _ => ?_)
theorem impl_bitList.mono : ∀ a0 a1 k, LeO (impl_bitList.f k a0 a1) (impl_bitList.f (k + 1) a0 a1) := by
 intro a0 a1 k
 have ih0 := impl_bitList.mono_l k
 unfold impl_bitList.f
 repeat' first
   | (with_reducible exact ih0 _ _ _ _)
   | (with_reducible exact LeO.refl _)
   | (with_reducible exact LeO.none _)
   | (with_reducible refine LeO.ite ?_ ?_)
   | (with_reducible refine LeO.bind ?_ (fun _ => ?_))
   | exact ih0 _ _ _ _
   | exact LeO.none _
   | refine LeO.ite ?_ ?_
   | refine LeO.bind ?_ (fun _ => ?_)
theorem impl_bitList.calls (k : Nat) (a0 : Int) (a1 : Int) (r : List Int) (w : World) (h : impl_bitList.f k a0 a1 = some r) :
  Calls Try.prog 108 #[.int .i64 a0, .int .i64 a1] w fun e w' => ∃ v0_ : Value, e = .returned (v0_) ∧ Kd.R (Kd.int .i64) 3 w' w.heap.size (fun _ => True) v0_ r ∧ Below w.heap.size w w' := by
 have HB := aM (Below.refl w.heap.size w)
 have H : (if 0 ≤ a1 then (if (a1 : Int).toNat ≤ 35184372088832 then ((some (List.replicate (a1 : Int).toNat 0 : List Int)).bind fun y239 => (impl_bitList.l0 k a0 y239 (y239.length : Int) 0)) else (none)) else (none)) = some r := h
 clear h
 by_cases c3 : 0 ≤ a1
 ·rw [if_pos c3] at H
  have c3b0 := eq_true c3; have c3b1 := decide_eq_true c3; clear c3
  by_cases c4 : (a1 : Int).toNat ≤ 35184372088832
  ·rw [if_pos c4] at H
   have c4b0 := eq_true c4; have c4b1 := decide_eq_true c4; clear c4; obtain ⟨y239, hy239⟩ : ∃ y_ : List Int, y_ = (List.replicate (a1 : Int).toNat 0) := ⟨_, rfl⟩; replace H : (impl_bitList.l0 k a0 y239 (y239.length : Int) 0) = some r := by first | (rw [hy239]; with_reducible exact H) | (have H2_ := (oS _ _).symm.trans H; rw [hy239]; with_reducible exact H2_) | (have H2_ := (oS _ _).symm.trans H; with_reducible exact H2_) | with_reducible exact H | (rw [hy239]; exact H) | exact H
   have Ny239 := aM hy239; clear hy239; have H' := aM H; clear H
   go_enter Try.func108, Try.ntmps108
   go_wp2_with (first | ((with_reducible refine gate_dst (N := 8) rfl ?_); refine Kd.R_make (Kd.int .i64) _ 3 rfl (N := 8) rfl 39 _ _ rfl a1 rfl rfl Try.underlying39 (.int .i64 0) 8 info3 rfl (by decide) (by omega) 0 (ok := fun _ => True) (okp := fun _ => True) rfl (fun _ hk => hk) trivial (of_decide_eq_true zc_) (Nat.le_trans (Nat.mul_le_mul_right _ (of_decide_eq_true zc_ : a1.toNat ≤ 35184372088832)) (by omega)) (Below.refl _ _) (Nat.le_refl _) ?_; intro v240 w5 ho6 hb hg_ hnew_; clear hg_ hnew_; (first | rw [← Ny239.out] at ho6 | (simp only [Int.reduceToNat] at ho6; rw [← Ny239.out] at ho6)); have n_ := z (Kd.R_lower ho6 (below_size za_)) <| z1 (below_step za_ hb); clear HB; obtain ⟨HO241, HB⟩ := n_; clear hb ho6; obtain ⟨Ao7, co7, eo7⟩ := Kd.R_slice HO241.out; subst eo7))
   go_loopg [11] k (fun kq v11 w' => ∃ (x5_1 : List Int) (x11_1 : Int), v11 = .int .i64 x11_1 ∧ Aside0 (impl_bitList.l0 kq a0 x5_1 (y239.length : Int) x11_1 = some r) ∧ Aside0 (kq ≤ k) ∧ Aside0 (Kd.R (Kd.int .i64) 3 w' w.heap.size (fun _ => True) (.slice Ao7 y239.length co7) x5_1) ∧ Aside0 (Below w.heap.size w w'))
   case atStart => exact ⟨(y239), (0), ze_, H', ⟨Nat.le_refl _⟩, ⟨zr HO241.out⟩, ⟨za_⟩⟩
   case round =>
    clear H'; (try clear c3b0); (try clear c3b1); (try clear c4b0); (try clear c4b1); obtain ⟨x5_1, x11_1, rfl, HA, HK1, HO_5, HB⟩ := hrel; have hl5_1 := (Kd.R_reads' HO_5.out).1; rw [hl5_1] at HO_5; (try simp only [hl5_1])
    cases gk with
    | zero => exact absurd HA.out (by simp [impl_bitList.l0])
    | succ k1 =>
     have H := HA.out; clear HA
     simp only [impl_bitList.l0] at H
     by_cases c8 : x11_1 < (y239.length : Int)
     ·rw [if_pos c8] at H
      have c8b0 := decide_eq_true c8; (try (have c8z0 := c8b0; rw [hl5_1] at c8z0)); clear c8
      by_cases c9 : 0 ≤ x11_1
      ·rw [if_pos c9] at H
       have c9b0 := eq_true c9; have c9b1 := decide_eq_true c9; clear c9; obtain ⟨ji10, hji10⟩ : ∃ j_ : Int, (shr .i64 a0 x11_1) = j_ := ⟨_, rfl⟩; replace H : (if x11_1 < (x5_1.length : Int) then (impl_bitList.l0 k1 a0 (x5_1.set (x11_1 : Int).toNat (Go.bits .and .i64 (ji10) 1)) (y239.length : Int) (wrap64 (x11_1 + 1))) else (none)) = some r := by first | (rw [hji10] at H; exact H) | (simp only [hji10] at H ⊢; exact H)
       have hji10_ : (a0 / 2 ^ min x11_1.toNat 64) = ji10 := hji10; have hji10z : x11_1 ≤ 64 → (a0 / 2 ^ x11_1.toNat) = ji10 := shr_small hji10
       by_cases c11 : x11_1 < (x5_1.length : Int)
       ·rw [if_pos c11] at H
        have c11b0 := decide_eq_true c11; (try (have c11z0 := c11b0; rw [hl5_1] at c11z0)); clear c11; obtain ⟨y242, hy242⟩ : ∃ y_ : List Int, y_ = (x5_1.set (x11_1 : Int).toNat (Go.bits .and .i64 (ji10) 1)) := ⟨_, rfl⟩; replace H : (impl_bitList.l0 k1 a0 y242 (y239.length : Int) (wrap64 (x11_1 + 1))) = some r := by first | (rw [hy242]; with_reducible exact H) | (have H2_ := (oS _ _).symm.trans H; rw [hy242]; with_reducible exact H2_) | (have H2_ := (oS _ _).symm.trans H; with_reducible exact H2_) | with_reducible exact H | (rw [hy242]; exact H) | exact H
        have Ny242 := aM hy242; clear hy242; have H' := aM H; clear H; have p12 : 0 ≤ (x11_1 : Int) := of_decide_eq_true zc_; have q12 : (x11_1 : Int) < ((x5_1.length : Int) : Int) := of_decide_eq_true zc_; obtain ⟨go12, co12, eo12, gb12, gl12, cl12, HG12⟩ := Kd.R_form HO_5.out (by omega); (first | cases eo12 | (injection eo12 with ea_ en_ ec_; (first | subst ea_ | (injection ea_ with ea_; subst ea_)); subst ec_; clear en_)); have GB12 := aM gb12; have GG12 := aM HG12; clear gb12 gl12 HG12; obtain ⟨hx12_0, hf12_0⟩ := Kd.R_celln 0 HO_5.out (x11_1 : Int) p12 q12; replace p12 := eq_true p12; replace q12 := eq_true q12; have HP13 := Kd.R_putg HO_5.out (x11_1 : Int) (Go.bits .and .i64 (ji10) 1)
        go_wp2_with (first | ((with_reducible refine gate_store (t := 3) (p := 20) rfl ?_); refine store_event (t := 3) (p := 20) (v := ?vo_w14) (w1 := (wr.setCell ⟨go12, (x11_1 : Int).toNat, none⟩ (.int .i64 (Go.bits .and .i64 (ji10) 1)))) ?hg ?ho ?hn ?hr ?_; (case ho => rfl); (case hg => rfl); (case hn => rfl); (case hr => exact zb_); intro w14 hw; have hg : wr.grownBy w14 (some go12) := (by rw [hw]; exact HP13.2); have hp_ : Kd.R (Kd.int .i64) 3 w14 w.heap.size (fun _ => True) (.slice (some ⟨go12, 0, none⟩) x5_1.length co7) y242 := (by rw [hw, Ny242.out]; exact HP13.1); clear HP13; have n_ := z (hp_) <| z1 ((by rw [hw]; exact below_set (HB.out) GB12.out : Below w.heap.size w w14)); clear HO_5 HB; obtain ⟨HO_5, HB⟩ := n_; clear hg hw hp_))
        (try simp only [← hl5_1])
        go_roundg k1
        case measure => have := HK1.out; omega
        case rel => exact ⟨(y242), (wrap64 (x11_1 + 1)), ze_, H', ⟨zci_⟩, ⟨by (try simp only [hl5_1]); refine zr ?_; exact HO_5.out⟩, ⟨za_⟩⟩
       ·rw [if_neg c11] at H
        exact absurd H (by simp)
      ·rw [if_neg c9] at H
       exact absurd H (by simp)
     ·rw [if_neg c8] at H
      have c8b0 := decide_eq_false c8; (try (have c8z0 := c8b0; rw [hl5_1] at c8z0)); clear c8; obtain rfl := Option.some.inj H
      go_wp2
      go_ret
      exact ⟨_, zf_, by refine zr ?_; exact HO_5.out, za_⟩
  ·rw [if_neg c4] at H
   exact absurd H (by simp)
 ·rw [if_neg c3] at H
  exact absurd H (by simp)
end Go.Proofs.Ytlnhpkjioppbiaa.QFnExactCombineDiagrams
