/- Functions of FnLeastSums, each as a Lean function, with the proof that the Go code comes to its answers. -/
import Derived.Test.YtbkighlfgaifeaaSFnLeastSumsx0
import Derived.Test.YtbkighlfgaifeaaSFnLeastSumsx2
import Derived.Test.YtbkighlfgaifeaaSFnLeastSumsx3
namespace Go.Proofs.Ytbkighlfgaifeaa.QFnLeastSums
open Go.RowKit Go.Proofs.YtbkighlfgaifeaaW.PrintWords Go.Proofs.YtbkighlfgaifeaaW.PrintLast Go.Proofs.YtbkighlfgaifeaaW.PrintMore
open Go.Proofs.YtbkighlfgaifeaaW.PrintWords renaming pw_below_drewN → pN, below_drew1 → p1, below_alloc → pA
open Go.Proofs.YtbkighlfgaifeaaW.PrintWords.Kd renaming R_alloc → kA, R_drewN → kN, R_drew → kD, Q_alloc → qA, Q_drewN → qN, Q_drew → qD, C_alloc → cA, C_drewN → cN, C_drew → cD
open Go.Proofs.YtbkighlfgaifeaaW.PrintWords.Aside0 renaming mk → aM
open List renaming setIfInBounds_toArray → sI, set_cons_zero → s0, set_cons_succ → sS, map_toArray → mT, length_take → lT, length_drop → lD, map_cons → mC, map_nil → mN
open Option renaming bind_eq_some_iff → oB, bind_some → oS
attribute [local go_sem] max2_int min2_int max_two min_two max_three min_three max_four min_four
set_option maxHeartbeats 8000000
set_option maxRecDepth 100000
set_option linter.unusedVariables false
set_option linter.unusedSimpArgs false
mutual
def spec_EssentialTerms.l0 : Nat → List Int → List (S72) → List (S72) → Int → Int → Option ((List (S72)) × Bool)
 | 0, _, _, _, _, _ => none
 | k + 1, x5, x6, x20, x21, x22 => if x22 < x21 then (if 0 ≤ x22 then (if x22 < (x20.length : Int) then (spec_EssentialTerms.l1 k x5 x6 x22 0 x20 x21 x22 x5 (x5.length : Int) 0 ((rd_T72 x20 x22).f0) ((rd_T72 x20 x22).f1)) else (none)) else (none)) else (some (x6, true))
def spec_EssentialTerms.l1 : Nat → List Int → List (S72) → Int → Int → List (S72) → Int → Int → List Int → Int → Int → Int → Int → Option ((List (S72)) × Bool)
 | 0, _, _, _, _, _, _, _, _, _, _, _, _ => none
 | k + 1, x5, x6, x7, x9, x20, x21, x22, x27, x28, x29, x152000, x152001 => if x29 < x28 then (if 0 ≤ x29 then (if x29 < (x27.length : Int) then (if x29 = x7 then (spec_EssentialTerms.l1 k x5 x6 x7 x9 x20 x21 x22 x27 x28 (wrap64 (x29 + 1)) x152000 x152001) else (spec_EssentialTerms.l1 k x5 x6 x7 (Go.bits .or .i64 x9 (rd x27 x29)) x20 x21 x22 x27 x28 (wrap64 (x29 + 1)) x152000 x152001)) else (none)) else (none)) else (if 0 ≤ x7 then (if x7 < (x5.length : Int) then (if (Go.bits .andNot .i64 (rd x5 x7) x9) = 0 then (spec_EssentialTerms.l0 k x5 x6 x20 x21 (wrap64 (x22 + 1))) else (if x6.length < 8796093022208 then (spec_EssentialTerms.l0 k x5 (x6 ++ [(⟨x152000, x152001⟩ : S72)]) x20 x21 (wrap64 (x22 + 1))) else (none))) else (none)) else (none))
end
def spec_EssentialTerms.f (k : Nat) (a0_0 : Int) (l0_1 : List Int) : Option ((List (S72)) × Bool) := (spec_ttGood.f k a0_0 l0_1).bind fun t143 => (if t143 = true then ((spec_nfPrimes.f k a0_0 l0_1).bind fun t144 => ((spec_nfCovers.f k a0_0 l0_1 t144).bind fun t147 => (spec_EssentialTerms.l0 k t147 ([] : List (S72)) t144 (t144.length : Int) 0))) else (some (([] : List (S72)), false)))
theorem spec_EssentialTerms.calls (k : Nat) (a0_0 : Int) (A0_1 : Option Addr) (c0_1 : Nat) (l0_1 : List Int) (r1 : List (S72)) (r2 : Bool) (w : World) (hr0_1 : Kd.C (Kd.int .i64) w A0_1 l0_1.length l0_1) (hc0_1 : l0_1.length ≤ c0_1) (h : spec_EssentialTerms.f k a0_0 l0_1 = some (r1, r2)) :
  Calls Try.prog 47 #[.agg #[.int .i64 a0_0, .slice A0_1 l0_1.length c0_1]] w fun e w' => ∃ v0_ : Value, e = .returned (.tuple #[v0_, .bool r2]) ∧ Kd.R k72 72 w' w.heap.size (fun _ => True) v0_ r1 ∧ Below w.heap.size w w' := by
 have hu60 := Try.underlying60
 have hu72 := Try.underlying72
 have HR0_1 := aM hr0_1
 have HC0_1 := aM hc0_1
 clear hr0_1 hc0_1
 have HB := aM (Below.refl w.heap.size w)
 have H : ((spec_ttGood.f k a0_0 l0_1).bind fun t143 => (if t143 = true then ((spec_nfPrimes.f k a0_0 l0_1).bind fun t144 => ((spec_nfCovers.f k a0_0 l0_1 t144).bind fun t147 => (spec_EssentialTerms.l0 k t147 ([] : List (S72)) t144 (t144.length : Int) 0))) else (some (([] : List (S72)), false)))) = some (r1, r2) := h
 clear h
 replace H := oB.mp H
 obtain ⟨t143, A20, H⟩ := H
 replace H : (if t143 = true then ((spec_nfPrimes.f k a0_0 l0_1).bind fun t144 => ((spec_nfCovers.f k a0_0 l0_1 t144).bind fun t147 => (spec_EssentialTerms.l0 k t147 ([] : List (S72)) t144 (t144.length : Int) 0))) else (some (([] : List (S72)), false))) = some (r1, r2) := H
 have A2 := aM A20
 clear A20
 by_cases c3 : t143 = true
 ·subst c3
  have H1 : ((spec_nfPrimes.f k a0_0 l0_1).bind fun t144 => ((spec_nfCovers.f k a0_0 l0_1 t144).bind fun t147 => (spec_EssentialTerms.l0 k t147 ([] : List (S72)) t144 (t144.length : Int) 0))) = some (r1, r2) := by rw [if_pos rfl] at H; exact H
  clear H; have H := H1; clear H1; replace H := oB.mp H; obtain ⟨t144, A40, H⟩ := H; replace H : ((spec_nfCovers.f k a0_0 l0_1 t144).bind fun t147 => (spec_EssentialTerms.l0 k t147 ([] : List (S72)) t144 (t144.length : Int) 0)) = some (r1, r2) := H; have A4 := aM A40; clear A40; replace H := oB.mp H; obtain ⟨t147, A50, H⟩ := H; replace H : (spec_EssentialTerms.l0 k t147 ([] : List (S72)) t144 (t144.length : Int) 0) = some (r1, r2) := H; have A5 := aM A50; clear A50; have H' := aM H; clear H
  go_enter Try.func47, Try.ntmps47
  go_wp2_with (first | ((with_reducible refine gate_dst (N := 1) rfl ?_); refine box_event ?hg (N := 1) ?hd (cs := #[.int .i64 a0_0, .slice A0_1 l0_1.length c0_1]) (t := 60) ?hr ?_; (case hd => rfl); (case hg => rfl); (case hr => exact zc_); intro gb142 hg w6 hbox hb; have n_ := z (below_step za_ hb) <| z (hbox) <| z ((by rw [hg]; exact (below_size za_) : w.heap.size ≤ gb142)) <| z1 ((by rw [hg]; exact (below_size za_) : w.heap.size ≤ gb142)); clear HB; obtain ⟨HB, BK142, GW142, GE142⟩ := n_; clear hb hbox hg; have hcz7_0 : w6.cell? ⟨gb142, 0, none⟩ = some (.int .i64 a0_0) := (blk_cell BK142.out 0).trans rfl; have hcz7_1 : w6.cell? ⟨gb142, 1, none⟩ = some (.slice A0_1 l0_1.length c0_1) := (blk_cell BK142.out 1).trans rfl; have hfz7_0 := blk_frozen BK142.out 0; have hfz7_1 := blk_frozen BK142.out 1) | ((with_reducible refine gate_callee (f := 131) rfl ?_); refine goesL_ (some 13) rfl rfl Try.func131 (by kernel_rfl) rfl #[.agg #[.int .i64 a0_0, .slice A0_1 l0_1.length c0_1]] rfl ze_ ?_; (with_reducible refine (spec_ttGood.calls k a0_0 _ _ l0_1 true _ ?side1 ?side2 A2.out).mono ?_); (case side1 => exact zi_); (case side2 => exact HC0_1.out); rintro e w8 ⟨rfl, hb⟩; refine ⟨_, rfl, ?_⟩; have n_ := z (blk_below (zb BK142.out) hb) <| z1 (below_step zdg_ hb); clear BK142 HB; obtain ⟨BK142, HB⟩ := n_; clear hb; have hcz9_0 : w8.cell? ⟨gb142, 0, none⟩ = some (.int .i64 a0_0) := (blk_cell BK142.out 0).trans rfl; have hcz9_1 : w8.cell? ⟨gb142, 1, none⟩ = some (.slice A0_1 l0_1.length c0_1) := (blk_cell BK142.out 1).trans rfl; have hfz9_0 := blk_frozen BK142.out 0; have hfz9_1 := blk_frozen BK142.out 1) | ((with_reducible refine gate_callee (f := 132) rfl ?_); refine goesL_ (some 16) rfl rfl Try.func132 (by kernel_rfl) rfl #[.agg #[.int .i64 a0_0, .slice A0_1 l0_1.length c0_1]] rfl ze_ ?_; (with_reducible refine (spec_nfPrimes.calls k a0_0 _ _ l0_1 t144 _ ?side1 ?side2 A4.out).mono ?_); (case side1 => exact zi_); (case side2 => exact HC0_1.out); rintro e w10 ⟨v145, rfl, ho0, hb⟩; refine ⟨_, rfl, ?_⟩; have n_ := z (Kd.R_lower ho0 (below_size zdg_)) <| z (blk_below (zb BK142.out) hb) <| z1 (below_step zdg_ hb); clear BK142 HB; obtain ⟨HO146, BK142, HB⟩ := n_; clear hb; (try clear ho0); have hcz11_0 : w10.cell? ⟨gb142, 0, none⟩ = some (.int .i64 a0_0) := (blk_cell BK142.out 0).trans rfl; have hcz11_1 : w10.cell? ⟨gb142, 1, none⟩ = some (.slice A0_1 l0_1.length c0_1) := (blk_cell BK142.out 1).trans rfl; have hfz11_0 := blk_frozen BK142.out 0; have hfz11_1 := blk_frozen BK142.out 1; obtain ⟨Ao12, co12, eo12⟩ := Kd.R_slice HO146.out; subst eo12) | ((with_reducible refine gate_callee (f := 133) rfl ?_); refine goesL_ (some 19) rfl rfl Try.func133 (by kernel_rfl) rfl #[.agg #[.int .i64 a0_0, .slice A0_1 l0_1.length c0_1], .slice Ao12 t144.length co12] rfl ze_ ?_; (with_reducible refine (spec_nfCovers.calls k a0_0 _ _ l0_1 _ _ t144 t147 _ ?side1 ?side2 ?side3 ?side4 A5.out).mono ?_); (case side1 => exact zi_); (case side2 => exact HC0_1.out); (case side3 => repeat (first | exact (Kd.R_reads' HO146.out).2.2 | (with_reducible refine cA ?_ _) | (with_reducible refine cN ?_ _) | (with_reducible refine cD ?_))); (case side4 => exact (Kd.R_reads' HO146.out).2.1); rintro e w13 ⟨v148, rfl, ho0, hb⟩; refine ⟨_, rfl, ?_⟩; have n_ := z (Kd.R_below (zr HO146.out) hb) <| z (Kd.R_lower ho0 (below_size zdg_)) <| z (blk_below (zb BK142.out) hb) <| z1 (below_step zdg_ hb); clear HO146 BK142 HB; obtain ⟨HO146, HO149, BK142, HB⟩ := n_; clear hb; (try clear ho0)))
  go_loopg [6, 22] k (fun kq v6 v22 w' => ∃ (x6_1 : List (S72)) (x22_1 : Int), v22 = .int .i64 x22_1 ∧ Aside0 (spec_EssentialTerms.l0 kq t147 x6_1 t144 (t144.length : Int) x22_1 = some (r1, r2)) ∧ Aside0 (kq ≤ k) ∧ Aside0 (Kd.R (Kd.int .i64) 3 w' w.heap.size (fun _ => True) v148 t147) ∧ Aside0 (Kd.R k72 72 w' w.heap.size (fun k_ => some k_ ≠ ((.slice Ao12 t144.length co12) : Value).ownBlock) v6 x6_1) ∧ Aside0 (Kd.R k72 72 w' w.heap.size (fun k_ => some k_ ≠ (v6 : Value).ownBlock) (.slice Ao12 t144.length co12) t144) ∧ Aside0 (w'.heap[gb142]? = some (.cells #[.int .i64 a0_0, (.slice A0_1 l0_1.length c0_1)] 60 (0, 0))) ∧ Aside0 (Below w.heap.size w w'))
  case atStart => exact ⟨(([] : List (S72))), (0), zb_, H', ⟨Nat.le_refl _⟩, ⟨zr HO149.out⟩, ⟨zbi_⟩, ⟨by refine zr ?_; exact Kd.R_mono HO146.out (fun _ hk => (by simp [Value.ownBlock]))⟩, ⟨zb BK142.out⟩, ⟨zdg_⟩⟩
  case round =>
   clear H'; (try clear hcz11_0); (try clear hcz11_1); (try clear hcz7_0); (try clear hcz7_1); (try clear hcz9_0); (try clear hcz9_1); (try clear hfz11_0); (try clear hfz11_1); (try clear hfz7_0); (try clear hfz7_1); (try clear hfz9_0); (try clear hfz9_1); obtain ⟨x6_1, x22_1, rfl, HA, HK1, HO_5, HO_6, HO_20, BK142, HB⟩ := hrel
   cases gk with
   | zero => exact absurd HA.out (by simp [spec_EssentialTerms.l0])
   | succ k1 =>
    have H := HA.out; clear HA
    simp only [spec_EssentialTerms.l0] at H
    by_cases c14 : x22_1 < (t144.length : Int)
    ·rw [if_pos c14] at H
     have c14b0 := decide_eq_true c14; clear c14
     by_cases c15 : 0 ≤ x22_1
     ·rw [if_pos c15] at H
      have c15b0 := decide_eq_true c15; clear c15
      by_cases c16 : x22_1 < (t144.length : Int)
      ·rw [if_pos c16] at H
       have c16b0 := decide_eq_true c16; clear c16; have H' := aM H; clear H; have p150 : 0 ≤ (x22_1 : Int) := of_decide_eq_true zd_; have q150 : x22_1 < (t144.length : Int) := of_decide_eq_true zd_; obtain ⟨ad150, e150, hx150_0, hx150_1⟩ := at_T72 (Kd.R_reads' HO_20.out).2.2 x22_1 p150 q150
       cases e150
       replace p150 := eq_true p150; replace q150 := eq_true q150
       go_wp2_with (first | ((with_reducible refine gate_dst (N := 8) rfl ?_); refine box_event ?hg (N := 8) ?hd (cs := #[.int .i64 0, .int .i64 0]) (t := 72) ?hr ?_; (case hd => rfl); (case hg => rfl); (case hr => exact zc_); intro gb151 hg w17 hbox hb; have n_ := z (Kd.R_below (zr HO_5.out) hb) <| z (Kd.R_below (Kd.R_elderB (zr HO_6.out) gb151 (Nat.le_of_eq hg.symm)) hb) <| z (Kd.R_below (Kd.R_elderB (zr HO_20.out) gb151 (Nat.le_of_eq hg.symm)) hb) <| z (blk_below (zb BK142.out) hb) <| z (below_step zdg_ hb) <| z (hbox) <| z ((by rw [hg]; exact (below_size zdg_) : w.heap.size ≤ gb151)) <| z ((by rw [hg]; exact (below_size zdg_) : w.heap.size ≤ gb151)) <| z ((by rw [hg]; exact Nat.ne_of_lt (blk_lt (zb BK142.out)) : gb142 ≠ gb151)) <| z1 ((by rw [hg]; exact Nat.ne_of_gt (blk_lt (zb BK142.out)) : gb151 ≠ gb142)); clear HO_5 HO_6 HO_20 BK142 HB; obtain ⟨HO_5, HO_6, HO_20, BK142, HB, BK151, GW151, GE151, NB142_151, NB151_142⟩ := n_; clear hb hbox hg; have hnb18 := NB151_142.out; have hnc18 := NB142_151.out; have hcz19_0 : w17.cell? ⟨gb151, 0, none⟩ = some (.int .i64 0) := (blk_cell BK151.out 0).trans rfl; have hcz19_1 : w17.cell? ⟨gb151, 1, none⟩ = some (.int .i64 0) := (blk_cell BK151.out 1).trans rfl; have hfz19_0 := blk_frozen BK151.out 0; have hfz19_1 := blk_frozen BK151.out 1; obtain ⟨Ao20, co20, eo20⟩ := Kd.R_slice HO_5.out; subst eo20))
       go_loopg [9, 29] k1 (fun kq v9 v29 w' => ∃ (x9_2 : Int) (x29_2 : Int), v9 = .int .i64 x9_2 ∧ v29 = .int .i64 x29_2 ∧ Aside0 (spec_EssentialTerms.l1 kq t147 x6_1 x22_1 x9_2 t144 (t144.length : Int) x22_1 t147 (t147.length : Int) x29_2 ((rd_T72 t144 x22_1).f0) ((rd_T72 t144 x22_1).f1) = some (r1, r2)) ∧ Aside0 (kq ≤ k1) ∧ Aside0 (Kd.R (Kd.int .i64) 3 w' w.heap.size (fun _ => True) (.slice Ao20 t147.length co20) t147) ∧ Aside0 (Kd.R k72 72 w' w.heap.size (fun k_ => some k_ ≠ ((.slice (some ad150) t144.length co12) : Value).ownBlock ∧ k_ ≠ gb151) u6 x6_1) ∧ Aside0 (Kd.R k72 72 w' w.heap.size (fun k_ => some k_ ≠ (u6 : Value).ownBlock ∧ k_ ≠ gb151) (.slice (some ad150) t144.length co12) t144) ∧ Aside0 (Kd.R (Kd.int .i64) 3 w' w.heap.size (fun _ => True) (.slice Ao20 t147.length co20) t147) ∧ Aside0 (w'.heap[gb142]? = some (.cells #[.int .i64 a0_0, (.slice A0_1 l0_1.length c0_1)] 60 (0, 0))) ∧ Aside0 (w'.heap[gb151]? = some (.cells #[.int .i64 ((rd_T72 t144 x22_1).f0), .int .i64 ((rd_T72 t144 x22_1).f1)] 72 (0, 0))) ∧ Aside0 (Below w.heap.size w w'))
       case atStart => exact ⟨(0), (0), zb_, zb_, H', ⟨Nat.le_refl _⟩, ⟨by refine zr ?_; exact Kd.R_mono (Kd.R_far (p := ⟨gb151, 1, none⟩) (Kd.R_far (p := ⟨gb151, 0, none⟩) (Kd.R_types HO_5.out BK151.out (by decide)) (fun _ hk => hk.2) (.int .i64 ((rd_T72 t144 x22_1).f0))) (fun _ hk => hk.2) (.int .i64 ((rd_T72 t144 x22_1).f1))) (fun _ hk => trivial)⟩, ⟨by refine zr ?_; exact Kd.R_mono (Kd.R_far (p := ⟨gb151, 1, none⟩) (Kd.R_far (p := ⟨gb151, 0, none⟩) (Kd.R_mono HO_6.out (fun k_ hk => (⟨hk, hk.2⟩ : _ ∧ k_ ≠ gb151))) (fun _ hk => hk.2) (.int .i64 ((rd_T72 t144 x22_1).f0))) (fun _ hk => hk.2) (.int .i64 ((rd_T72 t144 x22_1).f1))) (fun _ hk => ⟨hk.1.1, hk.1.2⟩)⟩, ⟨by refine zr ?_; exact Kd.R_mono (Kd.R_far (p := ⟨gb151, 1, none⟩) (Kd.R_far (p := ⟨gb151, 0, none⟩) (Kd.R_mono HO_20.out (fun k_ hk => (⟨hk, hk.2⟩ : _ ∧ k_ ≠ gb151))) (fun _ hk => hk.2) (.int .i64 ((rd_T72 t144 x22_1).f0))) (fun _ hk => hk.2) (.int .i64 ((rd_T72 t144 x22_1).f1))) (fun _ hk => ⟨hk.1.1, hk.1.2⟩)⟩, ⟨by refine zr ?_; exact Kd.R_mono (Kd.R_far (p := ⟨gb151, 1, none⟩) (Kd.R_far (p := ⟨gb151, 0, none⟩) (Kd.R_types HO_5.out BK151.out (by decide)) (fun _ hk => hk.2) (.int .i64 ((rd_T72 t144 x22_1).f0))) (fun _ hk => hk.2) (.int .i64 ((rd_T72 t144 x22_1).f1))) (fun _ hk => trivial)⟩, ⟨by refine zb ?_; refine blk_far ?_ NB142_151.out _; refine zb ?_; refine blk_far ?_ NB142_151.out _; refine zb ?_; exact BK142.out⟩, ⟨by refine zb ?_; refine blk_put (cs := #[.int .i64 ((rd_T72 t144 x22_1).f0), .int .i64 0]) ?_ 1 _ rfl; refine zb ?_; refine blk_put (cs := #[.int .i64 0, .int .i64 0]) ?_ 0 _ rfl; refine zb ?_; exact BK151.out⟩, ⟨zff_⟩⟩
       case round =>
        clear H'; (try clear c14b0); (try clear c15b0); (try clear c16b0); (try clear hcz19_0); (try clear hcz19_1); (try clear hfz19_0); (try clear hfz19_1); (try clear hx150_0); (try clear hx150_1); (try clear p150); (try clear q150); obtain ⟨x9_2, x29_2, rfl, rfl, HA, HK2, HO_5, HO_6, HO_20, HO_27, BK142, BK151, HB⟩ := hrel
        cases gk with
        | zero => exact absurd HA.out (by simp [spec_EssentialTerms.l1])
        | succ k2 =>
         have H := HA.out; clear HA
         simp only [spec_EssentialTerms.l1] at H
         by_cases c21 : x29_2 < (t147.length : Int)
         ·rw [if_pos c21] at H
          have c21b0 := decide_eq_true c21; clear c21
          by_cases c22 : 0 ≤ x29_2
          ·rw [if_pos c22] at H
           have c22b0 := decide_eq_true c22; clear c22
           by_cases c23 : x29_2 < (t147.length : Int)
           ·rw [if_pos c23] at H
            have c23b0 := decide_eq_true c23; clear c23
            by_cases c24 : x29_2 = x22_1
            ·rw [if_pos c24] at H
             have c24b0 := beq_iff_eq.mpr c24; have c24b1 := bne_eq_false_iff_eq.mpr c24; clear c24; have H' := aM H; clear H; have p152 : 0 ≤ (x29_2 : Int) := of_decide_eq_true zd_; have q152 : x29_2 < (t147.length : Int) := of_decide_eq_true zd_; obtain ⟨ad152, e152, hx152_0⟩ := Kd.at_int (Kd.R_reads' HO_27.out).2.2 x29_2 p152 q152
             cases e152
             replace p152 := eq_true p152; replace q152 := eq_true q152
             go_wp2
             go_roundg k2
             case measure => have := HK1.out; have := HK2.out; omega
             case rel => exact ⟨(x9_2), (wrap64 (x29_2 + 1)), zb_, zb_, H', ⟨zci_⟩, ⟨zr HO_5.out⟩, ⟨zr HO_6.out⟩, ⟨zr HO_20.out⟩, ⟨zr HO_27.out⟩, ⟨zb BK142.out⟩, ⟨zb BK151.out⟩, ⟨zff_⟩⟩
            ·rw [if_neg c24] at H
             have c24b0 := beq_eq_false_iff_ne.mpr c24; have c24b1 := bne_iff_ne.mpr c24; have H' := aM H; clear H; have p152 : 0 ≤ (x29_2 : Int) := of_decide_eq_true zd_; have q152 : x29_2 < (t147.length : Int) := of_decide_eq_true zd_; obtain ⟨ad152, e152, hx152_0⟩ := Kd.at_int (Kd.R_reads' HO_27.out).2.2 x29_2 p152 q152
             cases e152
             replace p152 := eq_true p152; replace q152 := eq_true q152
             go_wp2
             go_roundg k2
             case measure => have := HK1.out; have := HK2.out; omega
             case rel => exact ⟨(Go.bits .or .i64 x9_2 (rd t147 x29_2)), (wrap64 (x29_2 + 1)), zb_, zb_, H', ⟨zci_⟩, ⟨zr HO_5.out⟩, ⟨zr HO_6.out⟩, ⟨zr HO_20.out⟩, ⟨zr HO_27.out⟩, ⟨zb BK142.out⟩, ⟨zb BK151.out⟩, ⟨zff_⟩⟩
           ·rw [if_neg c23] at H
            exact absurd H (by simp)
          ·rw [if_neg c22] at H
           exact absurd H (by simp)
         ·rw [if_neg c21] at H
          have c21b0 := decide_eq_false c21; clear c21
          by_cases c25 : 0 ≤ x22_1
          ·rw [if_pos c25] at H
           have c25b0 := decide_eq_true c25; clear c25
           by_cases c26 : x22_1 < (t147.length : Int)
           ·rw [if_pos c26] at H
            have c26b0 := decide_eq_true c26; clear c26
            by_cases c27 : (Go.bits .andNot .i64 (rd t147 x22_1) x9_2) = 0
            ·rw [if_pos c27] at H
             have c27b0 := beq_iff_eq.mpr c27; have c27b1 := bne_eq_false_iff_eq.mpr c27; clear c27; have H' := aM H; clear H; have p153 : 0 ≤ (x22_1 : Int) := of_decide_eq_true zd_; have q153 : x22_1 < (t147.length : Int) := of_decide_eq_true zd_; obtain ⟨ad153, e153, hx153_0⟩ := Kd.at_int (Kd.R_reads' HO_5.out).2.2 x22_1 p153 q153
             cases e153
             replace p153 := eq_true p153; replace q153 := eq_true q153
             go_wp2
             go_roundg k2
             case measure => have := HK1.out; have := HK2.out; omega
             case rel => exact ⟨(x6_1), (wrap64 (x22_1 + 1)), zb_, H', ⟨zci_⟩, ⟨zr HO_5.out⟩, ⟨by refine zr ?_; exact Kd.R_mono HO_6.out (fun _ hk => hk.1)⟩, ⟨by refine zr ?_; exact Kd.R_mono HO_20.out (fun _ hk => hk.1)⟩, ⟨zb BK142.out⟩, ⟨zff_⟩⟩
            ·rw [if_neg c27] at H
             have c27b0 := beq_eq_false_iff_ne.mpr c27; have c27b1 := bne_iff_ne.mpr c27
             by_cases c28 : x6_1.length < 8796093022208
             ·rw [if_pos c28] at H
              have LMc28 := aM c28; clear c28; obtain ⟨y154, hy154⟩ : ∃ y_ : List (S72), y_ = (x6_1 ++ [(⟨((rd_T72 t144 x22_1).f0), ((rd_T72 t144 x22_1).f1)⟩ : S72)]) := ⟨_, rfl⟩; replace H : (spec_EssentialTerms.l0 k2 t147 y154 t144 (t144.length : Int) (wrap64 (x22_1 + 1))) = some (r1, r2) := by first | (rw [hy154]; with_reducible exact H) | (have H2_ := (oS _ _).symm.trans H; rw [hy154]; with_reducible exact H2_) | (have H2_ := (oS _ _).symm.trans H; with_reducible exact H2_) | with_reducible exact H | (rw [hy154]; exact H) | exact H
              have Ny154 := aM hy154; clear hy154; have H' := aM H; clear H; have p153 : 0 ≤ (x22_1 : Int) := of_decide_eq_true zd_; have q153 : x22_1 < (t147.length : Int) := of_decide_eq_true zd_; obtain ⟨ad153, e153, hx153_0⟩ := Kd.at_int (Kd.R_reads' HO_5.out).2.2 x22_1 p153 q153
              cases e153
              replace p153 := eq_true p153; replace q153 := eq_true q153; have hnb29 := NB151_142.out; have hnc29 := NB142_151.out; have hcz30_0 : wr.cell? ⟨gb151, 0, none⟩ = some (.int .i64 ((rd_T72 t144 x22_1).f0)) := (blk_cell BK151.out 0).trans rfl; have hcz30_1 : wr.cell? ⟨gb151, 1, none⟩ = some (.int .i64 ((rd_T72 t144 x22_1).f1)) := (blk_cell BK151.out 1).trans rfl; have hfz30_0 := blk_frozen BK151.out 0; have hfz30_1 := blk_frozen BK151.out 1
              go_wp2_with (first | ((with_reducible refine gate_builtin (b := .append) (xs := #[.tmp 48, .tmp 50]) rfl ?_); at_builtin; refine Kd.R_append k72 (w0 := w) w.heap.size rfl (.tmp 48) (.tmp 50) 68 72 (.agg #[(.int .i64 0), (.int .i64 0)]) 16 rfl Try.underlying68 info72 rfl (by decide) (by omega) u6 x6_1 (⟨((rd_T72 t144 x22_1).f0), ((rd_T72 t144 x22_1).f1)⟩ : S72) [.int .i64 ((rd_T72 t144 x22_1).f0), .int .i64 ((rd_T72 t144 x22_1).f1)] (fun k_ => some k_ ≠ (.slice (some ad150) t144.length co12 : Value).ownBlock ∧ k_ ≠ gb151) (fun _ => False) rfl rfl ?aP (fun _ hk => hk.elim) ?aF ?aO ?aB ?aS ?aL ?_; (case aP => exact k72_mkM _ _ _ (⟨((rd_T72 t144 x22_1).f0), ((rd_T72 t144 x22_1).f1)⟩ : S72)); (case aB => exact zff_); (case aF => exact (fun k_ hk => ⟨Kd.fresh' (Kd.R_lt (zr HO_20.out)) k_ hk, Kd.freshB (g := gb151) (o := .cells #[.int .i64 ((rd_T72 t144 x22_1).f0), .int .i64 ((rd_T72 t144 x22_1).f1)] 72 (0, 0)) (zb BK151.out) k_ hk⟩)); (case aO => exact (zr HO_6.out)); (case aS => exact (below_size zff_)); (case aL => have := LMc28.out; omega); intro v155 w31 ho hb hg hat; rw [← Ny154.out] at ho; have n_ := z (Kd.R_over' (zr HO_5.out) (Kd.R_typed (zr HO_6.out)) (by decide) hg) <| z (Kd.R_after (ok := (fun k_ => k_ ≠ gb151)) (by refine zr ?_; exact Kd.R_mono HO_20.out (fun _ hk => ⟨hk.2, hk.1⟩)) hg hat) <| z (Kd.R_over' (zr HO_27.out) (Kd.R_typed (zr HO_6.out)) (by decide) hg) <| z (blk_grown (g := gb142) (o := .cells #[.int .i64 a0_0, .slice A0_1 l0_1.length c0_1] 60 (0, 0)) (zb BK142.out) hg (Kd.R_ne HO_6.out BK142.out (by decide))) <| z (blk_grown (g := gb151) (o := .cells #[.int .i64 ((rd_T72 t144 x22_1).f0), .int .i64 ((rd_T72 t144 x22_1).f1)] 72 (0, 0)) (zb BK151.out) hg (Kd.R_away HO_6.out (fun _ hk => hk.2))) <| z (hb) <| z1 (ho); clear HO_5 HO_20 HO_27 BK142 BK151 HB HO_6; obtain ⟨HO_5, HO_20, HO_27, BK142, BK151, HB, HO156⟩ := n_; clear ho hb hg hat))
              go_roundg k2
              case measure => have := HK1.out; have := HK2.out; omega
              case rel => exact ⟨(y154), (wrap64 (x22_1 + 1)), zb_, H', ⟨zci_⟩, ⟨zr HO_5.out⟩, ⟨by refine zr ?_; exact Kd.R_mono HO156.out (fun _ hk => hk.1)⟩, ⟨by refine zr ?_; exact Kd.R_mono HO_20.out (fun _ hk => hk.2)⟩, ⟨zb BK142.out⟩, ⟨zff_⟩⟩
             ·rw [if_neg c28] at H
              exact absurd H (by simp)
           ·rw [if_neg c26] at H
            exact absurd H (by simp)
          ·rw [if_neg c25] at H
           exact absurd H (by simp)
      ·rw [if_neg c16] at H
       exact absurd H (by simp)
     ·rw [if_neg c15] at H
      exact absurd H (by simp)
    ·rw [if_neg c14] at H
     have c14b0 := decide_eq_false c14; clear c14
     simp only [Option.some.injEq, Prod.mk.injEq] at H
     obtain ⟨rfl, rfl⟩ := H
     go_wp2
     go_ret2
     exact ⟨_, zf_, by refine zr ?_; exact Kd.R_mono HO_6.out (fun _ hk => trivial), zdg_⟩
 ·replace c3 := Bool.eq_false_iff.mpr c3
  subst c3; have H1 : (some (([] : List (S72)), false)) = some (r1, r2) := by rw [if_neg (show ¬ (false = true) by decide)] at H; exact H
  clear H; have H := H1; clear H1
  simp only [Option.some.injEq, Prod.mk.injEq] at H
  obtain ⟨rfl, rfl⟩ := H
  go_enter Try.func47, Try.ntmps47
  go_wp2_with (first | ((with_reducible refine gate_dst (N := 1) rfl ?_); refine box_event ?hg (N := 1) ?hd (cs := #[.int .i64 a0_0, .slice A0_1 l0_1.length c0_1]) (t := 60) ?hr ?_; (case hd => rfl); (case hg => rfl); (case hr => exact zc_); intro gb142 hg w32 hbox hb; have n_ := z (below_step za_ hb) <| z (hbox) <| z ((by rw [hg]; exact (below_size za_) : w.heap.size ≤ gb142)) <| z1 ((by rw [hg]; exact (below_size za_) : w.heap.size ≤ gb142)); clear HB; obtain ⟨HB, BK142, GW142, GE142⟩ := n_; clear hb hbox hg; have hcz33_0 : w32.cell? ⟨gb142, 0, none⟩ = some (.int .i64 a0_0) := (blk_cell BK142.out 0).trans rfl; have hcz33_1 : w32.cell? ⟨gb142, 1, none⟩ = some (.slice A0_1 l0_1.length c0_1) := (blk_cell BK142.out 1).trans rfl; have hfz33_0 := blk_frozen BK142.out 0; have hfz33_1 := blk_frozen BK142.out 1) | ((with_reducible refine gate_callee (f := 131) rfl ?_); refine goesL_ (some 13) rfl rfl Try.func131 (by kernel_rfl) rfl #[.agg #[.int .i64 a0_0, .slice A0_1 l0_1.length c0_1]] rfl ze_ ?_; (with_reducible refine (spec_ttGood.calls k a0_0 _ _ l0_1 false _ ?side1 ?side2 A2.out).mono ?_); (case side1 => exact zi_); (case side2 => exact HC0_1.out); rintro e w34 ⟨rfl, hb⟩; refine ⟨_, rfl, ?_⟩; have n_ := z (blk_below (zb BK142.out) hb) <| z1 (below_step zdg_ hb); clear BK142 HB; obtain ⟨BK142, HB⟩ := n_; clear hb))
  go_ret2
  exact ⟨_, zf_, zbi_, zdg_⟩
def impl_IsTerm.f (a0 : Int) (a1_0 : Int) (a1_1 : Int) : Option (Bool) := if a0 ≥ 0 then (if a0 ≤ 4 then (if a1_0 ≥ 0 then (if 0 ≤ a0 then (if a1_0 < (shl .i64 1 a0) then (if a1_1 ≥ 0 then (some ((Go.bits .andNot .i64 a1_1 a1_0) == 0)) else (some false)) else (some false)) else (none)) else (some false)) else (some false)) else (some false)
theorem impl_IsTerm.calls (a0 : Int) (a1_0 : Int) (a1_1 : Int) (r : Bool) (w : World) (h : impl_IsTerm.f a0 a1_0 a1_1 = some r) :
  Calls Try.prog 60 #[.int .i64 a0, .agg #[.int .i64 a1_0, .int .i64 a1_1]] w fun e w' => e = .returned (.bool r) ∧ Below w.heap.size w w' := by
 have hu72 := Try.underlying72
 have HB := aM (Below.refl w.heap.size w)
 have H : (if a0 ≥ 0 then (if a0 ≤ 4 then (if a1_0 ≥ 0 then (if 0 ≤ a0 then (if a1_0 < (shl .i64 1 a0) then (if a1_1 ≥ 0 then (some ((Go.bits .andNot .i64 a1_1 a1_0) == 0)) else (some false)) else (some false)) else (none)) else (some false)) else (some false)) else (some false)) = some r := h
 clear h
 by_cases c3 : a0 ≥ 0
 ·rw [if_pos c3] at H
  have c3b0 : decide (0 ≤ a0) = true := decide_eq_true c3; clear c3
  by_cases c4 : a0 ≤ 4
  ·rw [if_pos c4] at H
   have c4b0 := decide_eq_true c4; clear c4
   by_cases c5 : a1_0 ≥ 0
   ·rw [if_pos c5] at H
    have c5b0 : decide (0 ≤ a1_0) = true := decide_eq_true c5; clear c5
    by_cases c6 : 0 ≤ a0
    ·rw [if_pos c6] at H
     have c6b0 := eq_true c6; have c6b1 := decide_eq_true c6; clear c6; obtain ⟨ji7, hji7⟩ : ∃ j_ : Int, (shl .i64 1 a0) = j_ := ⟨_, rfl⟩; replace H : (if a1_0 < (ji7) then (if a1_1 ≥ 0 then (some ((Go.bits .andNot .i64 a1_1 a1_0) == 0)) else (some false)) else (some false)) = some r := by first | (rw [hji7] at H; exact H) | (simp only [hji7] at H ⊢; exact H)
     have hji7_ : (IntKind.i64.wrap (1 * 2 ^ min a0.toNat 64)) = ji7 := hji7; have hji7z : a0 ≤ 64 → (IntKind.i64.wrap (1 * 2 ^ a0.toNat)) = ji7 := shl_small hji7; have hji7u : (IntKind.i64.wrap (2 ^ min a0.toNat 64)) = ji7 := by have h_ := hji7_; rw [Int.one_mul] at h_; exact h_
     have hji7v : a0 ≤ 64 → (IntKind.i64.wrap (2 ^ a0.toNat)) = ji7 := fun hle_ => by have h_ := hji7z hle_; rw [Int.one_mul] at h_; exact h_
     have hji7y : (wrap64 (1 * 2 ^ min a0.toNat 64)) = ji7 := (i64_w _).symm.trans hji7_; have hji7x : a0 ≤ 64 → (wrap64 (1 * 2 ^ a0.toNat)) = ji7 := fun h_ => (i64_w _).symm.trans (hji7z h_)
     by_cases c8 : a1_0 < (ji7)
     ·rw [if_pos c8] at H
      have c8b0 := decide_eq_true c8; clear c8
      by_cases c9 : a1_1 ≥ 0
      ·rw [if_pos c9] at H
       have c9b0 : decide (0 ≤ a1_1) = true := decide_eq_true c9; clear c9; obtain rfl := Option.some.inj H
       go_enter Try.func60, Try.ntmps60
       go_wp2_with (first | ((with_reducible refine gate_dst (N := 3) rfl ?_); refine box_event ?hg (N := 3) ?hd (cs := #[.int .i64 a1_0, .int .i64 a1_1]) (t := 72) ?hr ?_; (case hd => rfl); (case hg => rfl); (case hr => exact zc_); intro gb157 hg w10 hbox hb; have n_ := z (below_step za_ hb) <| z (hbox) <| z ((by rw [hg]; exact (below_size za_) : w.heap.size ≤ gb157)) <| z1 ((by rw [hg]; exact (below_size za_) : w.heap.size ≤ gb157)); clear HB; obtain ⟨HB, BK157, GW157, GE157⟩ := n_; clear hb hbox hg; have hcz11_0 : w10.cell? ⟨gb157, 0, none⟩ = some (.int .i64 a1_0) := (blk_cell BK157.out 0).trans rfl; have hcz11_1 : w10.cell? ⟨gb157, 1, none⟩ = some (.int .i64 a1_1) := (blk_cell BK157.out 1).trans rfl; have hfz11_0 := blk_frozen BK157.out 0; have hfz11_1 := blk_frozen BK157.out 1))
       repeat (go_quiet (first | ((with_reducible refine gate_dst (N := 3) rfl ?_); refine box_event ?hg (N := 3) ?hd (cs := #[.int .i64 a1_0, .int .i64 a1_1]) (t := 72) ?hr ?_; (case hd => rfl); (case hg => rfl); (case hr => exact zc_); intro gb157 hg w10 hbox hb; have n_ := z (below_step za_ hb) <| z (hbox) <| z ((by rw [hg]; exact (below_size za_) : w.heap.size ≤ gb157)) <| z1 ((by rw [hg]; exact (below_size za_) : w.heap.size ≤ gb157)); clear HB; obtain ⟨HB, BK157, GW157, GE157⟩ := n_; clear hb hbox hg; have hcz11_0 : w10.cell? ⟨gb157, 0, none⟩ = some (.int .i64 a1_0) := (blk_cell BK157.out 0).trans rfl; have hcz11_1 : w10.cell? ⟨gb157, 1, none⟩ = some (.int .i64 a1_1) := (blk_cell BK157.out 1).trans rfl; have hfz11_0 := blk_frozen BK157.out 0; have hfz11_1 := blk_frozen BK157.out 1)); try go_wp2_with (first | ((with_reducible refine gate_dst (N := 3) rfl ?_); refine box_event ?hg (N := 3) ?hd (cs := #[.int .i64 a1_0, .int .i64 a1_1]) (t := 72) ?hr ?_; (case hd => rfl); (case hg => rfl); (case hr => exact zc_); intro gb157 hg w10 hbox hb; have n_ := z (below_step za_ hb) <| z (hbox) <| z ((by rw [hg]; exact (below_size za_) : w.heap.size ≤ gb157)) <| z1 ((by rw [hg]; exact (below_size za_) : w.heap.size ≤ gb157)); clear HB; obtain ⟨HB, BK157, GW157, GE157⟩ := n_; clear hb hbox hg; have hcz11_0 : w10.cell? ⟨gb157, 0, none⟩ = some (.int .i64 a1_0) := (blk_cell BK157.out 0).trans rfl; have hcz11_1 : w10.cell? ⟨gb157, 1, none⟩ = some (.int .i64 a1_1) := (blk_cell BK157.out 1).trans rfl; have hfz11_0 := blk_frozen BK157.out 0; have hfz11_1 := blk_frozen BK157.out 1)))
       go_ret
       exact ⟨zbaf_, zga_⟩
      ·rw [if_neg c9] at H
       have c9b0 : decide (0 ≤ a1_1) = false := decide_eq_false c9; clear c9; obtain rfl := Option.some.inj H
       go_enter Try.func60, Try.ntmps60
       go_wp2_with (first | ((with_reducible refine gate_dst (N := 3) rfl ?_); refine box_event ?hg (N := 3) ?hd (cs := #[.int .i64 a1_0, .int .i64 a1_1]) (t := 72) ?hr ?_; (case hd => rfl); (case hg => rfl); (case hr => exact zc_); intro gb157 hg w12 hbox hb; have n_ := z (below_step za_ hb) <| z (hbox) <| z ((by rw [hg]; exact (below_size za_) : w.heap.size ≤ gb157)) <| z1 ((by rw [hg]; exact (below_size za_) : w.heap.size ≤ gb157)); clear HB; obtain ⟨HB, BK157, GW157, GE157⟩ := n_; clear hb hbox hg; have hcz13_0 : w12.cell? ⟨gb157, 0, none⟩ = some (.int .i64 a1_0) := (blk_cell BK157.out 0).trans rfl; have hcz13_1 : w12.cell? ⟨gb157, 1, none⟩ = some (.int .i64 a1_1) := (blk_cell BK157.out 1).trans rfl; have hfz13_0 := blk_frozen BK157.out 0; have hfz13_1 := blk_frozen BK157.out 1))
       repeat (go_quiet (first | ((with_reducible refine gate_dst (N := 3) rfl ?_); refine box_event ?hg (N := 3) ?hd (cs := #[.int .i64 a1_0, .int .i64 a1_1]) (t := 72) ?hr ?_; (case hd => rfl); (case hg => rfl); (case hr => exact zc_); intro gb157 hg w12 hbox hb; have n_ := z (below_step za_ hb) <| z (hbox) <| z ((by rw [hg]; exact (below_size za_) : w.heap.size ≤ gb157)) <| z1 ((by rw [hg]; exact (below_size za_) : w.heap.size ≤ gb157)); clear HB; obtain ⟨HB, BK157, GW157, GE157⟩ := n_; clear hb hbox hg; have hcz13_0 : w12.cell? ⟨gb157, 0, none⟩ = some (.int .i64 a1_0) := (blk_cell BK157.out 0).trans rfl; have hcz13_1 : w12.cell? ⟨gb157, 1, none⟩ = some (.int .i64 a1_1) := (blk_cell BK157.out 1).trans rfl; have hfz13_0 := blk_frozen BK157.out 0; have hfz13_1 := blk_frozen BK157.out 1)); try go_wp2_with (first | ((with_reducible refine gate_dst (N := 3) rfl ?_); refine box_event ?hg (N := 3) ?hd (cs := #[.int .i64 a1_0, .int .i64 a1_1]) (t := 72) ?hr ?_; (case hd => rfl); (case hg => rfl); (case hr => exact zc_); intro gb157 hg w12 hbox hb; have n_ := z (below_step za_ hb) <| z (hbox) <| z ((by rw [hg]; exact (below_size za_) : w.heap.size ≤ gb157)) <| z1 ((by rw [hg]; exact (below_size za_) : w.heap.size ≤ gb157)); clear HB; obtain ⟨HB, BK157, GW157, GE157⟩ := n_; clear hb hbox hg; have hcz13_0 : w12.cell? ⟨gb157, 0, none⟩ = some (.int .i64 a1_0) := (blk_cell BK157.out 0).trans rfl; have hcz13_1 : w12.cell? ⟨gb157, 1, none⟩ = some (.int .i64 a1_1) := (blk_cell BK157.out 1).trans rfl; have hfz13_0 := blk_frozen BK157.out 0; have hfz13_1 := blk_frozen BK157.out 1)))
       go_ret
       exact ⟨zbaf_, zga_⟩
     ·rw [if_neg c8] at H
      have c8b0 := decide_eq_false c8; clear c8; obtain rfl := Option.some.inj H
      go_enter Try.func60, Try.ntmps60
      go_wp2_with (first | ((with_reducible refine gate_dst (N := 3) rfl ?_); refine box_event ?hg (N := 3) ?hd (cs := #[.int .i64 a1_0, .int .i64 a1_1]) (t := 72) ?hr ?_; (case hd => rfl); (case hg => rfl); (case hr => exact zc_); intro gb157 hg w14 hbox hb; have n_ := z (below_step za_ hb) <| z (hbox) <| z ((by rw [hg]; exact (below_size za_) : w.heap.size ≤ gb157)) <| z1 ((by rw [hg]; exact (below_size za_) : w.heap.size ≤ gb157)); clear HB; obtain ⟨HB, BK157, GW157, GE157⟩ := n_; clear hb hbox hg; have hcz15_0 : w14.cell? ⟨gb157, 0, none⟩ = some (.int .i64 a1_0) := (blk_cell BK157.out 0).trans rfl; have hcz15_1 : w14.cell? ⟨gb157, 1, none⟩ = some (.int .i64 a1_1) := (blk_cell BK157.out 1).trans rfl; have hfz15_0 := blk_frozen BK157.out 0; have hfz15_1 := blk_frozen BK157.out 1))
      repeat (go_quiet (first | ((with_reducible refine gate_dst (N := 3) rfl ?_); refine box_event ?hg (N := 3) ?hd (cs := #[.int .i64 a1_0, .int .i64 a1_1]) (t := 72) ?hr ?_; (case hd => rfl); (case hg => rfl); (case hr => exact zc_); intro gb157 hg w14 hbox hb; have n_ := z (below_step za_ hb) <| z (hbox) <| z ((by rw [hg]; exact (below_size za_) : w.heap.size ≤ gb157)) <| z1 ((by rw [hg]; exact (below_size za_) : w.heap.size ≤ gb157)); clear HB; obtain ⟨HB, BK157, GW157, GE157⟩ := n_; clear hb hbox hg; have hcz15_0 : w14.cell? ⟨gb157, 0, none⟩ = some (.int .i64 a1_0) := (blk_cell BK157.out 0).trans rfl; have hcz15_1 : w14.cell? ⟨gb157, 1, none⟩ = some (.int .i64 a1_1) := (blk_cell BK157.out 1).trans rfl; have hfz15_0 := blk_frozen BK157.out 0; have hfz15_1 := blk_frozen BK157.out 1)); try go_wp2_with (first | ((with_reducible refine gate_dst (N := 3) rfl ?_); refine box_event ?hg (N := 3) ?hd (cs := #[.int .i64 a1_0, .int .i64 a1_1]) (t := 72) ?hr ?_; (case hd => rfl); (case hg => rfl); (case hr => exact zc_); intro gb157 hg w14 hbox hb; have n_ := z (below_step za_ hb) <| z (hbox) <| z ((by rw [hg]; exact (below_size za_) : w.heap.size ≤ gb157)) <| z1 ((by rw [hg]; exact (below_size za_) : w.heap.size ≤ gb157)); clear HB; obtain ⟨HB, BK157, GW157, GE157⟩ := n_; clear hb hbox hg; have hcz15_0 : w14.cell? ⟨gb157, 0, none⟩ = some (.int .i64 a1_0) := (blk_cell BK157.out 0).trans rfl; have hcz15_1 : w14.cell? ⟨gb157, 1, none⟩ = some (.int .i64 a1_1) := (blk_cell BK157.out 1).trans rfl; have hfz15_0 := blk_frozen BK157.out 0; have hfz15_1 := blk_frozen BK157.out 1)))
      go_ret
      exact ⟨zbaf_, zga_⟩
    ·rw [if_neg c6] at H
     exact absurd H (by simp)
   ·rw [if_neg c5] at H
    have c5b0 : decide (0 ≤ a1_0) = false := decide_eq_false c5; clear c5; obtain rfl := Option.some.inj H
    go_enter Try.func60, Try.ntmps60
    go_wp2_with (first | ((with_reducible refine gate_dst (N := 3) rfl ?_); refine box_event ?hg (N := 3) ?hd (cs := #[.int .i64 a1_0, .int .i64 a1_1]) (t := 72) ?hr ?_; (case hd => rfl); (case hg => rfl); (case hr => exact zc_); intro gb157 hg w16 hbox hb; have n_ := z (below_step za_ hb) <| z (hbox) <| z ((by rw [hg]; exact (below_size za_) : w.heap.size ≤ gb157)) <| z1 ((by rw [hg]; exact (below_size za_) : w.heap.size ≤ gb157)); clear HB; obtain ⟨HB, BK157, GW157, GE157⟩ := n_; clear hb hbox hg; have hcz17_0 : w16.cell? ⟨gb157, 0, none⟩ = some (.int .i64 a1_0) := (blk_cell BK157.out 0).trans rfl; have hcz17_1 : w16.cell? ⟨gb157, 1, none⟩ = some (.int .i64 a1_1) := (blk_cell BK157.out 1).trans rfl; have hfz17_0 := blk_frozen BK157.out 0; have hfz17_1 := blk_frozen BK157.out 1))
    repeat (go_quiet (first | ((with_reducible refine gate_dst (N := 3) rfl ?_); refine box_event ?hg (N := 3) ?hd (cs := #[.int .i64 a1_0, .int .i64 a1_1]) (t := 72) ?hr ?_; (case hd => rfl); (case hg => rfl); (case hr => exact zc_); intro gb157 hg w16 hbox hb; have n_ := z (below_step za_ hb) <| z (hbox) <| z ((by rw [hg]; exact (below_size za_) : w.heap.size ≤ gb157)) <| z1 ((by rw [hg]; exact (below_size za_) : w.heap.size ≤ gb157)); clear HB; obtain ⟨HB, BK157, GW157, GE157⟩ := n_; clear hb hbox hg; have hcz17_0 : w16.cell? ⟨gb157, 0, none⟩ = some (.int .i64 a1_0) := (blk_cell BK157.out 0).trans rfl; have hcz17_1 : w16.cell? ⟨gb157, 1, none⟩ = some (.int .i64 a1_1) := (blk_cell BK157.out 1).trans rfl; have hfz17_0 := blk_frozen BK157.out 0; have hfz17_1 := blk_frozen BK157.out 1)); try go_wp2_with (first | ((with_reducible refine gate_dst (N := 3) rfl ?_); refine box_event ?hg (N := 3) ?hd (cs := #[.int .i64 a1_0, .int .i64 a1_1]) (t := 72) ?hr ?_; (case hd => rfl); (case hg => rfl); (case hr => exact zc_); intro gb157 hg w16 hbox hb; have n_ := z (below_step za_ hb) <| z (hbox) <| z ((by rw [hg]; exact (below_size za_) : w.heap.size ≤ gb157)) <| z1 ((by rw [hg]; exact (below_size za_) : w.heap.size ≤ gb157)); clear HB; obtain ⟨HB, BK157, GW157, GE157⟩ := n_; clear hb hbox hg; have hcz17_0 : w16.cell? ⟨gb157, 0, none⟩ = some (.int .i64 a1_0) := (blk_cell BK157.out 0).trans rfl; have hcz17_1 : w16.cell? ⟨gb157, 1, none⟩ = some (.int .i64 a1_1) := (blk_cell BK157.out 1).trans rfl; have hfz17_0 := blk_frozen BK157.out 0; have hfz17_1 := blk_frozen BK157.out 1)))
    go_ret
    exact ⟨zf_, zga_⟩
  ·rw [if_neg c4] at H
   have c4b0 := decide_eq_false c4; clear c4; obtain rfl := Option.some.inj H
   go_enter Try.func60, Try.ntmps60
   go_wp2_with (first | ((with_reducible refine gate_dst (N := 3) rfl ?_); refine box_event ?hg (N := 3) ?hd (cs := #[.int .i64 a1_0, .int .i64 a1_1]) (t := 72) ?hr ?_; (case hd => rfl); (case hg => rfl); (case hr => exact zc_); intro gb157 hg w18 hbox hb; have n_ := z (below_step za_ hb) <| z (hbox) <| z ((by rw [hg]; exact (below_size za_) : w.heap.size ≤ gb157)) <| z1 ((by rw [hg]; exact (below_size za_) : w.heap.size ≤ gb157)); clear HB; obtain ⟨HB, BK157, GW157, GE157⟩ := n_; clear hb hbox hg))
   repeat (go_quiet (first | ((with_reducible refine gate_dst (N := 3) rfl ?_); refine box_event ?hg (N := 3) ?hd (cs := #[.int .i64 a1_0, .int .i64 a1_1]) (t := 72) ?hr ?_; (case hd => rfl); (case hg => rfl); (case hr => exact zc_); intro gb157 hg w18 hbox hb; have n_ := z (below_step za_ hb) <| z (hbox) <| z ((by rw [hg]; exact (below_size za_) : w.heap.size ≤ gb157)) <| z1 ((by rw [hg]; exact (below_size za_) : w.heap.size ≤ gb157)); clear HB; obtain ⟨HB, BK157, GW157, GE157⟩ := n_; clear hb hbox hg)); try go_wp2_with (first | ((with_reducible refine gate_dst (N := 3) rfl ?_); refine box_event ?hg (N := 3) ?hd (cs := #[.int .i64 a1_0, .int .i64 a1_1]) (t := 72) ?hr ?_; (case hd => rfl); (case hg => rfl); (case hr => exact zc_); intro gb157 hg w18 hbox hb; have n_ := z (below_step za_ hb) <| z (hbox) <| z ((by rw [hg]; exact (below_size za_) : w.heap.size ≤ gb157)) <| z1 ((by rw [hg]; exact (below_size za_) : w.heap.size ≤ gb157)); clear HB; obtain ⟨HB, BK157, GW157, GE157⟩ := n_; clear hb hbox hg)))
   go_ret
   exact ⟨zf_, zga_⟩
 ·rw [if_neg c3] at H
  have c3b0 : decide (0 ≤ a0) = false := decide_eq_false c3; clear c3; obtain rfl := Option.some.inj H
  go_enter Try.func60, Try.ntmps60
  go_wp2_with (first | ((with_reducible refine gate_dst (N := 3) rfl ?_); refine box_event ?hg (N := 3) ?hd (cs := #[.int .i64 a1_0, .int .i64 a1_1]) (t := 72) ?hr ?_; (case hd => rfl); (case hg => rfl); (case hr => exact zc_); intro gb157 hg w19 hbox hb; have n_ := z (below_step za_ hb) <| z (hbox) <| z ((by rw [hg]; exact (below_size za_) : w.heap.size ≤ gb157)) <| z1 ((by rw [hg]; exact (below_size za_) : w.heap.size ≤ gb157)); clear HB; obtain ⟨HB, BK157, GW157, GE157⟩ := n_; clear hb hbox hg))
  repeat (go_quiet (first | ((with_reducible refine gate_dst (N := 3) rfl ?_); refine box_event ?hg (N := 3) ?hd (cs := #[.int .i64 a1_0, .int .i64 a1_1]) (t := 72) ?hr ?_; (case hd => rfl); (case hg => rfl); (case hr => exact zc_); intro gb157 hg w19 hbox hb; have n_ := z (below_step za_ hb) <| z (hbox) <| z ((by rw [hg]; exact (below_size za_) : w.heap.size ≤ gb157)) <| z1 ((by rw [hg]; exact (below_size za_) : w.heap.size ≤ gb157)); clear HB; obtain ⟨HB, BK157, GW157, GE157⟩ := n_; clear hb hbox hg)); try go_wp2_with (first | ((with_reducible refine gate_dst (N := 3) rfl ?_); refine box_event ?hg (N := 3) ?hd (cs := #[.int .i64 a1_0, .int .i64 a1_1]) (t := 72) ?hr ?_; (case hd => rfl); (case hg => rfl); (case hr => exact zc_); intro gb157 hg w19 hbox hb; have n_ := z (below_step za_ hb) <| z (hbox) <| z ((by rw [hg]; exact (below_size za_) : w.heap.size ≤ gb157)) <| z1 ((by rw [hg]; exact (below_size za_) : w.heap.size ≤ gb157)); clear HB; obtain ⟨HB, BK157, GW157, GE157⟩ := n_; clear hb hbox hg)))
  go_ret
  exact ⟨zf_, zga_⟩
def impl_areBits.l0 : Nat → List Int → Int → Int → Option (Bool)
 | 0, _, _, _ => none
 | k + 1, x5, x6, x7 => if x7 < x6 then (if 0 ≤ x7 then (if x7 < (x5.length : Int) then (if (rd x5 x7) = 0 then (impl_areBits.l0 k x5 x6 (wrap64 (x7 + 1))) else (if (rd x5 x7) = 1 then (impl_areBits.l0 k x5 x6 (wrap64 (x7 + 1))) else (some false))) else (none)) else (none)) else (some true)
def impl_areBits.f (k : Nat) (l0 : List Int) : Option (Bool) := impl_areBits.l0 k l0 (l0.length : Int) 0
theorem impl_areBits.calls (k : Nat) (A0 : Option Addr) (c0 : Nat) (l0 : List Int) (r : Bool) (w : World) (hr0 : Kd.C (Kd.int .i64) w A0 l0.length l0) (hc0 : l0.length ≤ c0) (h : impl_areBits.f k l0 = some r) :
  Calls Try.prog 178 #[.slice A0 l0.length c0] w fun e w' => e = .returned (.bool r) ∧ Drawn0 w w' := by
 have HR0 := aM hr0
 have HC0 := aM hc0
 clear hr0 hc0
 have H : (impl_areBits.l0 k l0 (l0.length : Int) 0) = some r := h
 clear h
 have H' := aM H
 clear H
 go_enter Try.func178, Try.ntmps178
 go_wp2
 go_loopg [7] k (fun kq v7 w' => ∃ (x7_1 : Int), v7 = .int .i64 x7_1 ∧ Aside0 (impl_areBits.l0 kq l0 (l0.length : Int) x7_1 = some r) ∧ Aside0 (kq ≤ k) ∧ Drawn0 w w')
 case atStart => exact ⟨(0), zb_, H', ⟨Nat.le_refl _⟩, zj_⟩
 case round =>
  clear H'; obtain ⟨x7_1, rfl, HA, HK1, ⟨m1, rfl⟩⟩ := hrel
  cases gk with
  | zero => exact absurd HA.out (by simp [impl_areBits.l0])
  | succ k1 =>
   have H := HA.out; clear HA
   simp only [impl_areBits.l0] at H
   by_cases c2 : x7_1 < (l0.length : Int)
   ·rw [if_pos c2] at H
    have c2b0 := decide_eq_true c2; clear c2
    by_cases c3 : 0 ≤ x7_1
    ·rw [if_pos c3] at H
     have c3b0 := decide_eq_true c3; clear c3
     by_cases c4 : x7_1 < (l0.length : Int)
     ·rw [if_pos c4] at H
      have c4b0 := decide_eq_true c4; clear c4
      by_cases c5 : (rd l0 x7_1) = 0
      ·rw [if_pos c5] at H
       have c5b0 := beq_iff_eq.mpr c5; have c5b1 := bne_eq_false_iff_eq.mpr c5; clear c5; have H' := aM H; clear H; have p158 : 0 ≤ (x7_1 : Int) := of_decide_eq_true zd_; have q158 : x7_1 < (l0.length : Int) := of_decide_eq_true zd_; obtain ⟨ad158, e158, hx158_0⟩ := Kd.at_int HR0.out x7_1 p158 q158
       cases e158
       replace p158 := eq_true p158; replace q158 := eq_true q158
       go_wp2
       go_roundg k1
       case measure => have := HK1.out; omega
       case rel => exact ⟨(wrap64 (x7_1 + 1)), zb_, H', ⟨zba_⟩, zj_⟩
      ·rw [if_neg c5] at H
       have c5b0 := beq_eq_false_iff_ne.mpr c5; have c5b1 := bne_iff_ne.mpr c5
       by_cases c6 : (rd l0 x7_1) = 1
       ·rw [if_pos c6] at H
        have c6b0 := beq_iff_eq.mpr c6; have c6b1 := bne_eq_false_iff_eq.mpr c6; clear c6; have H' := aM H; clear H; have p158 : 0 ≤ (x7_1 : Int) := of_decide_eq_true zd_; have q158 : x7_1 < (l0.length : Int) := of_decide_eq_true zd_; obtain ⟨ad158, e158, hx158_0⟩ := Kd.at_int HR0.out x7_1 p158 q158
        cases e158
        replace p158 := eq_true p158; replace q158 := eq_true q158
        go_wp2
        go_roundg k1
        case measure => have := HK1.out; omega
        case rel => exact ⟨(wrap64 (x7_1 + 1)), zb_, H', ⟨zba_⟩, zj_⟩
       ·rw [if_neg c6] at H
        have c6b0 := beq_eq_false_iff_ne.mpr c6; have c6b1 := bne_iff_ne.mpr c6; obtain rfl := Option.some.inj H; have p158 : 0 ≤ (x7_1 : Int) := of_decide_eq_true zd_; have q158 : x7_1 < (l0.length : Int) := of_decide_eq_true zd_; obtain ⟨ad158, e158, hx158_0⟩ := Kd.at_int HR0.out x7_1 p158 q158
        cases e158
        replace p158 := eq_true p158; replace q158 := eq_true q158
        go_wp2
        go_ret
        exact ⟨zb_, zj_⟩
     ·rw [if_neg c4] at H
      exact absurd H (by simp)
    ·rw [if_neg c3] at H
     exact absurd H (by simp)
   ·rw [if_neg c2] at H
    have c2b0 := decide_eq_false c2; clear c2; obtain rfl := Option.some.inj H
    go_wp2
    go_ret
    exact ⟨zb_, zj_⟩
def impl_IsTable.f (k : Nat) (a0_0 : Int) (l0_1 : List Int) : Option (Bool) := if a0_0 ≥ 0 then (if a0_0 ≤ 4 then (if 0 ≤ a0_0 then (if (l0_1.length : Int) = (shl .i64 1 a0_0) then ((impl_areBits.f k l0_1).bind fun t160 => (some t160)) else (some false)) else (none)) else (some false)) else (some false)
theorem impl_IsTable.calls (k : Nat) (a0_0 : Int) (A0_1 : Option Addr) (c0_1 : Nat) (l0_1 : List Int) (r : Bool) (w : World) (hr0_1 : Kd.C (Kd.int .i64) w A0_1 l0_1.length l0_1) (hc0_1 : l0_1.length ≤ c0_1) (h : impl_IsTable.f k a0_0 l0_1 = some r) :
  Calls Try.prog 127 #[.agg #[.int .i64 a0_0, .slice A0_1 l0_1.length c0_1]] w fun e w' => e = .returned (.bool r) ∧ Below w.heap.size w w' := by
 have hu60 := Try.underlying60
 have HR0_1 := aM hr0_1
 have HC0_1 := aM hc0_1
 clear hr0_1 hc0_1
 have HB := aM (Below.refl w.heap.size w)
 have H : (if a0_0 ≥ 0 then (if a0_0 ≤ 4 then (if 0 ≤ a0_0 then (if (l0_1.length : Int) = (shl .i64 1 a0_0) then ((impl_areBits.f k l0_1).bind fun t160 => (some t160)) else (some false)) else (none)) else (some false)) else (some false)) = some r := h
 clear h
 by_cases c2 : a0_0 ≥ 0
 ·rw [if_pos c2] at H
  have c2b0 : decide (0 ≤ a0_0) = true := decide_eq_true c2; clear c2
  by_cases c3 : a0_0 ≤ 4
  ·rw [if_pos c3] at H
   have c3b0 := decide_eq_true c3; clear c3
   by_cases c4 : 0 ≤ a0_0
   ·rw [if_pos c4] at H
    have c4b0 := eq_true c4; have c4b1 := decide_eq_true c4; clear c4; obtain ⟨ji5, hji5⟩ : ∃ j_ : Int, (shl .i64 1 a0_0) = j_ := ⟨_, rfl⟩; replace H : (if (l0_1.length : Int) = (ji5) then ((impl_areBits.f k l0_1).bind fun t160 => (some t160)) else (some false)) = some r := by first | (rw [hji5] at H; exact H) | (simp only [hji5] at H ⊢; exact H)
    have hji5_ : (IntKind.i64.wrap (1 * 2 ^ min a0_0.toNat 64)) = ji5 := hji5; have hji5z : a0_0 ≤ 64 → (IntKind.i64.wrap (1 * 2 ^ a0_0.toNat)) = ji5 := shl_small hji5; have hji5u : (IntKind.i64.wrap (2 ^ min a0_0.toNat 64)) = ji5 := by have h_ := hji5_; rw [Int.one_mul] at h_; exact h_
    have hji5v : a0_0 ≤ 64 → (IntKind.i64.wrap (2 ^ a0_0.toNat)) = ji5 := fun hle_ => by have h_ := hji5z hle_; rw [Int.one_mul] at h_; exact h_
    have hji5y : (wrap64 (1 * 2 ^ min a0_0.toNat 64)) = ji5 := (i64_w _).symm.trans hji5_; have hji5x : a0_0 ≤ 64 → (wrap64 (1 * 2 ^ a0_0.toNat)) = ji5 := fun h_ => (i64_w _).symm.trans (hji5z h_)
    by_cases c6 : (l0_1.length : Int) = (ji5)
    ·rw [if_pos c6] at H
     have c6b0 := beq_iff_eq.mpr c6; have c6b1 := bne_eq_false_iff_eq.mpr c6; clear c6; replace H := oB.mp H; obtain ⟨t160, A70, H⟩ := H; replace H : (some t160) = some r := H; have A7 := aM A70; clear A70; obtain rfl := Option.some.inj H
     go_enter Try.func127, Try.ntmps127
     go_wp2_with (first | ((with_reducible refine gate_dst (N := 1) rfl ?_); (try (refine gate_guard (by rfl) ?_; dsimp only)); refine box_event ?hg (N := 1) ?hd (cs := #[.int .i64 a0_0, .slice A0_1 l0_1.length c0_1]) (t := 60) ?hr ?_; (case hd => rfl); (case hg => rfl); (case hr => exact zc_); intro gb159 hg w8 hbox hb; have n_ := z (below_step za_ hb) <| z (hbox) <| z ((by rw [hg]; exact (below_size za_) : w.heap.size ≤ gb159)) <| z1 ((by rw [hg]; exact (below_size za_) : w.heap.size ≤ gb159)); clear HB; obtain ⟨HB, BK159, GW159, GE159⟩ := n_; clear hb hbox hg; have hcz9_0 : w8.cell? ⟨gb159, 0, none⟩ = some (.int .i64 a0_0) := (blk_cell BK159.out 0).trans rfl; have hcz9_1 : w8.cell? ⟨gb159, 1, none⟩ = some (.slice A0_1 l0_1.length c0_1) := (blk_cell BK159.out 1).trans rfl; have hfz9_0 := blk_frozen BK159.out 0; have hfz9_1 := blk_frozen BK159.out 1) | (go_at_call 178; (with_reducible refine (impl_areBits.calls k _ _ l0_1 t160 _ ?side1 ?side2 A7.out).mono ?_); (case side1 => exact zi_); (case side2 => exact HC0_1.out); rintro e w' ⟨rfl, ⟨nd, rfl⟩⟩; (try first | exact ⟨rfl, _, World.drewN_drewN _ _ _⟩ | exact ⟨rfl, _, Eq.trans (World.drewN_drewN _ _ _) (congrArg (World.drewN _) (Nat.add_assoc _ _ _))⟩)))
     repeat (go_quiet (first | ((with_reducible refine gate_dst (N := 1) rfl ?_); (try (refine gate_guard (by rfl) ?_; dsimp only)); refine box_event ?hg (N := 1) ?hd (cs := #[.int .i64 a0_0, .slice A0_1 l0_1.length c0_1]) (t := 60) ?hr ?_; (case hd => rfl); (case hg => rfl); (case hr => exact zc_); intro gb159 hg w8 hbox hb; have n_ := z (below_step za_ hb) <| z (hbox) <| z ((by rw [hg]; exact (below_size za_) : w.heap.size ≤ gb159)) <| z1 ((by rw [hg]; exact (below_size za_) : w.heap.size ≤ gb159)); clear HB; obtain ⟨HB, BK159, GW159, GE159⟩ := n_; clear hb hbox hg; have hcz9_0 : w8.cell? ⟨gb159, 0, none⟩ = some (.int .i64 a0_0) := (blk_cell BK159.out 0).trans rfl; have hcz9_1 : w8.cell? ⟨gb159, 1, none⟩ = some (.slice A0_1 l0_1.length c0_1) := (blk_cell BK159.out 1).trans rfl; have hfz9_0 := blk_frozen BK159.out 0; have hfz9_1 := blk_frozen BK159.out 1) | (go_at_call 178; (with_reducible refine (impl_areBits.calls k _ _ l0_1 t160 _ ?side1 ?side2 A7.out).mono ?_); (case side1 => exact zi_); (case side2 => exact HC0_1.out); rintro e w' ⟨rfl, ⟨nd, rfl⟩⟩; (try first | exact ⟨rfl, _, World.drewN_drewN _ _ _⟩ | exact ⟨rfl, _, Eq.trans (World.drewN_drewN _ _ _) (congrArg (World.drewN _) (Nat.add_assoc _ _ _))⟩))); try go_wp2_with (first | ((with_reducible refine gate_dst (N := 1) rfl ?_); (try (refine gate_guard (by rfl) ?_; dsimp only)); refine box_event ?hg (N := 1) ?hd (cs := #[.int .i64 a0_0, .slice A0_1 l0_1.length c0_1]) (t := 60) ?hr ?_; (case hd => rfl); (case hg => rfl); (case hr => exact zc_); intro gb159 hg w8 hbox hb; have n_ := z (below_step za_ hb) <| z (hbox) <| z ((by rw [hg]; exact (below_size za_) : w.heap.size ≤ gb159)) <| z1 ((by rw [hg]; exact (below_size za_) : w.heap.size ≤ gb159)); clear HB; obtain ⟨HB, BK159, GW159, GE159⟩ := n_; clear hb hbox hg; have hcz9_0 : w8.cell? ⟨gb159, 0, none⟩ = some (.int .i64 a0_0) := (blk_cell BK159.out 0).trans rfl; have hcz9_1 : w8.cell? ⟨gb159, 1, none⟩ = some (.slice A0_1 l0_1.length c0_1) := (blk_cell BK159.out 1).trans rfl; have hfz9_0 := blk_frozen BK159.out 0; have hfz9_1 := blk_frozen BK159.out 1) | (go_at_call 178; (with_reducible refine (impl_areBits.calls k _ _ l0_1 t160 _ ?side1 ?side2 A7.out).mono ?_); (case side1 => exact zi_); (case side2 => exact HC0_1.out); rintro e w' ⟨rfl, ⟨nd, rfl⟩⟩; (try first | exact ⟨rfl, _, World.drewN_drewN _ _ _⟩ | exact ⟨rfl, _, Eq.trans (World.drewN_drewN _ _ _) (congrArg (World.drewN _) (Nat.add_assoc _ _ _))⟩))))
     go_ret
     exact ⟨by first | rfl | (simp [errW_none, errW_some] <;> rfl) | (simp only [← hji5]; first | rfl | (simp [errW_none, errW_some] <;> rfl)) | (simp [*, errW_none, errW_some] <;> rfl), zjd_⟩
    ·rw [if_neg c6] at H
     have c6b0 := beq_eq_false_iff_ne.mpr c6; have c6b1 := bne_iff_ne.mpr c6; obtain rfl := Option.some.inj H
     go_enter Try.func127, Try.ntmps127
     go_wp2_with (first | ((with_reducible refine gate_dst (N := 1) rfl ?_); (try (refine gate_guard (by rfl) ?_; dsimp only)); refine box_event ?hg (N := 1) ?hd (cs := #[.int .i64 a0_0, .slice A0_1 l0_1.length c0_1]) (t := 60) ?hr ?_; (case hd => rfl); (case hg => rfl); (case hr => exact zc_); intro gb159 hg w10 hbox hb; have n_ := z (below_step za_ hb) <| z (hbox) <| z ((by rw [hg]; exact (below_size za_) : w.heap.size ≤ gb159)) <| z1 ((by rw [hg]; exact (below_size za_) : w.heap.size ≤ gb159)); clear HB; obtain ⟨HB, BK159, GW159, GE159⟩ := n_; clear hb hbox hg; have hcz11_0 : w10.cell? ⟨gb159, 0, none⟩ = some (.int .i64 a0_0) := (blk_cell BK159.out 0).trans rfl; have hcz11_1 : w10.cell? ⟨gb159, 1, none⟩ = some (.slice A0_1 l0_1.length c0_1) := (blk_cell BK159.out 1).trans rfl; have hfz11_0 := blk_frozen BK159.out 0; have hfz11_1 := blk_frozen BK159.out 1))
     repeat (go_quiet (first | ((with_reducible refine gate_dst (N := 1) rfl ?_); (try (refine gate_guard (by rfl) ?_; dsimp only)); refine box_event ?hg (N := 1) ?hd (cs := #[.int .i64 a0_0, .slice A0_1 l0_1.length c0_1]) (t := 60) ?hr ?_; (case hd => rfl); (case hg => rfl); (case hr => exact zc_); intro gb159 hg w10 hbox hb; have n_ := z (below_step za_ hb) <| z (hbox) <| z ((by rw [hg]; exact (below_size za_) : w.heap.size ≤ gb159)) <| z1 ((by rw [hg]; exact (below_size za_) : w.heap.size ≤ gb159)); clear HB; obtain ⟨HB, BK159, GW159, GE159⟩ := n_; clear hb hbox hg; have hcz11_0 : w10.cell? ⟨gb159, 0, none⟩ = some (.int .i64 a0_0) := (blk_cell BK159.out 0).trans rfl; have hcz11_1 : w10.cell? ⟨gb159, 1, none⟩ = some (.slice A0_1 l0_1.length c0_1) := (blk_cell BK159.out 1).trans rfl; have hfz11_0 := blk_frozen BK159.out 0; have hfz11_1 := blk_frozen BK159.out 1)); try go_wp2_with (first | ((with_reducible refine gate_dst (N := 1) rfl ?_); (try (refine gate_guard (by rfl) ?_; dsimp only)); refine box_event ?hg (N := 1) ?hd (cs := #[.int .i64 a0_0, .slice A0_1 l0_1.length c0_1]) (t := 60) ?hr ?_; (case hd => rfl); (case hg => rfl); (case hr => exact zc_); intro gb159 hg w10 hbox hb; have n_ := z (below_step za_ hb) <| z (hbox) <| z ((by rw [hg]; exact (below_size za_) : w.heap.size ≤ gb159)) <| z1 ((by rw [hg]; exact (below_size za_) : w.heap.size ≤ gb159)); clear HB; obtain ⟨HB, BK159, GW159, GE159⟩ := n_; clear hb hbox hg; have hcz11_0 : w10.cell? ⟨gb159, 0, none⟩ = some (.int .i64 a0_0) := (blk_cell BK159.out 0).trans rfl; have hcz11_1 : w10.cell? ⟨gb159, 1, none⟩ = some (.slice A0_1 l0_1.length c0_1) := (blk_cell BK159.out 1).trans rfl; have hfz11_0 := blk_frozen BK159.out 0; have hfz11_1 := blk_frozen BK159.out 1)))
     go_ret
     exact ⟨by first | rfl | (simp [errW_none, errW_some] <;> rfl) | (simp only [← hji5]; first | rfl | (simp [errW_none, errW_some] <;> rfl)) | (simp [*, errW_none, errW_some] <;> rfl), zjd_⟩
   ·rw [if_neg c4] at H
    exact absurd H (by simp)
  ·rw [if_neg c3] at H
   have c3b0 := decide_eq_false c3; clear c3; obtain rfl := Option.some.inj H
   go_enter Try.func127, Try.ntmps127
   go_wp2_with (first | ((with_reducible refine gate_dst (N := 1) rfl ?_); (try (refine gate_guard (by rfl) ?_; dsimp only)); refine box_event ?hg (N := 1) ?hd (cs := #[.int .i64 a0_0, .slice A0_1 l0_1.length c0_1]) (t := 60) ?hr ?_; (case hd => rfl); (case hg => rfl); (case hr => exact zc_); intro gb159 hg w12 hbox hb; have n_ := z (below_step za_ hb) <| z (hbox) <| z ((by rw [hg]; exact (below_size za_) : w.heap.size ≤ gb159)) <| z1 ((by rw [hg]; exact (below_size za_) : w.heap.size ≤ gb159)); clear HB; obtain ⟨HB, BK159, GW159, GE159⟩ := n_; clear hb hbox hg; have hcz13_0 : w12.cell? ⟨gb159, 0, none⟩ = some (.int .i64 a0_0) := (blk_cell BK159.out 0).trans rfl; have hcz13_1 : w12.cell? ⟨gb159, 1, none⟩ = some (.slice A0_1 l0_1.length c0_1) := (blk_cell BK159.out 1).trans rfl; have hfz13_0 := blk_frozen BK159.out 0; have hfz13_1 := blk_frozen BK159.out 1))
   repeat (go_quiet (first | ((with_reducible refine gate_dst (N := 1) rfl ?_); (try (refine gate_guard (by rfl) ?_; dsimp only)); refine box_event ?hg (N := 1) ?hd (cs := #[.int .i64 a0_0, .slice A0_1 l0_1.length c0_1]) (t := 60) ?hr ?_; (case hd => rfl); (case hg => rfl); (case hr => exact zc_); intro gb159 hg w12 hbox hb; have n_ := z (below_step za_ hb) <| z (hbox) <| z ((by rw [hg]; exact (below_size za_) : w.heap.size ≤ gb159)) <| z1 ((by rw [hg]; exact (below_size za_) : w.heap.size ≤ gb159)); clear HB; obtain ⟨HB, BK159, GW159, GE159⟩ := n_; clear hb hbox hg; have hcz13_0 : w12.cell? ⟨gb159, 0, none⟩ = some (.int .i64 a0_0) := (blk_cell BK159.out 0).trans rfl; have hcz13_1 : w12.cell? ⟨gb159, 1, none⟩ = some (.slice A0_1 l0_1.length c0_1) := (blk_cell BK159.out 1).trans rfl; have hfz13_0 := blk_frozen BK159.out 0; have hfz13_1 := blk_frozen BK159.out 1)); try go_wp2_with (first | ((with_reducible refine gate_dst (N := 1) rfl ?_); (try (refine gate_guard (by rfl) ?_; dsimp only)); refine box_event ?hg (N := 1) ?hd (cs := #[.int .i64 a0_0, .slice A0_1 l0_1.length c0_1]) (t := 60) ?hr ?_; (case hd => rfl); (case hg => rfl); (case hr => exact zc_); intro gb159 hg w12 hbox hb; have n_ := z (below_step za_ hb) <| z (hbox) <| z ((by rw [hg]; exact (below_size za_) : w.heap.size ≤ gb159)) <| z1 ((by rw [hg]; exact (below_size za_) : w.heap.size ≤ gb159)); clear HB; obtain ⟨HB, BK159, GW159, GE159⟩ := n_; clear hb hbox hg; have hcz13_0 : w12.cell? ⟨gb159, 0, none⟩ = some (.int .i64 a0_0) := (blk_cell BK159.out 0).trans rfl; have hcz13_1 : w12.cell? ⟨gb159, 1, none⟩ = some (.slice A0_1 l0_1.length c0_1) := (blk_cell BK159.out 1).trans rfl; have hfz13_0 := blk_frozen BK159.out 0; have hfz13_1 := blk_frozen BK159.out 1)))
   go_ret
   exact ⟨zf_, zjd_⟩
 ·rw [if_neg c2] at H
  have c2b0 : decide (0 ≤ a0_0) = false := decide_eq_false c2; clear c2; obtain rfl := Option.some.inj H
  go_enter Try.func127, Try.ntmps127
  go_wp2_with (first | ((with_reducible refine gate_dst (N := 1) rfl ?_); (try (refine gate_guard (by rfl) ?_; dsimp only)); refine box_event ?hg (N := 1) ?hd (cs := #[.int .i64 a0_0, .slice A0_1 l0_1.length c0_1]) (t := 60) ?hr ?_; (case hd => rfl); (case hg => rfl); (case hr => exact zc_); intro gb159 hg w14 hbox hb; have n_ := z (below_step za_ hb) <| z (hbox) <| z ((by rw [hg]; exact (below_size za_) : w.heap.size ≤ gb159)) <| z1 ((by rw [hg]; exact (below_size za_) : w.heap.size ≤ gb159)); clear HB; obtain ⟨HB, BK159, GW159, GE159⟩ := n_; clear hb hbox hg; have hcz15_0 : w14.cell? ⟨gb159, 0, none⟩ = some (.int .i64 a0_0) := (blk_cell BK159.out 0).trans rfl; have hcz15_1 : w14.cell? ⟨gb159, 1, none⟩ = some (.slice A0_1 l0_1.length c0_1) := (blk_cell BK159.out 1).trans rfl; have hfz15_0 := blk_frozen BK159.out 0; have hfz15_1 := blk_frozen BK159.out 1))
  repeat (go_quiet (first | ((with_reducible refine gate_dst (N := 1) rfl ?_); (try (refine gate_guard (by rfl) ?_; dsimp only)); refine box_event ?hg (N := 1) ?hd (cs := #[.int .i64 a0_0, .slice A0_1 l0_1.length c0_1]) (t := 60) ?hr ?_; (case hd => rfl); (case hg => rfl); (case hr => exact zc_); intro gb159 hg w14 hbox hb; have n_ := z (below_step za_ hb) <| z (hbox) <| z ((by rw [hg]; exact (below_size za_) : w.heap.size ≤ gb159)) <| z1 ((by rw [hg]; exact (below_size za_) : w.heap.size ≤ gb159)); clear HB; obtain ⟨HB, BK159, GW159, GE159⟩ := n_; clear hb hbox hg; have hcz15_0 : w14.cell? ⟨gb159, 0, none⟩ = some (.int .i64 a0_0) := (blk_cell BK159.out 0).trans rfl; have hcz15_1 : w14.cell? ⟨gb159, 1, none⟩ = some (.slice A0_1 l0_1.length c0_1) := (blk_cell BK159.out 1).trans rfl; have hfz15_0 := blk_frozen BK159.out 0; have hfz15_1 := blk_frozen BK159.out 1)); try go_wp2_with (first | ((with_reducible refine gate_dst (N := 1) rfl ?_); (try (refine gate_guard (by rfl) ?_; dsimp only)); refine box_event ?hg (N := 1) ?hd (cs := #[.int .i64 a0_0, .slice A0_1 l0_1.length c0_1]) (t := 60) ?hr ?_; (case hd => rfl); (case hg => rfl); (case hr => exact zc_); intro gb159 hg w14 hbox hb; have n_ := z (below_step za_ hb) <| z (hbox) <| z ((by rw [hg]; exact (below_size za_) : w.heap.size ≤ gb159)) <| z1 ((by rw [hg]; exact (below_size za_) : w.heap.size ≤ gb159)); clear HB; obtain ⟨HB, BK159, GW159, GE159⟩ := n_; clear hb hbox hg; have hcz15_0 : w14.cell? ⟨gb159, 0, none⟩ = some (.int .i64 a0_0) := (blk_cell BK159.out 0).trans rfl; have hcz15_1 : w14.cell? ⟨gb159, 1, none⟩ = some (.slice A0_1 l0_1.length c0_1) := (blk_cell BK159.out 1).trans rfl; have hfz15_0 := blk_frozen BK159.out 0; have hfz15_1 := blk_frozen BK159.out 1)))
  go_ret
  exact ⟨zf_, zjd_⟩
def impl_implies.l0 : Nat → List Int → Int → Int → Int → Int → Option (Bool)
 | 0, _, _, _, _, _ => none
 | k + 1, x8, x9, x10, x163000, x163001 => if x10 < x9 then (if 0 ≤ x10 then (if x10 < (x8.length : Int) then (if (rd x8 x10) = 0 then (if (Go.bits .and .i64 x10 x163000) = x163001 then (some false) else (impl_implies.l0 k x8 x9 (wrap64 (x10 + 1)) x163000 x163001)) else (impl_implies.l0 k x8 x9 (wrap64 (x10 + 1)) x163000 x163001)) else (none)) else (none)) else (some true)
def impl_implies.f (k : Nat) (a0_0 : Int) (l0_1 : List Int) (a1_0 : Int) (a1_1 : Int) : Option (Bool) := impl_implies.l0 k l0_1 (l0_1.length : Int) 0 a1_0 a1_1
theorem impl_implies.calls (k : Nat) (a0_0 : Int) (A0_1 : Option Addr) (c0_1 : Nat) (l0_1 : List Int) (a1_0 : Int) (a1_1 : Int) (r : Bool) (w : World) (hr0_1 : Kd.C (Kd.int .i64) w A0_1 l0_1.length l0_1) (hc0_1 : l0_1.length ≤ c0_1) (h : impl_implies.f k a0_0 l0_1 a1_0 a1_1 = some r) :
  Calls Try.prog 140 #[.agg #[.int .i64 a0_0, .slice A0_1 l0_1.length c0_1], .agg #[.int .i64 a1_0, .int .i64 a1_1]] w fun e w' => e = .returned (.bool r) ∧ Below w.heap.size w w' := by
 have hu60 := Try.underlying60
 have hu72 := Try.underlying72
 have HR0_1 := aM hr0_1
 have HC0_1 := aM hc0_1
 clear hr0_1 hc0_1
 have HB := aM (Below.refl w.heap.size w)
 have H : (impl_implies.l0 k l0_1 (l0_1.length : Int) 0 a1_0 a1_1) = some r := h
 clear h
 have H' := aM H
 clear H
 go_enter Try.func140, Try.ntmps140
 go_wp2_with (first | ((with_reducible refine gate_dst (N := 2) rfl ?_); refine box_event ?hg (N := 2) ?hd (cs := #[.int .i64 a0_0, .slice A0_1 l0_1.length c0_1]) (t := 60) ?hr ?_; (case hd => rfl); (case hg => rfl); (case hr => exact zc_); intro gb161 hg w3 hbox hb; have n_ := z (below_step za_ hb) <| z (hbox) <| z ((by rw [hg]; exact (below_size za_) : w.heap.size ≤ gb161)) <| z1 ((by rw [hg]; exact (below_size za_) : w.heap.size ≤ gb161)); clear HB; obtain ⟨HB, BK161, GW161, GE161⟩ := n_; clear hb hbox hg) | ((with_reducible refine gate_dst (N := 3) rfl ?_); refine box_event ?hg (N := 3) ?hd (cs := #[.int .i64 a1_0, .int .i64 a1_1]) (t := 72) ?hr ?_; (case hd => rfl); (case hg => rfl); (case hr => exact zc_); intro gb162 hg w4 hbox hb; have n_ := z (blk_below (zb BK161.out) hb) <| z (below_step zbag_ hb) <| z (hbox) <| z ((by rw [hg]; exact (below_size zbag_) : w.heap.size ≤ gb162)) <| z ((by rw [hg]; exact (below_size zbag_) : w.heap.size ≤ gb162)) <| z ((by rw [hg]; exact Nat.ne_of_lt (blk_lt (zb BK161.out)) : gb161 ≠ gb162)) <| z1 ((by rw [hg]; exact Nat.ne_of_gt (blk_lt (zb BK161.out)) : gb162 ≠ gb161)); clear BK161 HB; obtain ⟨BK161, HB, BK162, GW162, GE162, NB161_162, NB162_161⟩ := n_; clear hb hbox hg; have hnb5 := NB161_162.out; have hnc5 := NB162_161.out; have hcz6_0 : w4.cell? ⟨gb161, 0, none⟩ = some (.int .i64 a0_0) := (blk_cell BK161.out 0).trans rfl; have hcz6_1 : w4.cell? ⟨gb161, 1, none⟩ = some (.slice A0_1 l0_1.length c0_1) := (blk_cell BK161.out 1).trans rfl; have hfz6_0 := blk_frozen BK161.out 0; have hfz6_1 := blk_frozen BK161.out 1))
 go_loopg [10] k (fun kq v10 w' => ∃ (x10_1 : Int), v10 = .int .i64 x10_1 ∧ Aside0 (impl_implies.l0 kq l0_1 (l0_1.length : Int) x10_1 a1_0 a1_1 = some r) ∧ Aside0 (kq ≤ k) ∧ Aside0 (w'.heap[gb161]? = some (.cells #[.int .i64 a0_0, (.slice A0_1 l0_1.length c0_1)] 60 (0, 0))) ∧ Aside0 (w'.heap[gb162]? = some (.cells #[.int .i64 a1_0, .int .i64 a1_1] 72 (0, 0))) ∧ Aside0 (Below w.heap.size w w'))
 case atStart => exact ⟨(0), zb_, H', ⟨Nat.le_refl _⟩, ⟨zb BK161.out⟩, ⟨zb BK162.out⟩, ⟨zia_⟩⟩
 case round =>
  clear H'; (try clear hcz6_0); (try clear hcz6_1); (try clear hfz6_0); (try clear hfz6_1); obtain ⟨x10_1, rfl, HA, HK1, BK161, BK162, HB⟩ := hrel
  cases gk with
  | zero => exact absurd HA.out (by simp [impl_implies.l0])
  | succ k1 =>
   have H := HA.out; clear HA
   simp only [impl_implies.l0] at H
   by_cases c7 : x10_1 < (l0_1.length : Int)
   ·rw [if_pos c7] at H
    have c7b0 := decide_eq_true c7; clear c7
    by_cases c8 : 0 ≤ x10_1
    ·rw [if_pos c8] at H
     have c8b0 := decide_eq_true c8; clear c8
     by_cases c9 : x10_1 < (l0_1.length : Int)
     ·rw [if_pos c9] at H
      have c9b0 := decide_eq_true c9; clear c9
      by_cases c10 : (rd l0_1 x10_1) = 0
      ·rw [if_pos c10] at H
       have c10b0 := beq_iff_eq.mpr c10; have c10b1 := bne_eq_false_iff_eq.mpr c10; clear c10
       by_cases c11 : (Go.bits .and .i64 x10_1 a1_0) = a1_1
       ·rw [if_pos c11] at H
        have c11b0 := beq_iff_eq.mpr c11; have c11b1 := bne_eq_false_iff_eq.mpr c11; clear c11; obtain rfl := Option.some.inj H; have p163 : 0 ≤ (x10_1 : Int) := of_decide_eq_true zd_; have q163 : x10_1 < (l0_1.length : Int) := of_decide_eq_true zd_; obtain ⟨ad163, e163, hx163_0⟩ := Kd.at_int HR0_1.out x10_1 p163 q163
        cases e163
        (try (replace hx163_0 := (HB.out.cell (World.block_lt_of_cell? w _ hx163_0)).trans hx163_0)); replace p163 := eq_true p163; replace q163 := eq_true q163; have hnb12 := NB162_161.out; have hnc12 := NB161_162.out; have hcz13_0 : wr.cell? ⟨gb162, 0, none⟩ = some (.int .i64 a1_0) := (blk_cell BK162.out 0).trans rfl; have hcz13_1 : wr.cell? ⟨gb162, 1, none⟩ = some (.int .i64 a1_1) := (blk_cell BK162.out 1).trans rfl; have hfz13_0 := blk_frozen BK162.out 0; have hfz13_1 := blk_frozen BK162.out 1
        go_wp2
        go_ret
        exact ⟨zf_, zia_⟩
       ·rw [if_neg c11] at H
        have c11b0 := beq_eq_false_iff_ne.mpr c11; have c11b1 := bne_iff_ne.mpr c11; have H' := aM H; clear H; have p163 : 0 ≤ (x10_1 : Int) := of_decide_eq_true zd_; have q163 : x10_1 < (l0_1.length : Int) := of_decide_eq_true zd_; obtain ⟨ad163, e163, hx163_0⟩ := Kd.at_int HR0_1.out x10_1 p163 q163
        cases e163
        (try (replace hx163_0 := (HB.out.cell (World.block_lt_of_cell? w _ hx163_0)).trans hx163_0)); replace p163 := eq_true p163; replace q163 := eq_true q163; have hnb14 := NB162_161.out; have hnc14 := NB161_162.out; have hcz15_0 : wr.cell? ⟨gb162, 0, none⟩ = some (.int .i64 a1_0) := (blk_cell BK162.out 0).trans rfl; have hcz15_1 : wr.cell? ⟨gb162, 1, none⟩ = some (.int .i64 a1_1) := (blk_cell BK162.out 1).trans rfl; have hfz15_0 := blk_frozen BK162.out 0; have hfz15_1 := blk_frozen BK162.out 1
        go_wp2
        go_roundg k1
        case measure => have := HK1.out; omega
        case rel => exact ⟨(wrap64 (x10_1 + 1)), zb_, H', ⟨zba_⟩, ⟨zb BK161.out⟩, ⟨zb BK162.out⟩, ⟨zia_⟩⟩
      ·rw [if_neg c10] at H
       have c10b0 := beq_eq_false_iff_ne.mpr c10; have c10b1 := bne_iff_ne.mpr c10; have H' := aM H; clear H; have p163 : 0 ≤ (x10_1 : Int) := of_decide_eq_true zd_; have q163 : x10_1 < (l0_1.length : Int) := of_decide_eq_true zd_; obtain ⟨ad163, e163, hx163_0⟩ := Kd.at_int HR0_1.out x10_1 p163 q163
       cases e163
       (try (replace hx163_0 := (HB.out.cell (World.block_lt_of_cell? w _ hx163_0)).trans hx163_0)); replace p163 := eq_true p163; replace q163 := eq_true q163
       go_wp2
       go_roundg k1
       case measure => have := HK1.out; omega
       case rel => exact ⟨(wrap64 (x10_1 + 1)), zb_, H', ⟨zba_⟩, ⟨zb BK161.out⟩, ⟨zb BK162.out⟩, ⟨zia_⟩⟩
     ·rw [if_neg c9] at H
      exact absurd H (by simp)
    ·rw [if_neg c8] at H
     exact absurd H (by simp)
   ·rw [if_neg c7] at H
    have c7b0 := decide_eq_false c7; clear c7; obtain rfl := Option.some.inj H
    go_wp2
    go_ret
    exact ⟨zf_, zia_⟩
end Go.Proofs.Ytbkighlfgaifeaa.QFnLeastSums
