/- Functions of the law FnPrimes, each as a Lean function, and the proofs that the Go code comes to their answers. Made by wip/gen/slim.py. Conditions: those of each theorem. -/
import Derived.Test.YtbkighlfgaifeaaSFnPrimesx0
import Derived.Test.YtbkighlfgaifeaaSFnPrimesx6
import Derived.Test.YtbkighlfgaifeaaSFnPrimesx7
import Derived.Test.YtbkighlfgaifeaaSFnPrimesx8
namespace Go.Proofs.Ytbkighlfgaifeaa.QFnPrimes
open Go.RowKit Go.Proofs.YtbkighlfgaifeaaW.PrintWords Go.Proofs.YtbkighlfgaifeaaW.PrintLast Go.Proofs.YtbkighlfgaifeaaW.PrintMore
open Go.Proofs.YtbkighlfgaifeaaW.PrintWords renaming pw_below_drewN → pN, below_drew1 → p1, below_alloc → pA
open Go.Proofs.YtbkighlfgaifeaaW.PrintWords.Kd renaming R_alloc → kA, R_drewN → kN, R_drew → kD, Q_alloc → qA, Q_drewN → qN, Q_drew → qD, C_alloc → cA, C_drewN → cN, C_drew → cD
open Go.Proofs.YtbkighlfgaifeaaW.PrintWords.Aside0 renaming mk → aM
open List renaming setIfInBounds_toArray → sI, set_cons_zero → s0, set_cons_succ → sS, map_toArray → mT, length_take → lT, length_drop → lD, map_cons → mC, map_nil → mN
open Option renaming bind_eq_some_iff → oB, bind_some → oS
attribute [local go_sem] max2_int min2_int max_two min_two max_three min_three max_four min_four
set_option maxHeartbeats 8000000
set_option maxRecDepth 100000
set_option linter.unusedVariables false
set_option linter.unusedSimpArgs false
mutual
def spec_EssentialTerms.l0 : Nat → List Int → List (S72) → List (S72) → Int → Int → Option ((List (S72)) × Bool)
 | 0, _, _, _, _, _ => none
 | k + 1, x5, x6, x20, x21, x22 => if x22 < x21 then (if 0 ≤ x22 then (if x22 < (x20.length : Int) then (spec_EssentialTerms.l1 k x5 x6 x22 0 x20 x21 x22 x5 (x5.length : Int) 0 ((rd_T72 x20 x22).f0) ((rd_T72 x20 x22).f1)) else (none)) else (none)) else (some (x6, true))
def spec_EssentialTerms.l1 : Nat → List Int → List (S72) → Int → Int → List (S72) → Int → Int → List Int → Int → Int → Int → Int → Option ((List (S72)) × Bool)
 | 0, _, _, _, _, _, _, _, _, _, _, _, _ => none
 | k + 1, x5, x6, x7, x9, x20, x21, x22, x27, x28, x29, x290000, x290001 => if x29 < x28 then (if 0 ≤ x29 then (if x29 < (x27.length : Int) then (if x29 = x7 then (spec_EssentialTerms.l1 k x5 x6 x7 x9 x20 x21 x22 x27 x28 (wrap64 (x29 + 1)) x290000 x290001) else (spec_EssentialTerms.l1 k x5 x6 x7 (Go.bits .or .i64 x9 (rd x27 x29)) x20 x21 x22 x27 x28 (wrap64 (x29 + 1)) x290000 x290001)) else (none)) else (none)) else (if 0 ≤ x7 then (if x7 < (x5.length : Int) then (if (Go.bits .andNot .i64 (rd x5 x7) x9) = 0 then (spec_EssentialTerms.l0 k x5 x6 x20 x21 (wrap64 (x22 + 1))) else (if x6.length < 8796093022208 then (spec_EssentialTerms.l0 k x5 (x6 ++ [(⟨x290000, x290001⟩ : S72)]) x20 x21 (wrap64 (x22 + 1))) else (none))) else (none)) else (none))
end
def spec_EssentialTerms.f (k : Nat) (a0_0 : Int) (l0_1 : List Int) : Option ((List (S72)) × Bool) := (spec_ttGood.f k a0_0 l0_1).bind fun t281 => (if t281 = true then ((spec_nfPrimes.f k a0_0 l0_1).bind fun t282 => ((spec_nfCovers.f k a0_0 l0_1 t282).bind fun t285 => (spec_EssentialTerms.l0 k t285 ([] : List (S72)) t282 (t282.length : Int) 0))) else (some (([] : List (S72)), false)))
theorem spec_EssentialTerms.calls (k : Nat) (a0_0 : Int) (A0_1 : Option Addr) (c0_1 : Nat) (l0_1 : List Int) (r1 : List (S72)) (r2 : Bool) (w : World) (hr0_1 : Kd.C (Kd.int .i64) w A0_1 l0_1.length l0_1) (hc0_1 : l0_1.length ≤ c0_1) (h : spec_EssentialTerms.f k a0_0 l0_1 = some (r1, r2)) :
  Calls Try.prog 47 #[.agg #[.int .i64 a0_0, .slice A0_1 l0_1.length c0_1]] w fun e w' => ∃ v0_ : Value, e = .returned (.tuple #[v0_, .bool r2]) ∧ Kd.R k72 72 w' w.heap.size (fun _ => True) v0_ r1 ∧ Below w.heap.size w w' := by
 have hu60 := Try.underlying60
 have hu72 := Try.underlying72
 have HR0_1 := aM hr0_1
 have HC0_1 := aM hc0_1
 clear hr0_1 hc0_1
 have HB := aM (Below.refl w.heap.size w)
 have H : ((spec_ttGood.f k a0_0 l0_1).bind fun t281 => (if t281 = true then ((spec_nfPrimes.f k a0_0 l0_1).bind fun t282 => ((spec_nfCovers.f k a0_0 l0_1 t282).bind fun t285 => (spec_EssentialTerms.l0 k t285 ([] : List (S72)) t282 (t282.length : Int) 0))) else (some (([] : List (S72)), false)))) = some (r1, r2) := h
 clear h
 replace H := oB.mp H
 obtain ⟨t281, A20, H⟩ := H
 replace H : (if t281 = true then ((spec_nfPrimes.f k a0_0 l0_1).bind fun t282 => ((spec_nfCovers.f k a0_0 l0_1 t282).bind fun t285 => (spec_EssentialTerms.l0 k t285 ([] : List (S72)) t282 (t282.length : Int) 0))) else (some (([] : List (S72)), false))) = some (r1, r2) := H
 have A2 := aM A20
 clear A20
 by_cases c3 : t281 = true
 ·subst c3
  have H1 : ((spec_nfPrimes.f k a0_0 l0_1).bind fun t282 => ((spec_nfCovers.f k a0_0 l0_1 t282).bind fun t285 => (spec_EssentialTerms.l0 k t285 ([] : List (S72)) t282 (t282.length : Int) 0))) = some (r1, r2) := by rw [if_pos rfl] at H; exact H
  clear H; have H := H1; clear H1; replace H := oB.mp H; obtain ⟨t282, A40, H⟩ := H; replace H : ((spec_nfCovers.f k a0_0 l0_1 t282).bind fun t285 => (spec_EssentialTerms.l0 k t285 ([] : List (S72)) t282 (t282.length : Int) 0)) = some (r1, r2) := H; have A4 := aM A40; clear A40; replace H := oB.mp H; obtain ⟨t285, A50, H⟩ := H; replace H : (spec_EssentialTerms.l0 k t285 ([] : List (S72)) t282 (t282.length : Int) 0) = some (r1, r2) := H; have A5 := aM A50; clear A50; have H' := aM H; clear H
  go_enter Try.func47, Try.ntmps47
  go_wp2_with (first | ((with_reducible refine gate_dst (N := 1) rfl ?_); refine box_event ?hg (N := 1) ?hd (cs := #[.int .i64 a0_0, .slice A0_1 l0_1.length c0_1]) (t := 60) ?hr ?_; (case hd => rfl); (case hg => rfl); (case hr => exact zc_); intro gb280 hg w6 hbox hb; have n_ := z (below_step za_ hb) <| z (hbox) <| z ((by rw [hg]; exact (below_size za_) : w.heap.size ≤ gb280)) <| z1 ((by rw [hg]; exact (below_size za_) : w.heap.size ≤ gb280)); clear HB; obtain ⟨HB, BK280, GW280, GE280⟩ := n_; clear hb hbox hg; have hcz7_0 : w6.cell? ⟨gb280, 0, none⟩ = some (.int .i64 a0_0) := (blk_cell BK280.out 0).trans rfl; have hcz7_1 : w6.cell? ⟨gb280, 1, none⟩ = some (.slice A0_1 l0_1.length c0_1) := (blk_cell BK280.out 1).trans rfl; have hfz7_0 := blk_frozen BK280.out 0; have hfz7_1 := blk_frozen BK280.out 1) | ((with_reducible refine gate_callee (f := 131) rfl ?_); refine goesL_ (some 13) rfl rfl Try.func131 (by kernel_rfl) rfl #[.agg #[.int .i64 a0_0, .slice A0_1 l0_1.length c0_1]] rfl ze_ ?_; (with_reducible refine (spec_ttGood.calls k a0_0 _ _ l0_1 true _ ?side1 ?side2 A2.out).mono ?_); (case side1 => exact zba_); (case side2 => exact HC0_1.out); rintro e w8 ⟨rfl, hb⟩; refine ⟨_, rfl, ?_⟩; have n_ := z (blk_below (g := gb280) (o := .cells #[.int .i64 a0_0, .slice A0_1 l0_1.length c0_1] 60 (0, 0)) (zb BK280.out) hb) <| z1 (below_step zdc_ hb); clear BK280 HB; obtain ⟨BK280, HB⟩ := n_; (try clear hb); have hcz9_0 : w8.cell? ⟨gb280, 0, none⟩ = some (.int .i64 a0_0) := (blk_cell BK280.out 0).trans rfl; have hcz9_1 : w8.cell? ⟨gb280, 1, none⟩ = some (.slice A0_1 l0_1.length c0_1) := (blk_cell BK280.out 1).trans rfl; have hfz9_0 := blk_frozen BK280.out 0; have hfz9_1 := blk_frozen BK280.out 1) | ((with_reducible refine gate_callee (f := 132) rfl ?_); refine goesL_ (some 16) rfl rfl Try.func132 (by kernel_rfl) rfl #[.agg #[.int .i64 a0_0, .slice A0_1 l0_1.length c0_1]] rfl ze_ ?_; (with_reducible refine (spec_nfPrimes.calls k a0_0 _ _ l0_1 t282 _ ?side1 ?side2 A4.out).mono ?_); (case side1 => exact zba_); (case side2 => exact HC0_1.out); rintro e w10 ⟨v283, rfl, ho0, hb⟩; refine ⟨_, rfl, ?_⟩; have n_ := z (Kd.R_lower ho0 (below_size zdc_)) <| z (blk_below (g := gb280) (o := .cells #[.int .i64 a0_0, .slice A0_1 l0_1.length c0_1] 60 (0, 0)) (zb BK280.out) hb) <| z1 (below_step zdc_ hb); clear BK280 HB; obtain ⟨HO284, BK280, HB⟩ := n_; (try clear hb); (try clear ho0); have hcz11_0 : w10.cell? ⟨gb280, 0, none⟩ = some (.int .i64 a0_0) := (blk_cell BK280.out 0).trans rfl; have hcz11_1 : w10.cell? ⟨gb280, 1, none⟩ = some (.slice A0_1 l0_1.length c0_1) := (blk_cell BK280.out 1).trans rfl; have hfz11_0 := blk_frozen BK280.out 0; have hfz11_1 := blk_frozen BK280.out 1; obtain ⟨Ao12, co12, eo12⟩ := Kd.R_slice HO284.out; subst eo12) | ((with_reducible refine gate_callee (f := 133) rfl ?_); refine goesL_ (some 19) rfl rfl Try.func133 (by kernel_rfl) rfl #[.agg #[.int .i64 a0_0, .slice A0_1 l0_1.length c0_1], .slice Ao12 t282.length co12] rfl ze_ ?_; (with_reducible refine (spec_nfCovers.calls k a0_0 _ _ l0_1 _ _ t282 t285 _ ?side1 ?side2 ?side3 ?side4 A5.out).mono ?_); (case side1 => exact zba_); (case side2 => exact HC0_1.out); (case side3 => repeat (first | exact (Kd.R_reads' HO284.out).2.2 | (with_reducible refine cA ?_ _) | (with_reducible refine cN ?_ _) | (with_reducible refine cD ?_))); (case side4 => exact (Kd.R_reads' HO284.out).2.1); rintro e w13 ⟨v286, rfl, ho0, hb⟩; refine ⟨_, rfl, ?_⟩; have n_ := z (Kd.R_below (zr HO284.out) hb) <| z (Kd.R_lower ho0 (below_size zdc_)) <| z (blk_below (g := gb280) (o := .cells #[.int .i64 a0_0, .slice A0_1 l0_1.length c0_1] 60 (0, 0)) (zb BK280.out) hb) <| z1 (below_step zdc_ hb); clear HO284 BK280 HB; obtain ⟨HO284, HO287, BK280, HB⟩ := n_; (try clear hb); (try clear ho0)))
  go_loopg [6, 22] k (fun kq v6 v22 w' => ∃ (x6_1 : List (S72)) (x22_1 : Int), v22 = .int .i64 x22_1 ∧ Aside0 (spec_EssentialTerms.l0 kq t285 x6_1 t282 (t282.length : Int) x22_1 = some (r1, r2)) ∧ Aside0 (kq ≤ k) ∧ Aside0 (Kd.R (Kd.int .i64) 3 w' w.heap.size (fun _ => True) v286 t285) ∧ Aside0 (Kd.R k72 72 w' w.heap.size (fun k_ => some k_ ≠ ((.slice Ao12 t282.length co12) : Value).ownBlock) v6 x6_1) ∧ Aside0 (Kd.R k72 72 w' w.heap.size (fun k_ => some k_ ≠ (v6 : Value).ownBlock) (.slice Ao12 t282.length co12) t282) ∧ Aside0 (w'.heap[gb280]? = some (.cells #[.int .i64 a0_0, (.slice A0_1 l0_1.length c0_1)] 60 (0, 0))) ∧ Aside0 (Below w.heap.size w w'))
  case atStart => exact ⟨(([] : List (S72))), (0), zd_, H', ⟨Nat.le_refl _⟩, ⟨zr HO287.out⟩, ⟨zdf_⟩, ⟨by refine zr ?_; exact Kd.R_mono HO284.out (fun _ hk => (by simp [Value.ownBlock]))⟩, ⟨zb BK280.out⟩, ⟨zdc_⟩⟩
  case round =>
   clear H'; (try clear c1); (try clear p2); (try clear c3); (try clear c4); (try clear c13); (try clear hcz11_0); (try clear hcz11_1); (try clear hcz7_0); (try clear hcz7_1); (try clear hcz9_0); (try clear hcz9_1); (try clear hfz11_0); (try clear hfz11_1); (try clear hfz7_0); (try clear hfz7_1); (try clear hfz9_0); (try clear hfz9_1); obtain ⟨x6_1, x22_1, rfl, HA, HK1, HO_5, HO_6, HO_20, BK280, HB⟩ := hrel
   cases gk with
   | zero => exact absurd HA.out (by simp [spec_EssentialTerms.l0])
   | succ k1 =>
    have H := HA.out; clear HA
    simp only [spec_EssentialTerms.l0] at H
    by_cases c14 : x22_1 < (t282.length : Int)
    ·rw [if_pos c14] at H
     have c14b0 : decide (x22_1 < (t282.length : Int)) = true := decide_eq_true c14; clear c14
     by_cases c15 : 0 ≤ x22_1
     ·rw [if_pos c15] at H
      have c15b0 : decide (0 ≤ x22_1) = true := decide_eq_true c15; clear c15
      by_cases c16 : x22_1 < (t282.length : Int)
      ·rw [if_pos c16] at H
       have c16b0 : decide (x22_1 < (t282.length : Int)) = true := decide_eq_true c16; clear c16; have H' := aM H; clear H; have p288 : 0 ≤ (x22_1 : Int) := of_decide_eq_true zb_; have q288 : x22_1 < (t282.length : Int) := of_decide_eq_true zb_; obtain ⟨ad288, e288, hx288_0, hx288_1⟩ := at_T72 (Kd.R_reads' HO_20.out).2.2 x22_1 p288 q288
       cases e288
       replace p288 := eq_true p288; replace q288 := eq_true q288
       go_wp2_with (first | ((with_reducible refine gate_dst (N := 8) rfl ?_); refine box_event ?hg (N := 8) ?hd (cs := #[.int .i64 0, .int .i64 0]) (t := 72) ?hr ?_; (case hd => rfl); (case hg => rfl); (case hr => exact zc_); intro gb289 hg w17 hbox hb; have n_ := z (Kd.R_below (zr HO_5.out) hb) <| z (Kd.R_below (Kd.R_elderB (zr HO_6.out) gb289 (Nat.le_of_eq hg.symm)) hb) <| z (Kd.R_below (Kd.R_elderB (zr HO_20.out) gb289 (Nat.le_of_eq hg.symm)) hb) <| z (blk_below (g := gb280) (o := .cells #[.int .i64 a0_0, .slice A0_1 l0_1.length c0_1] 60 (0, 0)) (zb BK280.out) hb) <| z (below_step zdc_ hb) <| z (hbox) <| z ((by rw [hg]; exact (below_size zdc_) : w.heap.size ≤ gb289)) <| z ((by rw [hg]; exact (below_size zdc_) : w.heap.size ≤ gb289)) <| z ((by rw [hg]; exact Nat.ne_of_lt (blk_lt (g := gb280) (o := .cells #[.int .i64 a0_0, .slice A0_1 l0_1.length c0_1] 60 (0, 0)) (zb BK280.out)) : gb280 ≠ gb289)) <| z1 ((by rw [hg]; exact Nat.ne_of_gt (blk_lt (g := gb280) (o := .cells #[.int .i64 a0_0, .slice A0_1 l0_1.length c0_1] 60 (0, 0)) (zb BK280.out)) : gb289 ≠ gb280)); clear HO_5 HO_6 HO_20 BK280 HB; obtain ⟨HO_5, HO_6, HO_20, BK280, HB, BK289, GW289, GE289, NB280_289, NB289_280⟩ := n_; clear hb hbox hg; have hnb18 := NB289_280.out; have hnc18 := NB280_289.out; have hcz19_0 : w17.cell? ⟨gb289, 0, none⟩ = some (.int .i64 0) := (blk_cell BK289.out 0).trans rfl; have hcz19_1 : w17.cell? ⟨gb289, 1, none⟩ = some (.int .i64 0) := (blk_cell BK289.out 1).trans rfl; have hfz19_0 := blk_frozen BK289.out 0; have hfz19_1 := blk_frozen BK289.out 1; obtain ⟨Ao20, co20, eo20⟩ := Kd.R_slice HO_5.out; subst eo20))
       go_loopg [9, 29] k1 (fun kq v9 v29 w' => ∃ (x9_2 : Int) (x29_2 : Int), v9 = .int .i64 x9_2 ∧ v29 = .int .i64 x29_2 ∧ Aside0 (spec_EssentialTerms.l1 kq t285 x6_1 x22_1 x9_2 t282 (t282.length : Int) x22_1 t285 (t285.length : Int) x29_2 ((rd_T72 t282 x22_1).f0) ((rd_T72 t282 x22_1).f1) = some (r1, r2)) ∧ Aside0 (kq ≤ k1) ∧ Aside0 (Kd.R (Kd.int .i64) 3 w' w.heap.size (fun _ => True) (.slice Ao20 t285.length co20) t285) ∧ Aside0 (Kd.R k72 72 w' w.heap.size (fun k_ => some k_ ≠ ((.slice (some ad288) t282.length co12) : Value).ownBlock ∧ k_ ≠ gb289) u6 x6_1) ∧ Aside0 (Kd.R k72 72 w' w.heap.size (fun k_ => some k_ ≠ (u6 : Value).ownBlock ∧ k_ ≠ gb289) (.slice (some ad288) t282.length co12) t282) ∧ Aside0 (Kd.R (Kd.int .i64) 3 w' w.heap.size (fun _ => True) (.slice Ao20 t285.length co20) t285) ∧ Aside0 (w'.heap[gb280]? = some (.cells #[.int .i64 a0_0, (.slice A0_1 l0_1.length c0_1)] 60 (0, 0))) ∧ Aside0 (w'.heap[gb289]? = some (.cells #[.int .i64 ((rd_T72 t282 x22_1).f0), .int .i64 ((rd_T72 t282 x22_1).f1)] 72 (0, 0))) ∧ Aside0 (Below w.heap.size w w'))
       case atStart => exact ⟨(0), (0), zd_, zd_, H', ⟨Nat.le_refl _⟩, ⟨by refine zr ?_; exact Kd.R_mono (Kd.R_far (p := ⟨gb289, 1, none⟩) (Kd.R_far (p := ⟨gb289, 0, none⟩) (Kd.R_types HO_5.out BK289.out (by decide)) (fun _ hk => hk.2) (.int .i64 ((rd_T72 t282 x22_1).f0))) (fun _ hk => hk.2) (.int .i64 ((rd_T72 t282 x22_1).f1))) (fun _ hk => trivial)⟩, ⟨by refine zr ?_; exact Kd.R_mono (Kd.R_far (p := ⟨gb289, 1, none⟩) (Kd.R_far (p := ⟨gb289, 0, none⟩) (Kd.R_mono HO_6.out (fun k_ hk => (⟨hk, hk.2⟩ : _ ∧ k_ ≠ gb289))) (fun _ hk => hk.2) (.int .i64 ((rd_T72 t282 x22_1).f0))) (fun _ hk => hk.2) (.int .i64 ((rd_T72 t282 x22_1).f1))) (fun _ hk => ⟨hk.1.1, hk.1.2⟩)⟩, ⟨by refine zr ?_; exact Kd.R_mono (Kd.R_far (p := ⟨gb289, 1, none⟩) (Kd.R_far (p := ⟨gb289, 0, none⟩) (Kd.R_mono HO_20.out (fun k_ hk => (⟨hk, hk.2⟩ : _ ∧ k_ ≠ gb289))) (fun _ hk => hk.2) (.int .i64 ((rd_T72 t282 x22_1).f0))) (fun _ hk => hk.2) (.int .i64 ((rd_T72 t282 x22_1).f1))) (fun _ hk => ⟨hk.1.1, hk.1.2⟩)⟩, ⟨by refine zr ?_; exact Kd.R_mono (Kd.R_far (p := ⟨gb289, 1, none⟩) (Kd.R_far (p := ⟨gb289, 0, none⟩) (Kd.R_types HO_5.out BK289.out (by decide)) (fun _ hk => hk.2) (.int .i64 ((rd_T72 t282 x22_1).f0))) (fun _ hk => hk.2) (.int .i64 ((rd_T72 t282 x22_1).f1))) (fun _ hk => trivial)⟩, ⟨by refine zb ?_; refine blk_far ?_ NB280_289.out _; refine zb ?_; refine blk_far ?_ NB280_289.out _; refine zb ?_; exact BK280.out⟩, ⟨by refine zb ?_; refine blk_put (cs := #[.int .i64 ((rd_T72 t282 x22_1).f0), .int .i64 0]) ?_ 1 _ rfl; refine zb ?_; refine blk_put (cs := #[.int .i64 0, .int .i64 0]) ?_ 0 _ rfl; refine zb ?_; exact BK289.out⟩, ⟨zfa_⟩⟩
       case round =>
        clear H'; (try clear c1); (try clear p2); (try clear q2); (try clear hx2); (try clear c3); (try clear c4); (try clear c13); (try clear c14); (try clear c14b0); (try clear c15); (try clear c15b0); (try clear c16); (try clear c16b0); (try clear c18); (try clear hcz11_0); (try clear hcz11_1); (try clear hcz19_0); (try clear hcz19_1); (try clear hcz7_0); (try clear hcz7_1); (try clear hcz9_0); (try clear hcz9_1); (try clear hfz11_0); (try clear hfz11_1); (try clear hfz19_0); (try clear hfz19_1); (try clear hfz7_0); (try clear hfz7_1); (try clear hfz9_0); (try clear hfz9_1); (try clear hx288_0); (try clear hx288_1); (try clear p2); (try clear p288); (try clear q288); obtain ⟨x9_2, x29_2, rfl, rfl, HA, HK2, HO_5, HO_6, HO_20, HO_27, BK280, BK289, HB⟩ := hrel
        cases gk with
        | zero => exact absurd HA.out (by simp [spec_EssentialTerms.l1])
        | succ k2 =>
         have H := HA.out; clear HA
         simp only [spec_EssentialTerms.l1] at H
         by_cases c21 : x29_2 < (t285.length : Int)
         ·rw [if_pos c21] at H
          have c21b0 : decide (x29_2 < (t285.length : Int)) = true := decide_eq_true c21; clear c21
          by_cases c22 : 0 ≤ x29_2
          ·rw [if_pos c22] at H
           have c22b0 : decide (0 ≤ x29_2) = true := decide_eq_true c22; clear c22
           by_cases c23 : x29_2 < (t285.length : Int)
           ·rw [if_pos c23] at H
            have c23b0 : decide (x29_2 < (t285.length : Int)) = true := decide_eq_true c23; clear c23
            by_cases c24 : x29_2 = x22_1
            ·rw [if_pos c24] at H
             have c24b0 : (x29_2 == x22_1) = true := beq_iff_eq.mpr c24; have c24b1 : (x29_2 != x22_1) = false := bne_eq_false_iff_eq.mpr c24; clear c24; have H' := aM H; clear H; have p290 : 0 ≤ (x29_2 : Int) := of_decide_eq_true zb_; have q290 : x29_2 < (t285.length : Int) := of_decide_eq_true zb_; obtain ⟨ad290, e290, hx290_0⟩ := Kd.at_int (Kd.R_reads' HO_27.out).2.2 x29_2 p290 q290
             cases e290
             replace p290 := eq_true p290; replace q290 := eq_true q290
             go_wp2
             go_roundg k2
             case measure => have := HK1.out; have := HK2.out; omega
             case rel => exact ⟨(x9_2), (wrap64 (x29_2 + 1)), zd_, zd_, H', ⟨zbj_⟩, ⟨zr HO_5.out⟩, ⟨zr HO_6.out⟩, ⟨zr HO_20.out⟩, ⟨zr HO_27.out⟩, ⟨zb BK280.out⟩, ⟨zb BK289.out⟩, ⟨zfa_⟩⟩
            ·rw [if_neg c24] at H
             have c24b0 : (x29_2 == x22_1) = false := beq_eq_false_iff_ne.mpr c24; have c24b1 : (x29_2 != x22_1) = true := bne_iff_ne.mpr c24; have H' := aM H; clear H; have p290 : 0 ≤ (x29_2 : Int) := of_decide_eq_true zb_; have q290 : x29_2 < (t285.length : Int) := of_decide_eq_true zb_; obtain ⟨ad290, e290, hx290_0⟩ := Kd.at_int (Kd.R_reads' HO_27.out).2.2 x29_2 p290 q290
             cases e290
             replace p290 := eq_true p290; replace q290 := eq_true q290
             go_wp2
             go_roundg k2
             case measure => have := HK1.out; have := HK2.out; omega
             case rel => exact ⟨(Go.bits .or .i64 x9_2 (rd t285 x29_2)), (wrap64 (x29_2 + 1)), zd_, zd_, H', ⟨zbj_⟩, ⟨zr HO_5.out⟩, ⟨zr HO_6.out⟩, ⟨zr HO_20.out⟩, ⟨zr HO_27.out⟩, ⟨zb BK280.out⟩, ⟨zb BK289.out⟩, ⟨zfa_⟩⟩
           ·rw [if_neg c23] at H
            exact absurd H (by simp)
          ·rw [if_neg c22] at H
           exact absurd H (by simp)
         ·rw [if_neg c21] at H
          have c21b0 : decide (x29_2 < (t285.length : Int)) = false := decide_eq_false c21; clear c21
          by_cases c25 : 0 ≤ x22_1
          ·rw [if_pos c25] at H
           have c25b0 : decide (0 ≤ x22_1) = true := decide_eq_true c25; clear c25
           by_cases c26 : x22_1 < (t285.length : Int)
           ·rw [if_pos c26] at H
            have c26b0 : decide (x22_1 < (t285.length : Int)) = true := decide_eq_true c26; clear c26
            by_cases c27 : (Go.bits .andNot .i64 (rd t285 x22_1) x9_2) = 0
            ·rw [if_pos c27] at H
             have c27b0 : ((Go.bits .andNot .i64 (rd t285 x22_1) x9_2) == 0) = true := beq_iff_eq.mpr c27; have c27b1 : ((Go.bits .andNot .i64 (rd t285 x22_1) x9_2) != 0) = false := bne_eq_false_iff_eq.mpr c27; clear c27; have H' := aM H; clear H; have p291 : 0 ≤ (x22_1 : Int) := of_decide_eq_true zb_; have q291 : x22_1 < (t285.length : Int) := of_decide_eq_true zb_; obtain ⟨ad291, e291, hx291_0⟩ := Kd.at_int (Kd.R_reads' HO_5.out).2.2 x22_1 p291 q291
             cases e291
             replace p291 := eq_true p291; replace q291 := eq_true q291
             go_wp2
             go_roundg k2
             case measure => have := HK1.out; have := HK2.out; omega
             case rel => exact ⟨(x6_1), (wrap64 (x22_1 + 1)), zd_, H', ⟨zbj_⟩, ⟨zr HO_5.out⟩, ⟨by refine zr ?_; exact Kd.R_mono HO_6.out (fun _ hk => hk.1)⟩, ⟨by refine zr ?_; exact Kd.R_mono HO_20.out (fun _ hk => hk.1)⟩, ⟨zb BK280.out⟩, ⟨zfa_⟩⟩
            ·rw [if_neg c27] at H
             have c27b0 : ((Go.bits .andNot .i64 (rd t285 x22_1) x9_2) == 0) = false := beq_eq_false_iff_ne.mpr c27; have c27b1 : ((Go.bits .andNot .i64 (rd t285 x22_1) x9_2) != 0) = true := bne_iff_ne.mpr c27
             by_cases c28 : x6_1.length < 8796093022208
             ·rw [if_pos c28] at H
              have LMc28 := aM c28; clear c28; obtain ⟨y292, hy292⟩ : ∃ y_ : List (S72), y_ = (x6_1 ++ [(⟨((rd_T72 t282 x22_1).f0), ((rd_T72 t282 x22_1).f1)⟩ : S72)]) := ⟨_, rfl⟩; replace H : (spec_EssentialTerms.l0 k2 t285 y292 t282 (t282.length : Int) (wrap64 (x22_1 + 1))) = some (r1, r2) := by first | (rw [hy292]; with_reducible exact H) | (have H2_ := (oS _ _).symm.trans H; rw [hy292]; with_reducible exact H2_) | (have H2_ := (oS _ _).symm.trans H; with_reducible exact H2_) | with_reducible exact H | (rw [hy292]; exact H) | exact H
              have Ny292 := aM hy292; clear hy292; have H' := aM H; clear H; have p291 : 0 ≤ (x22_1 : Int) := of_decide_eq_true zb_; have q291 : x22_1 < (t285.length : Int) := of_decide_eq_true zb_; obtain ⟨ad291, e291, hx291_0⟩ := Kd.at_int (Kd.R_reads' HO_5.out).2.2 x22_1 p291 q291
              cases e291
              replace p291 := eq_true p291; replace q291 := eq_true q291; have hnb29 := NB289_280.out; have hnc29 := NB280_289.out; have hcz30_0 : wr.cell? ⟨gb289, 0, none⟩ = some (.int .i64 ((rd_T72 t282 x22_1).f0)) := (blk_cell BK289.out 0).trans rfl; have hcz30_1 : wr.cell? ⟨gb289, 1, none⟩ = some (.int .i64 ((rd_T72 t282 x22_1).f1)) := (blk_cell BK289.out 1).trans rfl; have hfz30_0 := blk_frozen BK289.out 0; have hfz30_1 := blk_frozen BK289.out 1
              go_wp2_with (first | ((with_reducible refine gate_builtin (b := .append) (xs := #[.tmp 48, .tmp 50]) rfl ?_); at_builtin; refine Kd.R_append k72 (w0 := w) w.heap.size rfl (.tmp 48) (.tmp 50) 68 72 (.agg #[(.int .i64 0), (.int .i64 0)]) 16 rfl Try.underlying68 info72 rfl (by decide) (by omega) u6 x6_1 (⟨((rd_T72 t282 x22_1).f0), ((rd_T72 t282 x22_1).f1)⟩ : S72) [.int .i64 ((rd_T72 t282 x22_1).f0), .int .i64 ((rd_T72 t282 x22_1).f1)] (fun k_ => some k_ ≠ (.slice (some ad288) t282.length co12 : Value).ownBlock ∧ k_ ≠ gb289) (fun _ => False) rfl rfl ?aP (fun _ hk => hk.elim) ?aF ?aO ?aB ?aS ?aL ?_; (case aP => exact k72_mkM _ _ _ (⟨((rd_T72 t282 x22_1).f0), ((rd_T72 t282 x22_1).f1)⟩ : S72)); (case aB => exact zfa_); (case aF => exact (fun k_ hk => ⟨Kd.fresh' (Kd.R_lt (zr HO_20.out)) k_ hk, Kd.freshB (g := gb289) (o := .cells #[.int .i64 ((rd_T72 t282 x22_1).f0), .int .i64 ((rd_T72 t282 x22_1).f1)] 72 (0, 0)) (zb BK289.out) k_ hk⟩)); (case aO => exact (zr HO_6.out)); (case aS => exact (below_size zfa_)); (case aL => have := LMc28.out; omega); intro v293 w31 ho hb hg hat; rw [← Ny292.out] at ho; have n_ := z (Kd.R_over' (zr HO_5.out) (Kd.R_typed (zr HO_6.out)) (by decide) hg) <| z (Kd.R_after (ok := (fun k_ => k_ ≠ gb289)) (by refine zr ?_; exact Kd.R_mono HO_20.out (fun _ hk => ⟨hk.2, hk.1⟩)) hg hat) <| z (Kd.R_over' (zr HO_27.out) (Kd.R_typed (zr HO_6.out)) (by decide) hg) <| z (blk_grown (g := gb280) (o := .cells #[.int .i64 a0_0, .slice A0_1 l0_1.length c0_1] 60 (0, 0)) (zb BK280.out) hg (Kd.R_ne HO_6.out BK280.out (by decide))) <| z (blk_grown (g := gb289) (o := .cells #[.int .i64 ((rd_T72 t282 x22_1).f0), .int .i64 ((rd_T72 t282 x22_1).f1)] 72 (0, 0)) (zb BK289.out) hg (Kd.R_away HO_6.out (fun _ hk => hk.2))) <| z (hb) <| z1 (ho); clear HO_5 HO_20 HO_27 BK280 BK289 HB HO_6; obtain ⟨HO_5, HO_20, HO_27, BK280, BK289, HB, HO294⟩ := n_; clear ho hb hg hat))
              go_roundg k2
              case measure => have := HK1.out; have := HK2.out; omega
              case rel => exact ⟨(y292), (wrap64 (x22_1 + 1)), zd_, H', ⟨zbj_⟩, ⟨zr HO_5.out⟩, ⟨by refine zr ?_; exact Kd.R_mono HO294.out (fun _ hk => hk.1)⟩, ⟨by refine zr ?_; exact Kd.R_mono HO_20.out (fun _ hk => hk.2)⟩, ⟨zb BK280.out⟩, ⟨zfa_⟩⟩
             ·rw [if_neg c28] at H
              exact absurd H (by simp)
           ·rw [if_neg c26] at H
            exact absurd H (by simp)
          ·rw [if_neg c25] at H
           exact absurd H (by simp)
      ·rw [if_neg c16] at H
       exact absurd H (by simp)
     ·rw [if_neg c15] at H
      exact absurd H (by simp)
    ·rw [if_neg c14] at H
     have c14b0 : decide (x22_1 < (t282.length : Int)) = false := decide_eq_false c14; clear c14
     simp only [Option.some.injEq, Prod.mk.injEq] at H
     obtain ⟨rfl, rfl⟩ := H
     go_wp2
     go_ret2
     exact ⟨_, zi_, by refine zr ?_; exact Kd.R_mono HO_6.out (fun _ hk => trivial), zdc_⟩
 ·replace c3 := Bool.eq_false_iff.mpr c3
  subst c3; have H1 : (some (([] : List (S72)), false)) = some (r1, r2) := by rw [if_neg (show ¬ (false = true) by decide)] at H; exact H
  clear H; have H := H1; clear H1
  simp only [Option.some.injEq, Prod.mk.injEq] at H
  obtain ⟨rfl, rfl⟩ := H
  go_enter Try.func47, Try.ntmps47
  go_wp2_with (first | ((with_reducible refine gate_dst (N := 1) rfl ?_); refine box_event ?hg (N := 1) ?hd (cs := #[.int .i64 a0_0, .slice A0_1 l0_1.length c0_1]) (t := 60) ?hr ?_; (case hd => rfl); (case hg => rfl); (case hr => exact zc_); intro gb280 hg w32 hbox hb; have n_ := z (below_step za_ hb) <| z (hbox) <| z ((by rw [hg]; exact (below_size za_) : w.heap.size ≤ gb280)) <| z1 ((by rw [hg]; exact (below_size za_) : w.heap.size ≤ gb280)); clear HB; obtain ⟨HB, BK280, GW280, GE280⟩ := n_; clear hb hbox hg; have hcz33_0 : w32.cell? ⟨gb280, 0, none⟩ = some (.int .i64 a0_0) := (blk_cell BK280.out 0).trans rfl; have hcz33_1 : w32.cell? ⟨gb280, 1, none⟩ = some (.slice A0_1 l0_1.length c0_1) := (blk_cell BK280.out 1).trans rfl; have hfz33_0 := blk_frozen BK280.out 0; have hfz33_1 := blk_frozen BK280.out 1) | ((with_reducible refine gate_callee (f := 131) rfl ?_); refine goesL_ (some 13) rfl rfl Try.func131 (by kernel_rfl) rfl #[.agg #[.int .i64 a0_0, .slice A0_1 l0_1.length c0_1]] rfl ze_ ?_; (with_reducible refine (spec_ttGood.calls k a0_0 _ _ l0_1 false _ ?side1 ?side2 A2.out).mono ?_); (case side1 => exact zba_); (case side2 => exact HC0_1.out); rintro e w34 ⟨rfl, hb⟩; refine ⟨_, rfl, ?_⟩; have n_ := z (blk_below (g := gb280) (o := .cells #[.int .i64 a0_0, .slice A0_1 l0_1.length c0_1] 60 (0, 0)) (zb BK280.out) hb) <| z1 (below_step zdc_ hb); clear BK280 HB; obtain ⟨BK280, HB⟩ := n_; (try clear hb)))
  go_ret2
  exact ⟨_, zi_, zdf_, zdc_⟩
def spec_l1Most.f (a0 : Int) (a1 : Int) : Option (Int) := if a0 > a1 then (some a0) else (some a1)
theorem spec_l1Most.calls (a0 : Int) (a1 : Int) (r : Int) (w : World) (h : spec_l1Most.f a0 a1 = some r) :
  Calls Try.prog 106 #[.int .i64 a0, .int .i64 a1] w fun e w' => e = .returned (.int .i64 r) ∧ Drawn0 w w' := by
 have H : (if a0 > a1 then (some a0) else (some a1)) = some r := h
 clear h
 by_cases c3 : a0 > a1
 ·rw [if_pos c3] at H
  have c3b0 : decide (a1 < a0) = true := decide_eq_true c3; clear c3; obtain rfl := Option.some.inj H
  go_enter Try.func106, Try.ntmps106
  go_wp2
  go_ret
  exact ⟨zd_, zbb_⟩
 ·rw [if_neg c3] at H
  have c3b0 : decide (a1 < a0) = false := decide_eq_false c3; clear c3; obtain rfl := Option.some.inj H
  go_enter Try.func106, Try.ntmps106
  go_wp2
  go_ret
  exact ⟨zd_, zbb_⟩
def spec_l1Least.f (a0 : Int) (a1 : Int) : Option (Int) := if a0 < a1 then (some a0) else (some a1)
theorem spec_l1Least.calls (a0 : Int) (a1 : Int) (r : Int) (w : World) (h : spec_l1Least.f a0 a1 = some r) :
  Calls Try.prog 183 #[.int .i64 a0, .int .i64 a1] w fun e w' => e = .returned (.int .i64 r) ∧ Drawn0 w w' := by
 have H : (if a0 < a1 then (some a0) else (some a1)) = some r := h
 clear h
 by_cases c3 : a0 < a1
 ·rw [if_pos c3] at H
  have c3b0 : decide (a0 < a1) = true := decide_eq_true c3; clear c3; obtain rfl := Option.some.inj H
  go_enter Try.func183, Try.ntmps183
  go_wp2
  go_ret
  exact ⟨zd_, zbb_⟩
 ·rw [if_neg c3] at H
  have c3b0 : decide (a0 < a1) = false := decide_eq_false c3; clear c3; obtain rfl := Option.some.inj H
  go_enter Try.func183, Try.ntmps183
  go_wp2
  go_ret
  exact ⟨zd_, zbb_⟩
end Go.Proofs.Ytbkighlfgaifeaa.QFnPrimes
