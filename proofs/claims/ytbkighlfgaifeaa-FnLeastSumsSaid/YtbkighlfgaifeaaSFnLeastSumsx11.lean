/- Functions of FnLeastSums, each as a Lean function, with the proof that the Go code comes to its answers. -/
import Derived.Test.YtbkighlfgaifeaaSFnLeastSumsx0
import Derived.Test.YtbkighlfgaifeaaSFnLeastSumsx2
import Derived.Test.YtbkighlfgaifeaaSFnLeastSumsx4
import Derived.Test.YtbkighlfgaifeaaSFnLeastSumsx7
import Derived.Test.YtbkighlfgaifeaaSFnLeastSumsx9
import Derived.Test.YtbkighlfgaifeaaSFnLeastSumsx10
namespace Go.Proofs.Ytbkighlfgaifeaa.QFnLeastSums
open Go.RowKit Go.Proofs.YtbkighlfgaifeaaW.PrintWords Go.Proofs.YtbkighlfgaifeaaW.PrintLast Go.Proofs.YtbkighlfgaifeaaW.PrintMore
open Go.Proofs.YtbkighlfgaifeaaW.PrintWords renaming pw_below_drewN → pN, below_drew1 → p1, below_alloc → pA
open Go.Proofs.YtbkighlfgaifeaaW.PrintWords.Kd renaming R_alloc → kA, R_drewN → kN, R_drew → kD, Q_alloc → qA, Q_drewN → qN, Q_drew → qD, C_alloc → cA, C_drewN → cN, C_drew → cD
open Go.Proofs.YtbkighlfgaifeaaW.PrintWords.Aside0 renaming mk → aM
open List renaming setIfInBounds_toArray → sI, set_cons_zero → s0, set_cons_succ → sS, map_toArray → mT, length_take → lT, length_drop → lD, map_cons → mC, map_nil → mN
open Option renaming bind_eq_some_iff → oB
attribute [local go_sem] max2_int min2_int max_two min_two max_three min_three max_four min_four
set_option maxHeartbeats 8000000
set_option maxRecDepth 100000
set_option linter.unusedVariables false
set_option linter.unusedSimpArgs false
def impl_CountLeastSums.f (k : Nat) (a0_0 : Int) (l0_1 : List Int) : Option (Int × Bool) := (impl_IsTable.f k a0_0 l0_1).bind fun t327 => (if t327 = true then ((impl_leastSums.f k a0_0 l0_1).bind fun bt328 => (some (bt328.2, true))) else (some (0, false)))
theorem impl_CountLeastSums.calls (k : Nat) (a0_0 : Int) (A0_1 : Option Addr) (c0_1 : Nat) (l0_1 : List Int) (r1 : Int) (r2 : Bool) (w : World) (hr0_1 : Kd.C (Kd.int .i64) w A0_1 l0_1.length l0_1) (hc0_1 : l0_1.length ≤ c0_1) (h : impl_CountLeastSums.f k a0_0 l0_1 = some (r1, r2)) :
  Calls Try.prog 91 #[.agg #[.int .i64 a0_0, .slice A0_1 l0_1.length c0_1]] w fun e w' => e = .returned (.tuple #[.int .i64 r1, .bool r2]) ∧ Below w.heap.size w w' := by
 have hu60 := Try.underlying60
 have HR0_1 := aM hr0_1
 have HC0_1 := aM hc0_1
 clear hr0_1 hc0_1
 have HB := aM (Below.refl w.heap.size w)
 have H : ((impl_IsTable.f k a0_0 l0_1).bind fun t327 => (if t327 = true then ((impl_leastSums.f k a0_0 l0_1).bind fun bt328 => (some (bt328.2, true))) else (some (0, false)))) = some (r1, r2) := h
 clear h
 replace H := oB.mp H
 obtain ⟨t327, A20, H⟩ := H
 replace H : (if t327 = true then ((impl_leastSums.f k a0_0 l0_1).bind fun bt328 => (some (bt328.2, true))) else (some (0, false))) = some (r1, r2) := H
 have A2 := aM A20
 clear A20
 by_cases c3 : t327 = true
 ·subst c3
  have H1 : ((impl_leastSums.f k a0_0 l0_1).bind fun bt328 => (some (bt328.2, true))) = some (r1, r2) := by rw [if_pos rfl] at H; exact H
  clear H; have H := H1; clear H1; replace H := oB.mp H; obtain ⟨⟨t328, t331⟩, A40, H⟩ := H; replace H : (some (t331, true)) = some (r1, r2) := H; have A4 := aM A40; clear A40
  simp only [Option.some.injEq, Prod.mk.injEq] at H
  obtain ⟨rfl, rfl⟩ := H
  go_enter Try.func91, Try.ntmps91
  go_wp2_with (first | ((with_reducible refine gate_dst (N := 1) rfl ?_); refine box_event ?hg (N := 1) ?hd (cs := #[.int .i64 a0_0, .slice A0_1 l0_1.length c0_1]) (t := 60) ?hr ?_; (case hd => rfl); (case hg => rfl); (case hr => exact zc_); intro gb326 hg w5 hbox hb; have n_ := z (below_step za_ hb) <| z (hbox) <| z ((by rw [hg]; exact (below_size za_) : w.heap.size ≤ gb326)) <| z1 ((by rw [hg]; exact (below_size za_) : w.heap.size ≤ gb326)); clear HB; obtain ⟨HB, BK326, GW326, GE326⟩ := n_; clear hb hbox hg; have hcz6_0 : w5.cell? ⟨gb326, 0, none⟩ = some (.int .i64 a0_0) := (blk_cell BK326.out 0).trans rfl; have hcz6_1 : w5.cell? ⟨gb326, 1, none⟩ = some (.slice A0_1 l0_1.length c0_1) := (blk_cell BK326.out 1).trans rfl; have hfz6_0 := blk_frozen BK326.out 0; have hfz6_1 := blk_frozen BK326.out 1) | ((with_reducible refine gate_callee (f := 127) rfl ?_); refine goesL_ (some 7) rfl rfl Try.func127 (by kernel_rfl) rfl #[.agg #[.int .i64 a0_0, .slice A0_1 l0_1.length c0_1]] rfl ze_ ?_; (with_reducible refine (impl_IsTable.calls k a0_0 _ _ l0_1 true _ ?side1 ?side2 A2.out).mono ?_); (case side1 => exact zi_); (case side2 => exact HC0_1.out); rintro e w7 ⟨rfl, hb⟩; refine ⟨_, rfl, ?_⟩; have n_ := z (blk_below (zb BK326.out) hb) <| z1 (below_step zgh_ hb); clear BK326 HB; obtain ⟨BK326, HB⟩ := n_; clear hb; have hcz8_0 : w7.cell? ⟨gb326, 0, none⟩ = some (.int .i64 a0_0) := (blk_cell BK326.out 0).trans rfl; have hcz8_1 : w7.cell? ⟨gb326, 1, none⟩ = some (.slice A0_1 l0_1.length c0_1) := (blk_cell BK326.out 1).trans rfl; have hfz8_0 := blk_frozen BK326.out 0; have hfz8_1 := blk_frozen BK326.out 1) | ((with_reducible refine gate_callee (f := 167) rfl ?_); refine goesL_ (some 11) rfl rfl Try.func167 (by kernel_rfl) rfl #[.agg #[.int .i64 a0_0, .slice A0_1 l0_1.length c0_1]] rfl ze_ ?_; (with_reducible refine (impl_leastSums.calls k a0_0 _ _ l0_1 t328 t331 _ ?side1 ?side2 A4.out).mono ?_); (case side1 => exact zi_); (case side2 => exact HC0_1.out); rintro e w9 ⟨v329, rfl, ho0, hb⟩; refine ⟨_, rfl, ?_⟩; have n_ := z (Kd.R_lower ho0 (below_size zgh_)) <| z (blk_below (zb BK326.out) hb) <| z1 (below_step zgh_ hb); clear BK326 HB; obtain ⟨HO330, BK326, HB⟩ := n_; clear hb; (try clear ho0)))
  go_ret2
  exact ⟨zf_, zgh_⟩
 ·replace c3 := Bool.eq_false_iff.mpr c3
  subst c3; have H1 : (some (0, false)) = some (r1, r2) := by rw [if_neg (show ¬ (false = true) by decide)] at H; exact H
  clear H; have H := H1; clear H1
  simp only [Option.some.injEq, Prod.mk.injEq] at H
  obtain ⟨rfl, rfl⟩ := H
  go_enter Try.func91, Try.ntmps91
  go_wp2_with (first | ((with_reducible refine gate_dst (N := 1) rfl ?_); refine box_event ?hg (N := 1) ?hd (cs := #[.int .i64 a0_0, .slice A0_1 l0_1.length c0_1]) (t := 60) ?hr ?_; (case hd => rfl); (case hg => rfl); (case hr => exact zc_); intro gb326 hg w10 hbox hb; have n_ := z (below_step za_ hb) <| z (hbox) <| z ((by rw [hg]; exact (below_size za_) : w.heap.size ≤ gb326)) <| z1 ((by rw [hg]; exact (below_size za_) : w.heap.size ≤ gb326)); clear HB; obtain ⟨HB, BK326, GW326, GE326⟩ := n_; clear hb hbox hg; have hcz11_0 : w10.cell? ⟨gb326, 0, none⟩ = some (.int .i64 a0_0) := (blk_cell BK326.out 0).trans rfl; have hcz11_1 : w10.cell? ⟨gb326, 1, none⟩ = some (.slice A0_1 l0_1.length c0_1) := (blk_cell BK326.out 1).trans rfl; have hfz11_0 := blk_frozen BK326.out 0; have hfz11_1 := blk_frozen BK326.out 1) | ((with_reducible refine gate_callee (f := 127) rfl ?_); refine goesL_ (some 7) rfl rfl Try.func127 (by kernel_rfl) rfl #[.agg #[.int .i64 a0_0, .slice A0_1 l0_1.length c0_1]] rfl ze_ ?_; (with_reducible refine (impl_IsTable.calls k a0_0 _ _ l0_1 false _ ?side1 ?side2 A2.out).mono ?_); (case side1 => exact zi_); (case side2 => exact HC0_1.out); rintro e w12 ⟨rfl, hb⟩; refine ⟨_, rfl, ?_⟩; have n_ := z (blk_below (zb BK326.out) hb) <| z1 (below_step zgh_ hb); clear BK326 HB; obtain ⟨BK326, HB⟩ := n_; clear hb))
  go_ret2
  exact ⟨zf_, zgh_⟩
def spec_CountLeastSums.f (k : Nat) (a0_0 : Int) (l0_1 : List Int) : Option (Int × Bool) := (spec_ttGood.f k a0_0 l0_1).bind fun t333 => (if t333 = true then ((spec_nfLeast.f k a0_0 l0_1).bind fun bt334 => (some (bt334.2, true))) else (some (0, false)))
theorem spec_CountLeastSums.calls (k : Nat) (a0_0 : Int) (A0_1 : Option Addr) (c0_1 : Nat) (l0_1 : List Int) (r1 : Int) (r2 : Bool) (w : World) (hr0_1 : Kd.C (Kd.int .i64) w A0_1 l0_1.length l0_1) (hc0_1 : l0_1.length ≤ c0_1) (h : spec_CountLeastSums.f k a0_0 l0_1 = some (r1, r2)) :
  Calls Try.prog 92 #[.agg #[.int .i64 a0_0, .slice A0_1 l0_1.length c0_1]] w fun e w' => e = .returned (.tuple #[.int .i64 r1, .bool r2]) ∧ Below w.heap.size w w' := by
 have hu60 := Try.underlying60
 have HR0_1 := aM hr0_1
 have HC0_1 := aM hc0_1
 clear hr0_1 hc0_1
 have HB := aM (Below.refl w.heap.size w)
 have H : ((spec_ttGood.f k a0_0 l0_1).bind fun t333 => (if t333 = true then ((spec_nfLeast.f k a0_0 l0_1).bind fun bt334 => (some (bt334.2, true))) else (some (0, false)))) = some (r1, r2) := h
 clear h
 replace H := oB.mp H
 obtain ⟨t333, A20, H⟩ := H
 replace H : (if t333 = true then ((spec_nfLeast.f k a0_0 l0_1).bind fun bt334 => (some (bt334.2, true))) else (some (0, false))) = some (r1, r2) := H
 have A2 := aM A20
 clear A20
 by_cases c3 : t333 = true
 ·subst c3
  have H1 : ((spec_nfLeast.f k a0_0 l0_1).bind fun bt334 => (some (bt334.2, true))) = some (r1, r2) := by rw [if_pos rfl] at H; exact H
  clear H; have H := H1; clear H1; replace H := oB.mp H; obtain ⟨⟨t334, t337⟩, A40, H⟩ := H; replace H : (some (t337, true)) = some (r1, r2) := H; have A4 := aM A40; clear A40
  simp only [Option.some.injEq, Prod.mk.injEq] at H
  obtain ⟨rfl, rfl⟩ := H
  go_enter Try.func92, Try.ntmps92
  go_wp2_with (first | ((with_reducible refine gate_dst (N := 1) rfl ?_); refine box_event ?hg (N := 1) ?hd (cs := #[.int .i64 a0_0, .slice A0_1 l0_1.length c0_1]) (t := 60) ?hr ?_; (case hd => rfl); (case hg => rfl); (case hr => exact zc_); intro gb332 hg w5 hbox hb; have n_ := z (below_step za_ hb) <| z (hbox) <| z ((by rw [hg]; exact (below_size za_) : w.heap.size ≤ gb332)) <| z1 ((by rw [hg]; exact (below_size za_) : w.heap.size ≤ gb332)); clear HB; obtain ⟨HB, BK332, GW332, GE332⟩ := n_; clear hb hbox hg; have hcz6_0 : w5.cell? ⟨gb332, 0, none⟩ = some (.int .i64 a0_0) := (blk_cell BK332.out 0).trans rfl; have hcz6_1 : w5.cell? ⟨gb332, 1, none⟩ = some (.slice A0_1 l0_1.length c0_1) := (blk_cell BK332.out 1).trans rfl; have hfz6_0 := blk_frozen BK332.out 0; have hfz6_1 := blk_frozen BK332.out 1) | ((with_reducible refine gate_callee (f := 131) rfl ?_); refine goesL_ (some 7) rfl rfl Try.func131 (by kernel_rfl) rfl #[.agg #[.int .i64 a0_0, .slice A0_1 l0_1.length c0_1]] rfl ze_ ?_; (with_reducible refine (spec_ttGood.calls k a0_0 _ _ l0_1 true _ ?side1 ?side2 A2.out).mono ?_); (case side1 => exact zi_); (case side2 => exact HC0_1.out); rintro e w7 ⟨rfl, hb⟩; refine ⟨_, rfl, ?_⟩; have n_ := z (blk_below (zb BK332.out) hb) <| z1 (below_step zgi_ hb); clear BK332 HB; obtain ⟨BK332, HB⟩ := n_; clear hb; have hcz8_0 : w7.cell? ⟨gb332, 0, none⟩ = some (.int .i64 a0_0) := (blk_cell BK332.out 0).trans rfl; have hcz8_1 : w7.cell? ⟨gb332, 1, none⟩ = some (.slice A0_1 l0_1.length c0_1) := (blk_cell BK332.out 1).trans rfl; have hfz8_0 := blk_frozen BK332.out 0; have hfz8_1 := blk_frozen BK332.out 1) | ((with_reducible refine gate_callee (f := 168) rfl ?_); refine goesL_ (some 11) rfl rfl Try.func168 (by kernel_rfl) rfl #[.agg #[.int .i64 a0_0, .slice A0_1 l0_1.length c0_1]] rfl ze_ ?_; (with_reducible refine (spec_nfLeast.calls k a0_0 _ _ l0_1 t334 t337 _ ?side1 ?side2 A4.out).mono ?_); (case side1 => exact zi_); (case side2 => exact HC0_1.out); rintro e w9 ⟨v335, rfl, ho0, hb⟩; refine ⟨_, rfl, ?_⟩; have n_ := z (Kd.R_lower ho0 (below_size zgi_)) <| z (blk_below (zb BK332.out) hb) <| z1 (below_step zgi_ hb); clear BK332 HB; obtain ⟨HO336, BK332, HB⟩ := n_; clear hb; (try clear ho0)))
  go_ret2
  exact ⟨zf_, zgi_⟩
 ·replace c3 := Bool.eq_false_iff.mpr c3
  subst c3; have H1 : (some (0, false)) = some (r1, r2) := by rw [if_neg (show ¬ (false = true) by decide)] at H; exact H
  clear H; have H := H1; clear H1
  simp only [Option.some.injEq, Prod.mk.injEq] at H
  obtain ⟨rfl, rfl⟩ := H
  go_enter Try.func92, Try.ntmps92
  go_wp2_with (first | ((with_reducible refine gate_dst (N := 1) rfl ?_); refine box_event ?hg (N := 1) ?hd (cs := #[.int .i64 a0_0, .slice A0_1 l0_1.length c0_1]) (t := 60) ?hr ?_; (case hd => rfl); (case hg => rfl); (case hr => exact zc_); intro gb332 hg w10 hbox hb; have n_ := z (below_step za_ hb) <| z (hbox) <| z ((by rw [hg]; exact (below_size za_) : w.heap.size ≤ gb332)) <| z1 ((by rw [hg]; exact (below_size za_) : w.heap.size ≤ gb332)); clear HB; obtain ⟨HB, BK332, GW332, GE332⟩ := n_; clear hb hbox hg; have hcz11_0 : w10.cell? ⟨gb332, 0, none⟩ = some (.int .i64 a0_0) := (blk_cell BK332.out 0).trans rfl; have hcz11_1 : w10.cell? ⟨gb332, 1, none⟩ = some (.slice A0_1 l0_1.length c0_1) := (blk_cell BK332.out 1).trans rfl; have hfz11_0 := blk_frozen BK332.out 0; have hfz11_1 := blk_frozen BK332.out 1) | ((with_reducible refine gate_callee (f := 131) rfl ?_); refine goesL_ (some 7) rfl rfl Try.func131 (by kernel_rfl) rfl #[.agg #[.int .i64 a0_0, .slice A0_1 l0_1.length c0_1]] rfl ze_ ?_; (with_reducible refine (spec_ttGood.calls k a0_0 _ _ l0_1 false _ ?side1 ?side2 A2.out).mono ?_); (case side1 => exact zi_); (case side2 => exact HC0_1.out); rintro e w12 ⟨rfl, hb⟩; refine ⟨_, rfl, ?_⟩; have n_ := z (blk_below (zb BK332.out) hb) <| z1 (below_step zgi_ hb); clear BK332 HB; obtain ⟨BK332, HB⟩ := n_; clear hb))
  go_ret2
  exact ⟨zf_, zgi_⟩
mutual
def impl_isSeparate.l0 : Nat → List Int → Int → List (S72) → Int → Int → Option (Bool)
 | 0, _, _, _, _, _ => none
 | k + 1, x1, x2, x11, x12, x13 => if x13 < x12 then (if 0 ≤ x13 then (if x13 < (x11.length : Int) then (if (Go.bits .and .i64 x2 ((rd_T72 x11 x13).f0)) = ((rd_T72 x11 x13).f1) then (impl_isSeparate.l1 k x1 x2 x11 x12 x13 x1 (x1.length : Int) 0 ((rd_T72 x11 x13).f0) ((rd_T72 x11 x13).f1)) else (impl_isSeparate.l0 k x1 x2 x11 x12 (wrap64 (x13 + 1)))) else (none)) else (none)) else (some true)
def impl_isSeparate.l1 : Nat → List Int → Int → List (S72) → Int → Int → List Int → Int → Int → Int → Int → Option (Bool)
 | 0, _, _, _, _, _, _, _, _, _, _ => none
 | k + 1, x1, x2, x11, x12, x13, x24, x25, x26, x340000, x340001 => if x26 < x25 then (if 0 ≤ x26 then (if x26 < (x24.length : Int) then (if (Go.bits .and .i64 (rd x24 x26) x340000) = x340001 then (some false) else (impl_isSeparate.l1 k x1 x2 x11 x12 x13 x24 x25 (wrap64 (x26 + 1)) x340000 x340001)) else (none)) else (none)) else (impl_isSeparate.l0 k x1 x2 x11 x12 (wrap64 (x13 + 1)))
end
def impl_isSeparate.f (k : Nat) (l0 : List (S72)) (l1 : List Int) (a2 : Int) : Option (Bool) := impl_isSeparate.l0 k l1 a2 l0 (l0.length : Int) 0
theorem impl_isSeparate.calls (k : Nat) (A0 : Option Addr) (c0 : Nat) (l0 : List (S72)) (A1 : Option Addr) (c1 : Nat) (l1 : List Int) (a2 : Int) (r : Bool) (w : World) (hr0 : Kd.C k72 w A0 l0.length l0) (hc0 : l0.length ≤ c0) (hr1 : Kd.C (Kd.int .i64) w A1 l1.length l1) (hc1 : l1.length ≤ c1) (h : impl_isSeparate.f k l0 l1 a2 = some r) :
  Calls Try.prog 170 #[.slice A0 l0.length c0, .slice A1 l1.length c1, .int .i64 a2] w fun e w' => e = .returned (.bool r) ∧ Below w.heap.size w w' := by
 have hu72 := Try.underlying72
 have HR0 := aM hr0
 have HC0 := aM hc0
 clear hr0 hc0
 have HR1 := aM hr1
 have HC1 := aM hc1
 clear hr1 hc1
 have HB := aM (Below.refl w.heap.size w)
 have H : (impl_isSeparate.l0 k l1 a2 l0 (l0.length : Int) 0) = some r := h
 clear h
 have H' := aM H
 clear H
 go_enter Try.func170, Try.ntmps170
 go_wp2
 go_loopg [13] k (fun kq v13 w' => ∃ (x13_1 : Int), v13 = .int .i64 x13_1 ∧ Aside0 (impl_isSeparate.l0 kq l1 a2 l0 (l0.length : Int) x13_1 = some r) ∧ Aside0 (kq ≤ k) ∧ Aside0 (Below w.heap.size w w'))
 case atStart => exact ⟨(0), zb_, H', ⟨Nat.le_refl _⟩, ⟨za_⟩⟩
 case round =>
  clear H'; obtain ⟨x13_1, rfl, HA, HK1, HB⟩ := hrel
  cases gk with
  | zero => exact absurd HA.out (by simp [impl_isSeparate.l0])
  | succ k1 =>
   have H := HA.out; clear HA
   simp only [impl_isSeparate.l0] at H
   by_cases c4 : x13_1 < (l0.length : Int)
   ·rw [if_pos c4] at H
    have c4b0 := decide_eq_true c4; clear c4
    by_cases c5 : 0 ≤ x13_1
    ·rw [if_pos c5] at H
     have c5b0 := decide_eq_true c5; clear c5
     by_cases c6 : x13_1 < (l0.length : Int)
     ·rw [if_pos c6] at H
      have c6b0 := decide_eq_true c6; clear c6
      by_cases c7 : (Go.bits .and .i64 a2 ((rd_T72 l0 x13_1).f0)) = ((rd_T72 l0 x13_1).f1)
      ·rw [if_pos c7] at H
       have c7b0 := beq_iff_eq.mpr c7; have c7b1 := bne_eq_false_iff_eq.mpr c7; clear c7; have H' := aM H; clear H; have p338 : 0 ≤ (x13_1 : Int) := of_decide_eq_true zd_; have q338 : x13_1 < (l0.length : Int) := of_decide_eq_true zd_; obtain ⟨ad338, e338, hx338_0, hx338_1⟩ := at_T72 HR0.out x13_1 p338 q338
       cases e338
       (try (replace hx338_0 := (HB.out.cell (World.block_lt_of_cell? w _ hx338_0)).trans hx338_0)); (try (replace hx338_1 := (HB.out.cell (World.block_lt_of_cell? w _ hx338_1)).trans hx338_1)); replace p338 := eq_true p338; replace q338 := eq_true q338
       go_wp2_with (first | ((with_reducible refine gate_dst (N := 8) rfl ?_); refine box_event ?hg (N := 8) ?hd (cs := #[.int .i64 0, .int .i64 0]) (t := 72) ?hr ?_; (case hd => rfl); (case hg => rfl); (case hr => exact zc_); intro gb339 hg w8 hbox hb; have n_ := z (below_step za_ hb) <| z (hbox) <| z ((by rw [hg]; exact (below_size za_) : w.heap.size ≤ gb339)) <| z1 ((by rw [hg]; exact (below_size za_) : w.heap.size ≤ gb339)); clear HB; obtain ⟨HB, BK339, GW339, GE339⟩ := n_; clear hb hbox hg; have hcz9_0 : w8.cell? ⟨gb339, 0, none⟩ = some (.int .i64 0) := (blk_cell BK339.out 0).trans rfl; have hcz9_1 : w8.cell? ⟨gb339, 1, none⟩ = some (.int .i64 0) := (blk_cell BK339.out 1).trans rfl; have hfz9_0 := blk_frozen BK339.out 0; have hfz9_1 := blk_frozen BK339.out 1))
       go_loopg [26] k1 (fun kq v26 w' => ∃ (x26_2 : Int), v26 = .int .i64 x26_2 ∧ Aside0 (impl_isSeparate.l1 kq l1 a2 l0 (l0.length : Int) x13_1 l1 (l1.length : Int) x26_2 ((rd_T72 l0 x13_1).f0) ((rd_T72 l0 x13_1).f1) = some r) ∧ Aside0 (kq ≤ k1) ∧ Aside0 (w'.heap[gb339]? = some (.cells #[.int .i64 ((rd_T72 l0 x13_1).f0), .int .i64 ((rd_T72 l0 x13_1).f1)] 72 (0, 0))) ∧ Aside0 (Below w.heap.size w w'))
       case atStart => exact ⟨(0), zb_, H', ⟨Nat.le_refl _⟩, ⟨by refine zb ?_; refine blk_put (cs := #[.int .i64 ((rd_T72 l0 x13_1).f0), .int .i64 0]) ?_ 1 _ rfl; refine zb ?_; refine blk_put (cs := #[.int .i64 0, .int .i64 0]) ?_ 0 _ rfl; refine zb ?_; exact BK339.out⟩, ⟨zif_⟩⟩
       case round =>
        clear H'; (try clear c4b0); (try clear c5b0); (try clear c6b0); (try clear c7b0); (try clear c7b1); (try clear hcz9_0); (try clear hcz9_1); (try clear hfz9_0); (try clear hfz9_1); (try clear hx338_0); (try clear hx338_1); (try clear p338); (try clear q338); obtain ⟨x26_2, rfl, HA, HK2, BK339, HB⟩ := hrel
        cases gk with
        | zero => exact absurd HA.out (by simp [impl_isSeparate.l1])
        | succ k2 =>
         have H := HA.out; clear HA
         simp only [impl_isSeparate.l1] at H
         by_cases c10 : x26_2 < (l1.length : Int)
         ·rw [if_pos c10] at H
          have c10b0 := decide_eq_true c10; clear c10
          by_cases c11 : 0 ≤ x26_2
          ·rw [if_pos c11] at H
           have c11b0 := decide_eq_true c11; clear c11
           by_cases c12 : x26_2 < (l1.length : Int)
           ·rw [if_pos c12] at H
            have c12b0 := decide_eq_true c12; clear c12
            by_cases c13 : (Go.bits .and .i64 (rd l1 x26_2) ((rd_T72 l0 x13_1).f0)) = ((rd_T72 l0 x13_1).f1)
            ·rw [if_pos c13] at H
             have c13b0 := beq_iff_eq.mpr c13; have c13b1 := bne_eq_false_iff_eq.mpr c13; clear c13; obtain rfl := Option.some.inj H; have p340 : 0 ≤ (x26_2 : Int) := of_decide_eq_true zd_; have q340 : x26_2 < (l1.length : Int) := of_decide_eq_true zd_; obtain ⟨ad340, e340, hx340_0⟩ := Kd.at_int HR1.out x26_2 p340 q340
             cases e340
             (try (replace hx340_0 := (HB.out.cell (World.block_lt_of_cell? w _ hx340_0)).trans hx340_0)); replace p340 := eq_true p340; replace q340 := eq_true q340; have hcz14_0 : wr.cell? ⟨gb339, 0, none⟩ = some (.int .i64 ((rd_T72 l0 x13_1).f0)) := (blk_cell BK339.out 0).trans rfl; have hcz14_1 : wr.cell? ⟨gb339, 1, none⟩ = some (.int .i64 ((rd_T72 l0 x13_1).f1)) := (blk_cell BK339.out 1).trans rfl; have hfz14_0 := blk_frozen BK339.out 0; have hfz14_1 := blk_frozen BK339.out 1
             go_wp2
             go_ret
             exact ⟨zf_, zif_⟩
            ·rw [if_neg c13] at H
             have c13b0 := beq_eq_false_iff_ne.mpr c13; have c13b1 := bne_iff_ne.mpr c13; have H' := aM H; clear H; have p340 : 0 ≤ (x26_2 : Int) := of_decide_eq_true zd_; have q340 : x26_2 < (l1.length : Int) := of_decide_eq_true zd_; obtain ⟨ad340, e340, hx340_0⟩ := Kd.at_int HR1.out x26_2 p340 q340
             cases e340
             (try (replace hx340_0 := (HB.out.cell (World.block_lt_of_cell? w _ hx340_0)).trans hx340_0)); replace p340 := eq_true p340; replace q340 := eq_true q340; have hcz15_0 : wr.cell? ⟨gb339, 0, none⟩ = some (.int .i64 ((rd_T72 l0 x13_1).f0)) := (blk_cell BK339.out 0).trans rfl; have hcz15_1 : wr.cell? ⟨gb339, 1, none⟩ = some (.int .i64 ((rd_T72 l0 x13_1).f1)) := (blk_cell BK339.out 1).trans rfl; have hfz15_0 := blk_frozen BK339.out 0; have hfz15_1 := blk_frozen BK339.out 1
             go_wp2
             go_roundg k2
             case measure => have := HK1.out; have := HK2.out; omega
             case rel => exact ⟨(wrap64 (x26_2 + 1)), zb_, H', ⟨zci_⟩, ⟨zb BK339.out⟩, ⟨zif_⟩⟩
           ·rw [if_neg c12] at H
            exact absurd H (by simp)
          ·rw [if_neg c11] at H
           exact absurd H (by simp)
         ·rw [if_neg c10] at H
          have c10b0 := decide_eq_false c10; clear c10; have H' := aM H; clear H
          go_wp2
          go_roundg k2
          case measure => have := HK1.out; have := HK2.out; omega
          case rel => exact ⟨(wrap64 (x13_1 + 1)), zb_, H', ⟨zci_⟩, ⟨zif_⟩⟩
      ·rw [if_neg c7] at H
       have c7b0 := beq_eq_false_iff_ne.mpr c7; have c7b1 := bne_iff_ne.mpr c7; have H' := aM H; clear H; have p338 : 0 ≤ (x13_1 : Int) := of_decide_eq_true zd_; have q338 : x13_1 < (l0.length : Int) := of_decide_eq_true zd_; obtain ⟨ad338, e338, hx338_0, hx338_1⟩ := at_T72 HR0.out x13_1 p338 q338
       cases e338
       (try (replace hx338_0 := (HB.out.cell (World.block_lt_of_cell? w _ hx338_0)).trans hx338_0)); (try (replace hx338_1 := (HB.out.cell (World.block_lt_of_cell? w _ hx338_1)).trans hx338_1)); replace p338 := eq_true p338; replace q338 := eq_true q338
       go_wp2_with (first | ((with_reducible refine gate_dst (N := 8) rfl ?_); refine box_event ?hg (N := 8) ?hd (cs := #[.int .i64 0, .int .i64 0]) (t := 72) ?hr ?_; (case hd => rfl); (case hg => rfl); (case hr => exact zc_); intro gb339 hg w16 hbox hb; have n_ := z (below_step za_ hb) <| z (hbox) <| z ((by rw [hg]; exact (below_size za_) : w.heap.size ≤ gb339)) <| z1 ((by rw [hg]; exact (below_size za_) : w.heap.size ≤ gb339)); clear HB; obtain ⟨HB, BK339, GW339, GE339⟩ := n_; clear hb hbox hg; have hcz17_0 : w16.cell? ⟨gb339, 0, none⟩ = some (.int .i64 0) := (blk_cell BK339.out 0).trans rfl; have hcz17_1 : w16.cell? ⟨gb339, 1, none⟩ = some (.int .i64 0) := (blk_cell BK339.out 1).trans rfl; have hfz17_0 := blk_frozen BK339.out 0; have hfz17_1 := blk_frozen BK339.out 1))
       go_roundg k1
       case measure => have := HK1.out; omega
       case rel => exact ⟨(wrap64 (x13_1 + 1)), zb_, H', ⟨zba_⟩, ⟨zif_⟩⟩
     ·rw [if_neg c6] at H
      exact absurd H (by simp)
    ·rw [if_neg c5] at H
     exact absurd H (by simp)
   ·rw [if_neg c4] at H
    have c4b0 := decide_eq_false c4; clear c4; obtain rfl := Option.some.inj H
    go_wp2
    go_ret
    exact ⟨zf_, za_⟩
def impl_SeparateOnes.long (list best : List Int) : List Int := if best.length < list.length then list else best
def impl_SeparateOnes.l : Nat → List (S72) → List Int → List Int → List Int → Int → Option (List Int)
 | 0, _, _, _, _, _ => none
 | k + 1, ps, vs, list, best, i =>
  if i < (vs.length : Int) then (if 0 ≤ i then
   (if wrap64 (wrap64 ((list.length : Int) + (vs.length : Int)) - i) ≤ (best.length : Int) then some best else
    (if rd vs i = 1 then impl_isSeparate.f k ps list i else some false).bind fun t =>
     (if t = true then (if list.length ≤ 1000 then ((impl_SeparateOnes.l k ps vs (list ++ [i]) (impl_SeparateOnes.long (list ++ [i]) best) (wrap64 (i + 1))).bind fun b => (if b.length ≤ 1000 then impl_SeparateOnes.l k ps vs list b (wrap64 (i + 1)) else none)) else none)
      else impl_SeparateOnes.l k ps vs list best (wrap64 (i + 1)))) else none) else some best
def impl_SeparateOnes.f (k : Nat) (a0_0 : Int) (l0_1 : List Int) : Option (List Int × Bool) :=
 (impl_IsTable.f k a0_0 l0_1).bind fun t => if t = true then ((impl_primesOf.f k a0_0 l0_1).bind fun ps => ((impl_SeparateOnes.l k ps l0_1 [] [] 0).bind fun b => some (b, true))) else some ([], false)
open Go.Proofs.Ytbkighlfgaifeaa.Sep in
def impl_SeparateOnes.items (gb gt gp gx : Nat) (vl vb vp : Value) (list best : List Int) (n : Int) (Av : Option Addr) (cv : Nat) (vs : List Int) (ps : List (S72)) (F : List Sep.Item) : List Sep.Item :=
 Item.row (Kd.int .i64) 3 vl list :: Item.box gb 24 #[vb] :: Item.row (Kd.int .i64) 3 vb best :: Item.box gt 60 #[.int .i64 n, .slice Av vs.length cv] :: Item.box gp 68 #[vp] :: Item.row k72 72 vp ps :: Item.box gx 155 #[.func (.func 169) #[] #[.pointer (some ⟨gb, 0, none⟩), .pointer (some ⟨gt, 0, none⟩), .pointer (some ⟨gp, 0, none⟩), .pointer (some ⟨gx, 0, none⟩)]] :: F
open Go.Proofs.Ytbkighlfgaifeaa.Sep in
theorem impl_SeparateOnes.ext (n : Int) (Av : Option Addr) (cv : Nat) (vs : List Int) (ps : List (S72)) (w0 : World) (hC : Kd.C (Kd.int .i64) w0 Av vs.length vs) (hcv : vs.length ≤ cv) (gb gt gp gx : Nat) (vp : Value) :
  ∀ (K k : Nat), k ≤ K → ∀ (list best : List Int) (i : Int) (w : World) (vl vb : Value) (F : List Sep.Item) (r : List Int) (_h : Own w0 w (impl_SeparateOnes.items gb gt gp gx vl vb vp list best n Av cv vs ps F))
   (_hl : list.length ≤ 1001) (_hb : best.length ≤ 1001) (_hr : impl_SeparateOnes.l k ps vs list (impl_SeparateOnes.long list best) i = some r),
   Calls Try.prog 169 #[vl, .int .i64 i, .pointer (some ⟨gb, 0, none⟩), .pointer (some ⟨gt, 0, none⟩), .pointer (some ⟨gp, 0, none⟩), .pointer (some ⟨gx, 0, none⟩)] w fun e w' => e = .returned (.tuple #[]) ∧ ∃ vb', Own w0 w' (impl_SeparateOnes.items gb gt gp gx vl vb' vp list r n Av cv vs ps F) := by
 have HC := aM hC
 have HCV := aM hcv
 clear hC hcv
 intro K
 induction K with
 | zero =>
  intro k hk list best i w vl vb F r h hl hb hr
  obtain rfl : k = 0 := by omega
  exact absurd hr (by simp [impl_SeparateOnes.l])
 | succ K ih =>
  intro k hk list best i w vl vb F r h hl hb hr
  have IH := aM ih; clear ih; obtain ⟨Al, cl, rfl⟩ := h.row_slice 0 rfl; obtain ⟨Ab, cb, rfl⟩ := h.row_slice 2 rfl; have HO := aM h; have HL := aM hl; have HBL := aM hb; have HR := aM hr; have HK := aM hk; clear hl hb hr hk; have z1 : w.cell? ⟨gb, 0, none⟩ = some (.slice Ab best.length cb) := h.cell 1 rfl 0 rfl; have zf := h.free 1 rfl 0; clear h
  go_enter Try.func169, Try.ntmps169
  go_upto_if 13 with (fail)
  (try simp only [Act.put, sI, s0, sS])
  go_cut [] (fun wc => ∃ vb1, Aside0 (Own w0 wc (impl_SeparateOnes.items gb gt gp gx (.slice Al list.length cl) vb1 vp list (impl_SeparateOnes.long list best) n Av cv vs ps F)))
  case first =>
   by_cases c : best.length < list.length
   ·have cb1 := decide_eq_true c
    clear c; (first | rw [cb1] | skip)
    go_wp2_with (first | ((with_reducible refine gate_dst (N := 14) rfl ?_); refine Sep.own_lit0 (Kd.int .i64) HO.out 3 ?hg (N := 14) ?hd ?hr ?_; (case hd => rfl); (case hg => rfl); (case hr => exact zc_); intro v1 w1 ho _; have HO1 := aM ho; clear ho) | ((with_reducible refine gate_dst (N := 16) rfl ?_); refine Sep.own_append_all (Value.int .i64) (0 : Int) HO1.out 0 v1 [] 3 rfl rfl (.tmp 14) (.tmp 15) 24 (.int .i64 0) 8 rfl Try.underlying24 info3 rfl (by omega) list Al list.length cl rfl rfl (HO1.out.row_reads 1 rfl).2.2 zgd_ ?_; intro v2 w2 ho; obtain ⟨A2, c2, rfl⟩ := ho.row_slice 0 rfl; have HO2 := aM ho; clear ho) | ((with_reducible refine gate_store (t := 24) (p := 2) (v := .tmp 16) rfl ?_); refine Sep.own_store HO2.out 2 gb 24 _ #[.slice A2 ([] ++ list : List Int).length c2] rfl rfl rfl 24 (.tmp 2) (.tmp 16) rfl rfl _ rfl rfl rfl (by kernel_rfl) (by simp [Value.oneCell']) ?_; intro w3 ho; have HO3 := aM ho; clear ho))
    go_meet
    case rel => exact ⟨_, ⟨by unfold impl_SeparateOnes.long; rw [if_pos (by have := of_decide_eq_true cb1; omega)]; exact (((HO3.out.into 2 (by simp [impl_SeparateOnes.items])).front 3 rfl).tail)⟩⟩
   ·have cb1 := decide_eq_false c
    (first | rw [cb1] | skip)
    go_wp2
    go_meet
    case rel => exact ⟨_, ⟨by unfold impl_SeparateOnes.long; rw [if_neg (by omega)]; exact HO.out⟩⟩
  case rest =>
   obtain ⟨vb1, HO⟩ := hcut; clear z1 zf; have HLO := aM (show (impl_SeparateOnes.long list best).length ≤ 1001 from by have := HL.out; have := HBL.out; unfold impl_SeparateOnes.long; split <;> omega); generalize impl_SeparateOnes.long list best = best0 at HO HLO HR; clear HBL
   go_wp2
   go_loopg [8] k (fun kq v8 w' => ∃ (best1 : List Int) (vb1 : Value) (i1 : Int), v8 = .int .i64 i1 ∧ Aside0 (impl_SeparateOnes.l kq ps vs list best1 i1 = some r) ∧ Aside0 (kq ≤ k) ∧ Aside0 (Own w0 w' (impl_SeparateOnes.items gb gt gp gx (.slice Al list.length cl) vb1 vp list best1 n Av cv vs ps F)) ∧ Aside0 (best1.length ≤ 1001))
   case atStart => exact ⟨_, _, i, zb_, HR, ⟨Nat.le_refl _⟩, HO, HLO⟩
   case round =>
    clear HR HO HLO; obtain ⟨best1, vb1, i1, rfl, HA, HK1, HO, HB1⟩ := hrel
    cases gk with
    | zero => exact absurd HA.out (by simp [impl_SeparateOnes.l])
    | succ k1 =>
     have H := HA.out; clear HA
     simp only [impl_SeparateOnes.l] at H
     obtain ⟨Ab, cb, rfl⟩ := HO.out.row_slice 2 rfl; have zt1 : wr.cell? ⟨gt, 1, none⟩ = some (.slice Av vs.length cv) := HO.out.cell 3 rfl 1 rfl; have zb : wr.cell? ⟨gb, 0, none⟩ = some (.slice Ab best1.length cb) := HO.out.cell 1 rfl 0 rfl; have zp : wr.cell? ⟨gp, 0, none⟩ = some vp := HO.out.cell 4 rfl 0 rfl
     by_cases c1 : i1 < (vs.length : Int)
     ·rw [if_pos c1] at H
      by_cases c2 : 0 ≤ i1
      ·rw [if_pos c2] at H
       have c1b := decide_eq_true c1
       by_cases c3 : wrap64 (wrap64 ((list.length : Int) + (vs.length : Int)) - i1) ≤ (best1.length : Int)
       ·rw [if_pos c3] at H
        obtain rfl := Option.some.inj H; have c3b := decide_eq_true c3; clear c3
        go_wp2
        (try simp only [Exit.inBlock, Exit.then])
        refine bodyPost_ret (results_none rfl _ _ _) rfl ?_
        exact ⟨rfl, _, HO.out⟩
       ·rw [if_neg c3] at H
        have c3b := decide_eq_false c3; clear c3; obtain ⟨t, HA1, H1⟩ := oB.mp H; clear H; have H := H1; clear H1; obtain ⟨ad1, e1, hx1⟩ := Kd.at_int (Kd.C_below HC.out HO.out.base) i1 c2 c1
        cases e1
        have p1 : (0 ≤ i1) = True := eq_true c2; have q1 : (i1 < (vs.length : Int)) = True := eq_true c1
        by_cases c4 : rd vs i1 = 1
        ·rw [if_pos c4] at HA1
         have c4b := beq_iff_eq.mpr c4; clear c4; have HA2 := aM HA1; clear HA1; obtain ⟨Ap, cp, rfl⟩ := HO.out.row_slice 5 rfl
         cases t with
         | false =>
          replace H : impl_SeparateOnes.l k1 ps vs list best1 (wrap64 (i1 + 1)) = some r := H; have H' := aM H; clear H
          go_wp2_with (first | (go_at_call 170; (with_reducible refine (impl_isSeparate.calls k1 _ _ ps _ _ list i1 _ _ ?s1 ?s2 ?s3 ?s4 HA2.out).mono ?_); (case s1 => exact (HO.out.row_reads 5 rfl).2.2); (case s2 => exact (HO.out.row_reads 5 rfl).2.1); (case s3 => exact (HO.out.row_reads 0 rfl).2.2); (case s4 => exact (HO.out.row_reads 0 rfl).2.1); rintro e wc1 ⟨rfl, hb⟩; have HOn := aM (HO.out.below hb); clear hb HO; have HO := HOn; clear HOn))
          go_roundg k1
          case measure => have := HK1.out; omega
          case rel => exact ⟨best1, _, wrap64 (i1 + 1), zb_, H', ⟨zba_⟩, HO, HB1⟩
         | true =>
          replace H : (if list.length ≤ 1000 then ((impl_SeparateOnes.l k1 ps vs (list ++ [i1]) (impl_SeparateOnes.long (list ++ [i1]) best1) (wrap64 (i1 + 1))).bind fun b => (if b.length ≤ 1000 then impl_SeparateOnes.l k1 ps vs list b (wrap64 (i1 + 1)) else none)) else none) = some r := H
          by_cases c5 : list.length ≤ 1000
          ·rw [if_pos c5] at H
           obtain ⟨b, HA3, H1⟩ := oB.mp H; clear H; have H := H1; clear H1
           by_cases c6 : b.length ≤ 1000
           ·rw [if_pos c6] at H
            go_wp2_with (first | (go_at_call 170; (with_reducible refine (impl_isSeparate.calls k1 _ _ ps _ _ list i1 _ _ ?s1 ?s2 ?s3 ?s4 HA2.out).mono ?_); (case s1 => exact (HO.out.row_reads 5 rfl).2.2); (case s2 => exact (HO.out.row_reads 5 rfl).2.1); (case s3 => exact (HO.out.row_reads 0 rfl).2.2); (case s4 => exact (HO.out.row_reads 0 rfl).2.1); rintro e wc1 ⟨rfl, hb⟩; have HOn := aM (HO.out.below hb); clear hb HO; have HO := HOn; clear HOn))
            have HA2 := aM HA3; clear HA3; have HOd := aM (HO.out.drew); clear HO; have HO := HOd; clear HOd
            refine start_ (n := 10) (S := fun w' => w'.cell? ⟨gx, 0, none⟩ = some (.func (.func 169) #[] #[.pointer (some ⟨gb, 0, none⟩), .pointer (some ⟨gt, 0, none⟩), .pointer (some ⟨gp, 0, none⟩), .pointer (some ⟨gx, 0, none⟩)])) (ds := []) #[fi,fi,fi,fi,fi,fi,fi,fi,fi,fi] (by kernel_rfl) rfl rfl (HO.out.cell 6 rfl 0 rfl) (fun hHeld => ?_)
            generalize wc1.drew = wd at HO hHeld ⊢
            refine take_ (i := 0) (N := some 48) (v := ?_) (a' := ?_) #[ti,fi,fi,fi,fi,fi,fi,fi,fi,fi] rfl rfl (by kernel_rfl) (fun _ _ _ h => h) (Or.inl ⟨by rfl, ?_⟩) hHeld ?_ ?_
            rotate_left
            ·rintro w' s0
             go_simp
             with_reducible rfl
            rotate_left
            ·simp only [Act.put, putAll, sI, s0, sS, i64_w, i32_w]
             rfl
            refine pure_ (i := 2) (N := some 50) (v := ?_) (a' := ?_) #[ti,fi,ti,fi,fi,fi,fi,fi,fi,fi] rfl rfl (by kernel_rfl) (fun _ _ _ h => h) (Or.inl ⟨by rfl, ?_⟩) ?_ ?_; rotate_left; (· (intro w'; go_simp; with_reducible rfl)); rotate_left; (· (simp only [Act.put, putAll, sI, s0, sS, i64_w, i32_w]; rfl))
            refine pure_ (i := 4) (N := some 52) (v := ?_) (a' := ?_) #[ti,fi,ti,fi,ti,fi,fi,fi,fi,fi] rfl rfl (by kernel_rfl) (fun _ _ _ h => h) (Or.inl ⟨by rfl, ?_⟩) ?_ ?_; rotate_left; (· (intro w'; go_simp; with_reducible rfl)); rotate_left; (· (simp only [Act.put, putAll, sI, s0, sS, i64_w, i32_w]; rfl))
            refine pure_ (i := 7) (N := some 55) (v := ?_) (a' := ?_) #[ti,fi,ti,fi,ti,fi,fi,ti,fi,fi] rfl rfl (by kernel_rfl) (fun _ _ _ h => h) (Or.inl ⟨by rfl, ?_⟩) ?_ ?_; rotate_left; (· (intro w'; go_simp; with_reducible rfl)); rotate_left; (· (simp only [Act.put, putAll, sI, s0, sS, i64_w, i32_w]; rfl))
            refine pure_ (i := 8) (N := some 56) (v := ?_) (a' := ?_) #[ti,fi,ti,fi,ti,fi,fi,ti,ti,fi] rfl rfl (by kernel_rfl) (fun _ _ _ h => h) (Or.inl ⟨by rfl, ?_⟩) ?_ ?_; rotate_left; (· (intro w'; go_simp; with_reducible rfl)); rotate_left; (· (simp only [Act.put, putAll, sI, s0, sS, i64_w, i32_w]; rfl))
            refine join_ (σ := Value × Value × Value) 2 #[ti,ti,ti,ti,ti,ti,fi,ti,ti,fi] (fun s => [(49, s.1), (51, s.2.1), (53, s.2.2)]) (fun s w' => w'.cell? ⟨gx, 0, none⟩ = some (.func (.func 169) #[] #[.pointer (some ⟨gb, 0, none⟩), .pointer (some ⟨gt, 0, none⟩), .pointer (some ⟨gp, 0, none⟩), .pointer (some ⟨gx, 0, none⟩)]) ∧ Own w0 w' (Item.row (Kd.int .i64) 3 s.2.1 ([] ++ list) :: Item.row (Kd.int .i64) 3 s.2.2 [i1] :: (impl_SeparateOnes.items gb gt gp gx (.slice Al list.length cl) (.slice Ab best1.length cb) (.slice Ap ps.length cp) list best1 n (some ad1) cv vs ps F))) ?_ (fun hjoin => ?_)
            rotate_left
            ·refine two_ (i := 1) (j := 5) (Ni := some 49) (Nj := some 53) #[ti,ti,ti,fi,ti,fi,fi,ti,ti,fi] #[ti,fi,ti,fi,ti,ti,fi,ti,ti,fi] rfl rfl rfl rfl (by kernel_rfl) (by decide) (by decide) (fun K hK => ?_) (fun K hK => ?_)
             ·refine Sep.own_lit0_step (Kd.int .i64) HO.out 3 (by rfl) (N := 49) rfl zc_ ?_
              intro v49 w1 ho _
              have HO1 := aM ho; clear ho
              refine hK.out _ _ (HO1.out.cell 7 rfl 0 rfl) (fun hHeld => ?_)
              clear hK K
              refine norm_ (a' := ?_) ?_ ?_
              rotate_left
              ·show Act.put _ (some 49) _ = _
               simp only [Act.put, sI, s0, sS, i64_w, i32_w]
               rfl
              refine two_ (i := 3) (j := 5) (Ni := some 51) (Nj := some 53) #[ti,ti,ti,ti,ti,fi,fi,ti,ti,fi] #[ti,ti,ti,fi,ti,ti,fi,ti,ti,fi] rfl rfl rfl rfl (by kernel_rfl) (by decide) (by decide) (fun K hK => ?_) (fun K hK => ?_)
              ·refine Sep.own_append_all_step (Value.int .i64) (0 : Int) HO1.out 0 v49 [] 3 rfl (by rfl) (.tmp 49) (.tmp 50) 24 (.int .i64 0) 8 rfl Try.underlying24 info3 rfl (by omega) list Al list.length cl rfl rfl (HO1.out.row_reads 1 rfl).2.2 zgd_ ?_
               intro v51 w2 ho
               have HO2 := aM ho; clear ho
               refine hK.out _ _ (HO2.out.cell 7 rfl 0 rfl) (fun hHeld => ?_)
               clear hK K
               refine norm_ (a' := ?_) ?_ ?_
               rotate_left
               ·show Act.put _ (some 51) _ = _
                simp only [Act.put, sI, s0, sS, i64_w, i32_w]
                rfl
               refine one_ (i := 5) (N := some 53) #[ti,ti,ti,ti,ti,ti,fi,ti,ti,fi] rfl rfl (by kernel_rfl) (by decide) (fun K hK => ?_)
               refine Sep.own_lit1_step (Value.int .i64) (h1 := fun _ => rfl) HO2.out 3 i1 (by rfl) (N := 53) rfl zc_ ?_
               intro v53 w3 ho _
               have HO3 := aM ho; clear ho
               refine hK.out _ _ (HO3.out.cell 8 rfl 0 rfl) (fun hHeld => ?_)
               clear hK K
               refine norm_ (a' := ?_) ?_ ?_
               rotate_left
               ·show Act.put _ (some 53) _ = _
                simp only [Act.put, sI, s0, sS, i64_w, i32_w]
                rfl
               exact hjoin (v49, v51, v53) _ ⟨(HO3.out.cell 8 rfl 0 rfl), (HO3.out.front 1 rfl)⟩
              ·refine Sep.own_lit1_step (Value.int .i64) (h1 := fun _ => rfl) HO1.out 3 i1 (by rfl) (N := 53) rfl zc_ ?_
               intro v53 w2 ho _
               have HO2 := aM ho; clear ho
               refine hK.out _ _ (HO2.out.cell 8 rfl 0 rfl) (fun hHeld => ?_)
               clear hK K
               refine norm_ (a' := ?_) ?_ ?_
               rotate_left
               ·show Act.put _ (some 53) _ = _
                simp only [Act.put, sI, s0, sS, i64_w, i32_w]
                rfl
               refine one_ (i := 3) (N := some 51) #[ti,ti,ti,ti,ti,ti,fi,ti,ti,fi] rfl rfl (by kernel_rfl) (by decide) (fun K hK => ?_)
               refine Sep.own_append_all_step (Value.int .i64) (0 : Int) HO2.out 1 v49 [] 3 rfl (by rfl) (.tmp 49) (.tmp 50) 24 (.int .i64 0) 8 rfl Try.underlying24 info3 rfl (by omega) list Al list.length cl rfl rfl (HO2.out.row_reads 2 rfl).2.2 zgd_ ?_
               intro v51 w3 ho
               have HO3 := aM ho; clear ho
               refine hK.out _ _ (HO3.out.cell 8 rfl 0 rfl) (fun hHeld => ?_)
               clear hK K
               refine norm_ (a' := ?_) ?_ ?_
               rotate_left
               ·show Act.put _ (some 51) _ = _
                simp only [Act.put, sI, s0, sS, i64_w, i32_w]
                rfl
               exact hjoin (v49, v51, v53) _ ⟨(HO3.out.cell 8 rfl 0 rfl), (HO3.out.front 1 rfl)⟩
             ·refine Sep.own_lit1_step (Value.int .i64) (h1 := fun _ => rfl) HO.out 3 i1 (by rfl) (N := 53) rfl zc_ ?_
              intro v53 w1 ho _
              have HO1 := aM ho; clear ho
              refine hK.out _ _ (HO1.out.cell 7 rfl 0 rfl) (fun hHeld => ?_)
              clear hK K
              refine norm_ (a' := ?_) ?_ ?_
              rotate_left
              ·show Act.put _ (some 53) _ = _
               simp only [Act.put, sI, s0, sS, i64_w, i32_w]
               rfl
              refine one_ (i := 1) (N := some 49) #[ti,ti,ti,fi,ti,ti,fi,ti,ti,fi] rfl rfl (by kernel_rfl) (by decide) (fun K hK => ?_)
              refine Sep.own_lit0_step (Kd.int .i64) HO1.out 3 (by rfl) (N := 49) rfl zc_ ?_
              intro v49 w2 ho _
              have HO2 := aM ho; clear ho
              refine hK.out _ _ (HO2.out.cell 8 rfl 0 rfl) (fun hHeld => ?_)
              clear hK K
              refine norm_ (a' := ?_) ?_ ?_
              rotate_left
              ·show Act.put _ (some 49) _ = _
               simp only [Act.put, sI, s0, sS, i64_w, i32_w]
               rfl
              refine one_ (i := 3) (N := some 51) #[ti,ti,ti,ti,ti,ti,fi,ti,ti,fi] rfl rfl (by kernel_rfl) (by decide) (fun K hK => ?_)
              refine Sep.own_append_all_step (Value.int .i64) (0 : Int) HO2.out 0 v49 [] 3 rfl (by rfl) (.tmp 49) (.tmp 50) 24 (.int .i64 0) 8 rfl Try.underlying24 info3 rfl (by omega) list Al list.length cl rfl rfl (HO2.out.row_reads 2 rfl).2.2 zgd_ ?_
              intro v51 w3 ho
              have HO3 := aM ho; clear ho
              refine hK.out _ _ (HO3.out.cell 8 rfl 0 rfl) (fun hHeld => ?_)
              clear hK K
              refine norm_ (a' := ?_) ?_ ?_
              rotate_left
              ·show Act.put _ (some 51) _ = _
               simp only [Act.put, sI, s0, sS, i64_w, i32_w]
               rfl
              exact hjoin (v49, v51, v53) _ ⟨(HO3.out.cell 8 rfl 0 rfl), HO3.out⟩
            ·rintro ⟨v49, v51, v53⟩ wj ⟨hx, ho⟩
             have HOJ := aM ho; clear ho; obtain ⟨A53, c53, rfl⟩ := HOJ.out.row_slice 1 rfl; obtain ⟨A51, c51, rfl⟩ := HOJ.out.row_slice 0 rfl
             refine norm_ (a' := ?_) ?_ ?_
             rotate_left
             ·simp only [Act.put, putAll, sI, s0, sS, i64_w, i32_w]
              rfl
             refine one_ (i := 6) (N := some 54) #[ti,ti,ti,ti,ti,ti,ti,ti,ti,fi] rfl rfl (by kernel_rfl) (by decide) (fun K hK => ?_)
             refine Sep.own_append_all_step (Value.int .i64) (0 : Int) HOJ.out 0 _ _ 3 rfl (by rfl) (.tmp 51) (.tmp 53) 24 (.int .i64 0) 8 rfl Try.underlying24 info3 rfl (by omega) [i1] A53 1 c53 rfl rfl (HOJ.out.row_reads 1 rfl).2.2 zgd_ ?_
             intro v54 w6 ho
             have HO6 := aM ((((ho.front 1 rfl).tail).front 1 rfl).into 7 (by simp [impl_SeparateOnes.items])); clear ho
             refine hK.out _ _ (HO6.out.cell 6 rfl 0 rfl) (fun hHeld => ?_)
             clear hK K
             refine norm_ (a' := ?_) ?_ ?_
             rotate_left
             ·show Act.put _ (some 54) _ = _
              simp only [Act.put, sI, s0, sS, i64_w, i32_w]
              rfl
             refine one_ (i := 9) (N := some 57) #[ti,ti,ti,ti,ti,ti,ti,ti,ti,ti] rfl rfl (by kernel_rfl) (by decide) (fun K hK => ?_)
             refine Sep.goesC_ (f := 169) Try.func169 (by kernel_rfl) rfl #[v54, .int .i64 (wrap64 (i1 + 1)), .pointer (some ⟨gb, 0, none⟩), .pointer (some ⟨gt, 0, none⟩), .pointer (some ⟨gp, 0, none⟩), .pointer (some ⟨gx, 0, none⟩)] (by rfl) rfl rfl rfl zeb_ ?_
             refine (IH.out k1 (by have := HK.out; have := HK1.out; omega) (list ++ [i1]) best1 (wrap64 (i1 + 1)) w6 v54 _ (Item.row (Kd.int .i64) 3 (.slice Al list.length cl) list :: F) b HO6.out (by simp; omega) HB1.out HA2.out).mono ?_
             rintro e w7 ⟨rfl, vb2, ho⟩
             refine ⟨_, rfl, ?_⟩
             have HO7 := aM ((ho.tail).front 6 rfl); clear ho
             refine hK.out _ _ (HO7.out.cell 6 rfl 0 rfl) (fun hHeld => ?_)
             clear hK K
             refine norm_ (a' := ?_) ?_ ?_
             rotate_left
             ·show Act.put _ (some 57) _ = _
              simp only [Act.put, sI, s0, sS, i64_w, i32_w]
              rfl
             refine done_ (by kernel_rfl) ?_
             go_wp2
             go_roundg k1
             case measure => have := HK1.out; omega
             case rel => exact ⟨b, vb2, wrap64 (i1 + 1), zb_, ⟨H⟩, ⟨zba_⟩, HO7, ⟨by omega⟩⟩
           ·rw [if_neg c6] at H
            exact absurd H (by simp)
          ·rw [if_neg c5] at H
           exact absurd H (by simp)
        ·rw [if_neg c4] at HA1
         have c4b := beq_eq_false_iff_ne.mpr c4; clear c4; obtain rfl := Option.some.inj HA1; clear HA1; replace H : impl_SeparateOnes.l k1 ps vs list best1 (wrap64 (i1 + 1)) = some r := H; have H' := aM H; clear H
         go_wp2
         go_roundg k1
         case measure => have := HK1.out; omega
         case rel => exact ⟨best1, _, wrap64 (i1 + 1), zb_, H', ⟨zba_⟩, HO, HB1⟩
      ·rw [if_neg c2] at H
       exact absurd H (by simp)
     ·rw [if_neg c1] at H
      have c1b := decide_eq_false c1; obtain rfl := Option.some.inj H
      go_wp2
      go_end0
      exact ⟨rfl, _, HO.out⟩
open Go.Proofs.Ytbkighlfgaifeaa.Sep in
theorem impl_SeparateOnes.calls (k : Nat) (a0_0 : Int) (A0_1 : Option Addr) (c0_1 : Nat) (l0_1 : List Int) (r1 : List Int) (r2 : Bool) (w : World) (hr0_1 : Kd.C (Kd.int .i64) w A0_1 l0_1.length l0_1) (hc0_1 : l0_1.length ≤ c0_1) (h : impl_SeparateOnes.f k a0_0 l0_1 = some (r1, r2)) :
  Calls Try.prog 93 #[.agg #[.int .i64 a0_0, .slice A0_1 l0_1.length c0_1]] w fun e w' => ∃ v0_ : Value, e = .returned (.tuple #[v0_, .bool r2]) ∧ Kd.R (Kd.int .i64) 3 w' w.heap.size (fun _ => True) v0_ r1 ∧ Below w.heap.size w w' := by
 have hu60 := Try.underlying60
 have HR0_1 := aM hr0_1
 have HC0_1 := aM hc0_1
 clear hr0_1 hc0_1
 unfold impl_SeparateOnes.f at h
 obtain ⟨t, hA, h1⟩ := oB.mp h
 clear h
 have HA := aM hA
 clear hA
 cases t with
 | false =>
  have h2 : (([] : List Int), false) = (r1, r2) := Option.some.inj h1; clear h1
  injection h2 with e1 e2
  subst e1; subst e2
  go_enter Try.func93, Try.ntmps93
  go_wp2_with (first | ((with_reducible refine gate_dst (N := 1) rfl ?_); refine box_event ?hg (N := 1) ?hd (cs := #[.int .i64 a0_0, .slice A0_1 l0_1.length c0_1]) (t := 60) ?hr ?_; (case hd => rfl); (case hg => rfl); (case hr => exact zc_); intro gt hg w1 hbox hb; have HO1 := aM ((Sep.Own.nil w).add_box (T := 60) (cs := #[.int .i64 a0_0, .slice A0_1 l0_1.length c0_1]) hg hbox hb); have zt0 : w1.cell? ⟨gt, 0, none⟩ = some (.int .i64 a0_0) := HO1.out.cell 0 rfl 0 rfl; have zt1 : w1.cell? ⟨gt, 1, none⟩ = some (.slice A0_1 l0_1.length c0_1) := HO1.out.cell 0 rfl 1 rfl; clear hg hbox hb) | ((with_reducible refine gate_callee (f := 127) rfl ?_); refine goesL_ (some 8) rfl rfl Try.func127 (by kernel_rfl) rfl #[.agg #[.int .i64 a0_0, .slice A0_1 l0_1.length c0_1]] rfl zeb_ ?_; (with_reducible refine (impl_IsTable.calls k a0_0 _ _ l0_1 _ w1 ?s1 ?s2 HA.out).mono ?_); (case s1 => exact Kd.C_below HR0_1.out HO1.out.base); (case s2 => exact HC0_1.out); rintro e w2 ⟨rfl, hb⟩; refine ⟨_, rfl, ?_⟩; have HO2 := aM (HO1.out.below hb); clear hb zt0 zt1; have zt0 : w2.cell? ⟨gt, 0, none⟩ = some (.int .i64 a0_0) := HO2.out.cell 0 rfl 0 rfl; have zt1 : w2.cell? ⟨gt, 1, none⟩ = some (.slice A0_1 l0_1.length c0_1) := HO2.out.cell 0 rfl 1 rfl))
  go_ret2
  exact ⟨_, rfl, Kd.R_nil _ _ _ _ _, HO2.out.base⟩
 | true =>
  replace h1 : ((impl_primesOf.f k a0_0 l0_1).bind fun ps => ((impl_SeparateOnes.l k ps l0_1 [] [] 0).bind fun b => some (b, true))) = some (r1, r2) := h1; obtain ⟨ps, hA2, h2⟩ := oB.mp h1; obtain ⟨b, hA3, h3⟩ := oB.mp h2; clear h1 h2; replace h3 := Option.some.inj h3
  injection h3 with e1 e2
  subst e1; subst e2; have HA2 := aM hA2; have HA3 := aM hA3; clear hA2 hA3
  go_enter Try.func93, Try.ntmps93
  go_wp2_with (first | ((with_reducible refine gate_dst (N := 1) rfl ?_); refine box_event ?hg (N := 1) ?hd (cs := #[.int .i64 a0_0, .slice A0_1 l0_1.length c0_1]) (t := 60) ?hr ?_; (case hd => rfl); (case hg => rfl); (case hr => exact zc_); intro gt hg w1 hbox hb; have HO1 := aM ((Sep.Own.nil w).add_box (T := 60) (cs := #[.int .i64 a0_0, .slice A0_1 l0_1.length c0_1]) hg hbox hb); have zt0 : w1.cell? ⟨gt, 0, none⟩ = some (.int .i64 a0_0) := HO1.out.cell 0 rfl 0 rfl; have zt1 : w1.cell? ⟨gt, 1, none⟩ = some (.slice A0_1 l0_1.length c0_1) := HO1.out.cell 0 rfl 1 rfl; clear hg hbox hb) | ((with_reducible refine gate_callee (f := 127) rfl ?_); refine goesL_ (some 8) rfl rfl Try.func127 (by kernel_rfl) rfl #[.agg #[.int .i64 a0_0, .slice A0_1 l0_1.length c0_1]] rfl zeb_ ?_; (with_reducible refine (impl_IsTable.calls k a0_0 _ _ l0_1 _ w1 ?s1 ?s2 HA.out).mono ?_); (case s1 => exact Kd.C_below HR0_1.out HO1.out.base); (case s2 => exact HC0_1.out); rintro e w2 ⟨rfl, hb⟩; refine ⟨_, rfl, ?_⟩; have HO2 := aM (HO1.out.below hb); clear hb zt0 zt1; have zt0 : w2.cell? ⟨gt, 0, none⟩ = some (.int .i64 a0_0) := HO2.out.cell 0 rfl 0 rfl; have zt1 : w2.cell? ⟨gt, 1, none⟩ = some (.slice A0_1 l0_1.length c0_1) := HO2.out.cell 0 rfl 1 rfl) | ((with_reducible refine gate_callee (f := 130) rfl ?_); refine goesL_ (some 11) rfl rfl Try.func130 (by kernel_rfl) rfl #[.agg #[.int .i64 a0_0, .slice A0_1 l0_1.length c0_1]] rfl zeb_ ?_; (with_reducible refine (impl_primesOf.calls k a0_0 _ _ l0_1 _ w2 ?s1 ?s2 HA2.out).mono ?_); (case s1 => exact Kd.C_below HR0_1.out HO2.out.base); (case s2 => exact HC0_1.out); rintro e w3 ⟨vp, rfl, hR, hb⟩; refine ⟨_, rfl, ?_⟩; have ho := (HO2.out.add_row hR hb); obtain ⟨Ap, cp, rfl⟩ := ho.row_slice 0 rfl; have HO3 := aM ho; clear ho hR hb) | ((with_reducible refine gate_dst (N := 4) rfl ?_); refine box_event ?hg (N := 4) ?hd (cs := #[.slice none 0 0]) (t := 68) ?hr ?_; (case hd => rfl); (case hg => rfl); (case hr => exact zc_); intro gp hg w4 hbox hb; have HO4 := aM (HO3.out.add_box (T := 68) (cs := #[.slice none 0 0]) hg hbox hb); clear hg hbox hb) | ((with_reducible refine gate_store (t := 68) (p := 4) (v := .tmp 11) rfl ?_); refine Sep.own_store HO4.out 0 gp 68 _ #[.slice Ap ps.length cp] rfl rfl rfl 68 (.tmp 4) (.tmp 11) rfl rfl _ rfl rfl rfl (by kernel_rfl) (by simp [Value.oneCell']) ?_; intro w5 ho; have HO5 := aM ho; clear ho) | ((with_reducible refine gate_dst (N := 12) rfl ?_); refine Sep.own_lit0 (Kd.int .i64) HO5.out 3 ?hg (N := 12) ?hd ?hr ?_; (case hd => rfl); (case hg => rfl); (case hr => exact zc_); intro v1 w6 ho _; obtain ⟨Ab, cb, rfl⟩ := ho.row_slice 0 rfl; have HO6 := aM ho; clear ho) | ((with_reducible refine gate_dst (N := 5) rfl ?_); refine box_event ?hg (N := 5) ?hd (cs := #[.slice none 0 0]) (t := 24) ?hr ?_; (case hd => rfl); (case hg => rfl); (case hr => exact zc_); intro gb hg w7 hbox hb; have HO7 := aM (HO6.out.add_box (T := 24) (cs := #[.slice none 0 0]) hg hbox hb); clear hg hbox hb) | ((with_reducible refine gate_store (t := 24) (p := 5) (v := .tmp 12) rfl ?_); refine Sep.own_store HO7.out 0 gb 24 _ #[.slice Ab ([] : List Int).length cb] rfl rfl rfl 24 (.tmp 5) (.tmp 12) rfl rfl _ rfl rfl rfl (by kernel_rfl) (by simp [Value.oneCell']) ?_; intro w8 ho; have HO8 := aM ho; clear ho) | ((with_reducible refine gate_dst (N := 6) rfl ?_); refine box_event ?hg (N := 6) ?hd (cs := #[.nilFunc]) (t := 155) ?hr ?_; (case hd => rfl); (case hg => rfl); (case hr => exact zc_); intro gx hg w9 hbox hb; have HO9 := aM (HO8.out.add_box (T := 155) (cs := #[.nilFunc]) hg hbox hb); clear hg hbox hb) | ((with_reducible refine gate_store (t := 155) (p := 6) (v := .tmp 13) rfl ?_); refine Sep.own_store HO9.out 0 gx 155 _ #[.func (.func 169) #[] #[.pointer (some ⟨gb, 0, none⟩), .pointer (some ⟨gt, 0, none⟩), .pointer (some ⟨gp, 0, none⟩), .pointer (some ⟨gx, 0, none⟩)]] rfl rfl rfl 155 (.tmp 6) (.tmp 13) rfl rfl _ rfl rfl rfl (by kernel_rfl) (by simp [Value.oneCell']) ?_; intro w10 ho; have HO10 := aM ho; clear ho; have zx : w10.cell? ⟨gx, 0, none⟩ = some (.func (.func 169) #[] #[.pointer (some ⟨gb, 0, none⟩), .pointer (some ⟨gt, 0, none⟩), .pointer (some ⟨gp, 0, none⟩), .pointer (some ⟨gx, 0, none⟩)]) := HO10.out.cell 0 rfl 0 rfl) | ((with_reducible refine gate_dst (N := 15) rfl ?_); (have hown_ : Sep.Own w w10 (impl_SeparateOnes.items gb gt gp gx (.slice none 0 0) (.slice Ab ([] : List Int).length cb) (.slice Ap ps.length cp) [] [] a0_0 A0_1 c0_1 l0_1 ps []) := ((((HO10.out.front 5 rfl).into 3 (by simp)).into 5 (Nat.le_refl 5)).add (Below.refl _ _) (Item.row (Kd.int .i64) 3 (.slice none 0 0) []) (show Kd.R _ _ _ _ _ _ _ from Kd.R_nil _ _ _ _ _)); refine Sep.goesCL_ (some 15) rfl rfl (f := 169) (fn := Try.f169) Try.func169 (by kernel_rfl) rfl #[.slice none 0 0, .int .i64 0, .pointer (some ⟨gb, 0, none⟩), .pointer (some ⟨gt, 0, none⟩), .pointer (some ⟨gp, 0, none⟩), .pointer (some ⟨gx, 0, none⟩)] rfl rfl zeb_ ?_; (with_reducible refine (impl_SeparateOnes.ext a0_0 A0_1 c0_1 l0_1 ps w HR0_1.out HC0_1.out gb gt gp gx _ k k (Nat.le_refl _) [] [] 0 w10 _ _ [] b hown_ (by simp) (by simp) (by simp only [impl_SeparateOnes.long, ite_self]; exact HA3.out)).mono ?_); rintro e w11 ⟨rfl, vb, ho⟩; refine ⟨_, rfl, ?_⟩; have HO11 := aM ho; have zb : w11.cell? ⟨gb, 0, none⟩ = some vb := HO11.out.cell 1 rfl 0 rfl; clear ho)))
  go_ret2
  obtain ⟨P, hP⟩ := HO11.out.get 2 rfl
  exact ⟨_, rfl, Kd.R_mono hP (fun _ _ => trivial), HO11.out.base⟩
end Go.Proofs.Ytbkighlfgaifeaa.QFnLeastSums
