/- Functions of the law FnTracks, each as a Lean function, and the proofs that the Go code comes to their answers. Made by wip/gen/slim.py. Conditions: those of each theorem. -/
import Derived.Test.YtbkighlfgaifeaaSFnTracksx0
namespace Go.Proofs.Ytbkighlfgaifeaa.QFnTracks
open Go.RowKit Go.Proofs.YtbkighlfgaifeaaW.PrintWords Go.Proofs.YtbkighlfgaifeaaW.PrintLast Go.Proofs.YtbkighlfgaifeaaW.PrintMore
open Go.Proofs.YtbkighlfgaifeaaW.PrintWords renaming pw_below_drewN → pN, below_drew1 → p1, below_alloc → pA
open Go.Proofs.YtbkighlfgaifeaaW.PrintWords.Kd renaming R_alloc → kA, R_drewN → kN, R_drew → kD, Q_alloc → qA, Q_drewN → qN, Q_drew → qD, C_alloc → cA, C_drewN → cN, C_drew → cD
open Go.Proofs.YtbkighlfgaifeaaW.PrintWords.Aside0 renaming mk → aM
open List renaming setIfInBounds_toArray → sI, set_cons_zero → s0, set_cons_succ → sS, map_toArray → mT, length_take → lT, length_drop → lD, map_cons → mC, map_nil → mN
open Option renaming bind_eq_some_iff → oB, bind_some → oS
attribute [local go_sem] max2_int min2_int max_two min_two max_three min_three max_four min_four
set_option maxHeartbeats 8000000
set_option maxRecDepth 100000
set_option linter.unusedVariables false
set_option linter.unusedSimpArgs false
def spec_rtMeet.f (a0_0 : Int) (a0_1 : Int) (a1_0 : Int) (a1_1 : Int) : Option (Bool) := if a0_0 ≤ a1_1 then (some (decide (a1_0 ≤ a0_1))) else (some false)
theorem spec_rtMeet.calls (a0_0 : Int) (a0_1 : Int) (a1_0 : Int) (a1_1 : Int) (r : Bool) (w : World) (h : spec_rtMeet.f a0_0 a0_1 a1_0 a1_1 = some r) :
  Calls Try.prog 114 #[.agg #[.int .i64 a0_0, .int .i64 a0_1], .agg #[.int .i64 a1_0, .int .i64 a1_1]] w fun e w' => e = .returned (.bool r) ∧ Below w.heap.size w w' := by
 have hu32 := Try.underlying32
 have HB := aM (Below.refl w.heap.size w)
 have H : (if a0_0 ≤ a1_1 then (some (decide (a1_0 ≤ a0_1))) else (some false)) = some r := h
 clear h
 by_cases c3 : a0_0 ≤ a1_1
 ·rw [if_pos c3] at H
  have c3b0 : decide (a0_0 ≤ a1_1) = true := decide_eq_true c3
  clear c3
  obtain rfl := Option.some.inj H
  go_enter Try.func114, Try.ntmps114
  go_wp2_with (first | ((with_reducible refine gate_dst (N := 2) rfl ?_); refine box_event ?hg (N := 2) ?hd (cs := #[.int .i64 a0_0, .int .i64 a0_1]) (t := 32) ?hr ?_; (case hd => rfl); (case hg => rfl); (case hr => exact zf_); intro gb101 hg w4 hbox hb; have n_ := z (below_step za_ hb) <| z (hbox) <| z ((by rw [hg]; exact (below_size za_) : w.heap.size ≤ gb101)) <| z1 ((by rw [hg]; exact (below_size za_) : w.heap.size ≤ gb101)); clear HB; obtain ⟨HB, BK101, GW101, GE101⟩ := n_; clear hb hbox hg) | ((with_reducible refine gate_dst (N := 3) rfl ?_); refine box_event ?hg (N := 3) ?hd (cs := #[.int .i64 a1_0, .int .i64 a1_1]) (t := 32) ?hr ?_; (case hd => rfl); (case hg => rfl); (case hr => exact zf_); intro gb102 hg w5 hbox hb; have n_ := z (blk_below (g := gb101) (o := .cells #[.int .i64 a0_0, .int .i64 a0_1] 32 (0, 0)) (zb BK101.out) hb) <| z (below_step zdh_ hb) <| z (hbox) <| z ((by rw [hg]; exact (below_size zdh_) : w.heap.size ≤ gb102)) <| z ((by rw [hg]; exact (below_size zdh_) : w.heap.size ≤ gb102)) <| z ((by rw [hg]; exact Nat.ne_of_lt (blk_lt (g := gb101) (o := .cells #[.int .i64 a0_0, .int .i64 a0_1] 32 (0, 0)) (zb BK101.out)) : gb101 ≠ gb102)) <| z1 ((by rw [hg]; exact Nat.ne_of_gt (blk_lt (g := gb101) (o := .cells #[.int .i64 a0_0, .int .i64 a0_1] 32 (0, 0)) (zb BK101.out)) : gb102 ≠ gb101)); clear BK101 HB; obtain ⟨BK101, HB, BK102, GW102, GE102, NB101_102, NB102_101⟩ := n_; clear hb hbox hg; have hnb6 := NB101_102.out; have hnc6 := NB102_101.out; have hcz7_0 : w5.cell? ⟨gb101, 0, none⟩ = some (.int .i64 a0_0) := (blk_cell BK101.out 0).trans rfl; have hcz7_1 : w5.cell? ⟨gb101, 1, none⟩ = some (.int .i64 a0_1) := (blk_cell BK101.out 1).trans rfl; have hfz7_0 := blk_frozen BK101.out 0; have hfz7_1 := blk_frozen BK101.out 1; have hcz8_0 : w5.cell? ⟨gb102, 0, none⟩ = some (.int .i64 a1_0) := (blk_cell BK102.out 0).trans rfl; have hcz8_1 : w5.cell? ⟨gb102, 1, none⟩ = some (.int .i64 a1_1) := (blk_cell BK102.out 1).trans rfl; have hfz8_0 := blk_frozen BK102.out 0; have hfz8_1 := blk_frozen BK102.out 1))
  go_ret
  exact ⟨zg_, by repeat (first | (with_reducible first | exact HB.out | apply pA | apply pN | apply p1 | refine below_set ?_ GE101.out | refine below_set ?_ GE102.out) | exact HB.out)⟩
 ·rw [if_neg c3] at H
  have c3b0 : decide (a0_0 ≤ a1_1) = false := decide_eq_false c3
  clear c3
  obtain rfl := Option.some.inj H
  go_enter Try.func114, Try.ntmps114
  go_wp2_with (first | ((with_reducible refine gate_dst (N := 2) rfl ?_); refine box_event ?hg (N := 2) ?hd (cs := #[.int .i64 a0_0, .int .i64 a0_1]) (t := 32) ?hr ?_; (case hd => rfl); (case hg => rfl); (case hr => exact zf_); intro gb101 hg w9 hbox hb; have n_ := z (below_step za_ hb) <| z (hbox) <| z ((by rw [hg]; exact (below_size za_) : w.heap.size ≤ gb101)) <| z1 ((by rw [hg]; exact (below_size za_) : w.heap.size ≤ gb101)); clear HB; obtain ⟨HB, BK101, GW101, GE101⟩ := n_; clear hb hbox hg) | ((with_reducible refine gate_dst (N := 3) rfl ?_); refine box_event ?hg (N := 3) ?hd (cs := #[.int .i64 a1_0, .int .i64 a1_1]) (t := 32) ?hr ?_; (case hd => rfl); (case hg => rfl); (case hr => exact zf_); intro gb102 hg w10 hbox hb; have n_ := z (blk_below (g := gb101) (o := .cells #[.int .i64 a0_0, .int .i64 a0_1] 32 (0, 0)) (zb BK101.out) hb) <| z (below_step zdh_ hb) <| z (hbox) <| z ((by rw [hg]; exact (below_size zdh_) : w.heap.size ≤ gb102)) <| z ((by rw [hg]; exact (below_size zdh_) : w.heap.size ≤ gb102)) <| z ((by rw [hg]; exact Nat.ne_of_lt (blk_lt (g := gb101) (o := .cells #[.int .i64 a0_0, .int .i64 a0_1] 32 (0, 0)) (zb BK101.out)) : gb101 ≠ gb102)) <| z1 ((by rw [hg]; exact Nat.ne_of_gt (blk_lt (g := gb101) (o := .cells #[.int .i64 a0_0, .int .i64 a0_1] 32 (0, 0)) (zb BK101.out)) : gb102 ≠ gb101)); clear BK101 HB; obtain ⟨BK101, HB, BK102, GW102, GE102, NB101_102, NB102_101⟩ := n_; clear hb hbox hg; have hnb11 := NB101_102.out; have hnc11 := NB102_101.out; have hcz12_0 : w10.cell? ⟨gb101, 0, none⟩ = some (.int .i64 a0_0) := (blk_cell BK101.out 0).trans rfl; have hcz12_1 : w10.cell? ⟨gb101, 1, none⟩ = some (.int .i64 a0_1) := (blk_cell BK101.out 1).trans rfl; have hfz12_0 := blk_frozen BK101.out 0; have hfz12_1 := blk_frozen BK101.out 1; have hcz13_0 : w10.cell? ⟨gb102, 0, none⟩ = some (.int .i64 a1_0) := (blk_cell BK102.out 0).trans rfl; have hcz13_1 : w10.cell? ⟨gb102, 1, none⟩ = some (.int .i64 a1_1) := (blk_cell BK102.out 1).trans rfl; have hfz13_0 := blk_frozen BK102.out 0; have hfz13_1 := blk_frozen BK102.out 1))
  go_ret
  exact ⟨zg_, by repeat (first | (with_reducible first | exact HB.out | apply pA | apply pN | apply p1 | refine below_set ?_ GE101.out | refine below_set ?_ GE102.out) | exact HB.out)⟩
def spec_l1In.f (a0 : Int) (a1 : Int) (a2 : Int) : Option (Bool) := if a0 ≥ a1 then (some (decide (a0 ≤ a2))) else (some false)
theorem spec_l1In.calls (a0 : Int) (a1 : Int) (a2 : Int) (r : Bool) (w : World) (h : spec_l1In.f a0 a1 a2 = some r) :
  Calls Try.prog 108 #[.int .i64 a0, .int .i64 a1, .int .i64 a2] w fun e w' => e = .returned (.bool r) ∧ Drawn0 w w' := by
 have H : (if a0 ≥ a1 then (some (decide (a0 ≤ a2))) else (some false)) = some r := h
 clear h
 by_cases c4 : a0 ≥ a1
 ·rw [if_pos c4] at H
  have c4b0 : decide (a1 ≤ a0) = true := decide_eq_true c4
  clear c4
  obtain rfl := Option.some.inj H
  go_enter Try.func108, Try.ntmps108
  go_wp2
  go_ret
  exact ⟨zc_, zbc_⟩
 ·rw [if_neg c4] at H
  have c4b0 : decide (a1 ≤ a0) = false := decide_eq_false c4
  clear c4
  obtain rfl := Option.some.inj H
  go_enter Try.func108, Try.ntmps108
  go_wp2
  go_ret
  exact ⟨zc_, zbc_⟩
def spec_rtWire.f (a0_0 : Int) (a0_1 : Int) : Option (Bool) := (spec_l1In.f a0_0 0 a0_1).bind fun t104 => (if t104 = true then ((spec_l1In.f a0_1 a0_0 50).bind fun t105 => (some t105)) else (some false))
theorem spec_rtWire.calls (a0_0 : Int) (a0_1 : Int) (r : Bool) (w : World) (h : spec_rtWire.f a0_0 a0_1 = some r) :
  Calls Try.prog 113 #[.agg #[.int .i64 a0_0, .int .i64 a0_1]] w fun e w' => e = .returned (.bool r) ∧ Below w.heap.size w w' := by
 have hu32 := Try.underlying32
 have HB := aM (Below.refl w.heap.size w)
 have H : ((spec_l1In.f a0_0 0 a0_1).bind fun t104 => (if t104 = true then ((spec_l1In.f a0_1 a0_0 50).bind fun t105 => (some t105)) else (some false))) = some r := h
 clear h
 replace H := oB.mp H
 obtain ⟨t104, A20, H⟩ := H
 replace H : (if t104 = true then ((spec_l1In.f a0_1 a0_0 50).bind fun t105 => (some t105)) else (some false)) = some r := H
 have A2 := aM A20
 clear A20
 by_cases c3 : t104 = true
 ·subst c3
  have H1 : ((spec_l1In.f a0_1 a0_0 50).bind fun t105 => (some t105)) = some r := by rw [if_pos rfl] at H; exact H
  clear H
  have H := H1
  clear H1
  replace H := oB.mp H
  obtain ⟨t105, A40, H⟩ := H
  replace H : (some t105) = some r := H
  have A4 := aM A40
  clear A40
  obtain rfl := Option.some.inj H
  go_enter Try.func113, Try.ntmps113
  go_wp2_with (first | ((with_reducible refine gate_dst (N := 1) rfl ?_); refine box_event ?hg (N := 1) ?hd (cs := #[.int .i64 a0_0, .int .i64 a0_1]) (t := 32) ?hr ?_; (case hd => rfl); (case hg => rfl); (case hr => exact zf_); intro gb103 hg w5 hbox hb; have n_ := z (below_step za_ hb) <| z (hbox) <| z ((by rw [hg]; exact (below_size za_) : w.heap.size ≤ gb103)) <| z1 ((by rw [hg]; exact (below_size za_) : w.heap.size ≤ gb103)); clear HB; obtain ⟨HB, BK103, GW103, GE103⟩ := n_; clear hb hbox hg; have hcz6_0 : w5.cell? ⟨gb103, 0, none⟩ = some (.int .i64 a0_0) := (blk_cell BK103.out 0).trans rfl; have hcz6_1 : w5.cell? ⟨gb103, 1, none⟩ = some (.int .i64 a0_1) := (blk_cell BK103.out 1).trans rfl; have hfz6_0 := blk_frozen BK103.out 0; have hfz6_1 := blk_frozen BK103.out 1) | ((with_reducible refine gate_callee (f := 108) rfl ?_); refine goesL_ (some 7) rfl rfl Try.func108 (by kernel_rfl) rfl #[.int .i64 a0_0, .int .i64 0, .int .i64 a0_1] rfl zd_ ?_; (with_reducible refine (spec_l1In.calls a0_0 0 a0_1 true _ A2.out).mono ?_); rintro e w' ⟨rfl, ⟨nd, rfl⟩⟩; refine ⟨_, rfl, ?_⟩) | (go_at_call 108; (with_reducible refine (spec_l1In.calls a0_1 a0_0 50 t105 _ A4.out).mono ?_); rintro e w' ⟨rfl, ⟨nd, rfl⟩⟩))
  go_ret
  exact ⟨zg_, by repeat (first | (with_reducible first | exact HB.out | apply pA | apply pN | apply p1 | refine below_set ?_ GE103.out) | exact HB.out)⟩
 ·replace c3 := Bool.eq_false_iff.mpr c3
  subst c3
  have H1 : (some false) = some r := by rw [if_neg (show ¬ (false = true) by decide)] at H; exact H
  clear H
  have H := H1
  clear H1
  obtain rfl := Option.some.inj H
  go_enter Try.func113, Try.ntmps113
  go_wp2_with (first | ((with_reducible refine gate_dst (N := 1) rfl ?_); refine box_event ?hg (N := 1) ?hd (cs := #[.int .i64 a0_0, .int .i64 a0_1]) (t := 32) ?hr ?_; (case hd => rfl); (case hg => rfl); (case hr => exact zf_); intro gb103 hg w7 hbox hb; have n_ := z (below_step za_ hb) <| z (hbox) <| z ((by rw [hg]; exact (below_size za_) : w.heap.size ≤ gb103)) <| z1 ((by rw [hg]; exact (below_size za_) : w.heap.size ≤ gb103)); clear HB; obtain ⟨HB, BK103, GW103, GE103⟩ := n_; clear hb hbox hg; have hcz8_0 : w7.cell? ⟨gb103, 0, none⟩ = some (.int .i64 a0_0) := (blk_cell BK103.out 0).trans rfl; have hcz8_1 : w7.cell? ⟨gb103, 1, none⟩ = some (.int .i64 a0_1) := (blk_cell BK103.out 1).trans rfl; have hfz8_0 := blk_frozen BK103.out 0; have hfz8_1 := blk_frozen BK103.out 1) | ((with_reducible refine gate_callee (f := 108) rfl ?_); refine goesL_ (some 7) rfl rfl Try.func108 (by kernel_rfl) rfl #[.int .i64 a0_0, .int .i64 0, .int .i64 a0_1] rfl zd_ ?_; (with_reducible refine (spec_l1In.calls a0_0 0 a0_1 false _ A2.out).mono ?_); rintro e w' ⟨rfl, ⟨nd, rfl⟩⟩; refine ⟨_, rfl, ?_⟩))
  go_ret
  exact ⟨zg_, by repeat (first | (with_reducible first | exact HB.out | apply pA | apply pN | apply p1 | refine below_set ?_ GE103.out) | exact HB.out)⟩
def spec_rtGood.l0 : Nat → List (S32) → List (S32) → Int → Int → Option (Bool)
 | 0, _, _, _, _ => none
 | k + 1, x0, x5, x6, x7 => if x7 < x6 then (if 0 ≤ x7 then (if x7 < (x5.length : Int) then ((spec_rtWire.f ((rd_T32 x5 x7).f0) ((rd_T32 x5 x7).f1)).bind fun t108 => (if t108 = true then (spec_rtGood.l0 k x0 x5 x6 (wrap64 (x7 + 1))) else (some false))) else (none)) else (none)) else (some (decide ((x0.length : Int) ≤ 20)))
def spec_rtGood.f (k : Nat) (l0 : List (S32)) : Option (Bool) := spec_rtGood.l0 k l0 l0 (l0.length : Int) 0
theorem spec_rtGood.calls (k : Nat) (A0 : Option Addr) (c0 : Nat) (l0 : List (S32)) (r : Bool) (w : World) (hr0 : Kd.C k32 w A0 l0.length l0) (hc0 : l0.length ≤ c0) (h : spec_rtGood.f k l0 = some r) :
  Calls Try.prog 162 #[.slice A0 l0.length c0] w fun e w' => e = .returned (.bool r) ∧ Below w.heap.size w w' := by
 have hu32 := Try.underlying32
 have HR0 := aM hr0
 have HC0 := aM hc0
 clear hr0 hc0
 have HB := aM (Below.refl w.heap.size w)
 have H : (spec_rtGood.l0 k l0 l0 (l0.length : Int) 0) = some r := h
 clear h
 have H' := aM H
 clear H
 go_enter Try.func162, Try.ntmps162
 go_wp2
 go_loopg [7] k (fun kq v7 w' => ∃ (x7_1 : Int), v7 = .int .i64 x7_1 ∧ Aside0 (spec_rtGood.l0 kq l0 l0 (l0.length : Int) x7_1 = some r) ∧ Aside0 (kq ≤ k) ∧ Aside0 (Below w.heap.size w w'))
 case atStart => exact ⟨(0), zc_, H', ⟨Nat.le_refl _⟩, ⟨za_⟩⟩
 case round =>
  clear H'
  try clear c1
  obtain ⟨x7_1, rfl, HA, HK1, HB⟩ := hrel
  cases gk with
  | zero => exact absurd HA.out (by simp [spec_rtGood.l0])
  | succ k1 =>
   have H := HA.out
   clear HA
   simp only [spec_rtGood.l0] at H
   by_cases c2 : x7_1 < (l0.length : Int)
   ·rw [if_pos c2] at H
    have c2b0 : decide (x7_1 < (l0.length : Int)) = true := decide_eq_true c2
    clear c2
    by_cases c3 : 0 ≤ x7_1
    ·rw [if_pos c3] at H
     have c3b0 : decide (0 ≤ x7_1) = true := decide_eq_true c3
     clear c3
     by_cases c4 : x7_1 < (l0.length : Int)
     ·rw [if_pos c4] at H
      have c4b0 : decide (x7_1 < (l0.length : Int)) = true := decide_eq_true c4
      clear c4
      replace H := oB.mp H
      obtain ⟨t108, A50, H⟩ := H
      replace H : (if t108 = true then (spec_rtGood.l0 k1 l0 l0 (l0.length : Int) (wrap64 (x7_1 + 1))) else (some false)) = some r := H
      have A5 := aM A50
      clear A50
      by_cases c6 : t108 = true
      ·subst c6
       have H1 : (spec_rtGood.l0 k1 l0 l0 (l0.length : Int) (wrap64 (x7_1 + 1))) = some r := by rw [if_pos rfl] at H; exact H
       clear H
       have H := H1
       clear H1
       have H' := aM H
       clear H
       have p106 : 0 ≤ (x7_1 : Int) := of_decide_eq_true zb_
       have q106 : x7_1 < (l0.length : Int) := of_decide_eq_true zb_
       obtain ⟨ad106, e106, hx106_0, hx106_1⟩ := at_T32 HR0.out x7_1 p106 q106
       cases e106
       (try (replace hx106_0 := (HB.out.cell (World.block_lt_of_cell? w _ hx106_0)).trans hx106_0))
       (try (replace hx106_1 := (HB.out.cell (World.block_lt_of_cell? w _ hx106_1)).trans hx106_1))
       replace p106 := eq_true p106
       replace q106 := eq_true q106
       go_wp2_with (first | ((with_reducible refine gate_dst (N := 4) rfl ?_); refine box_event ?hg (N := 4) ?hd (cs := #[.int .i64 0, .int .i64 0]) (t := 32) ?hr ?_; (case hd => rfl); (case hg => rfl); (case hr => exact zf_); intro gb107 hg w7 hbox hb; have n_ := z (below_step za_ hb) <| z (hbox) <| z ((by rw [hg]; exact (below_size za_) : w.heap.size ≤ gb107)) <| z1 ((by rw [hg]; exact (below_size za_) : w.heap.size ≤ gb107)); clear HB; obtain ⟨HB, BK107, GW107, GE107⟩ := n_; clear hb hbox hg; have hcz8_0 : w7.cell? ⟨gb107, 0, none⟩ = some (.int .i64 0) := (blk_cell BK107.out 0).trans rfl; have hcz8_1 : w7.cell? ⟨gb107, 1, none⟩ = some (.int .i64 0) := (blk_cell BK107.out 1).trans rfl; have hfz8_0 := blk_frozen BK107.out 0; have hfz8_1 := blk_frozen BK107.out 1) | ((with_reducible refine gate_callee (f := 113) rfl ?_); refine goesL_ (some 12) rfl rfl Try.func113 (by kernel_rfl) rfl #[.agg #[.int .i64 ((rd_T32 l0 x7_1).f0), .int .i64 ((rd_T32 l0 x7_1).f1)]] rfl zd_ ?_; (with_reducible refine (spec_rtWire.calls ((rd_T32 l0 x7_1).f0) ((rd_T32 l0 x7_1).f1) true _ A5.out).mono ?_); rintro e w9 ⟨rfl, hb⟩; refine ⟨_, rfl, ?_⟩; have n_ := z (blk_below (g := gb107) (o := .cells #[.int .i64 ((rd_T32 l0 x7_1).f0), .int .i64 ((rd_T32 l0 x7_1).f1)] 32 (0, 0)) (by refine zb ?_; refine blk_put (cs := #[.int .i64 ((rd_T32 l0 x7_1).f0), .int .i64 0]) ?_ 1 _ rfl; refine zb ?_; refine blk_put (cs := #[.int .i64 0, .int .i64 0]) ?_ 0 _ rfl; refine zb ?_; exact BK107.out) hb) <| z1 (below_step zej_ hb); clear BK107 HB; obtain ⟨BK107, HB⟩ := n_; (try clear hb)))
       go_roundg k1
       case measure => have := HK1.out; omega
       case rel => exact ⟨(wrap64 (x7_1 + 1)), zc_, H', ⟨zcc_⟩, ⟨zej_⟩⟩
      ·replace c6 := Bool.eq_false_iff.mpr c6
       subst c6
       have H1 : (some false) = some r := by rw [if_neg (show ¬ (false = true) by decide)] at H; exact H
       clear H
       have H := H1
       clear H1
       obtain rfl := Option.some.inj H
       have p106 : 0 ≤ (x7_1 : Int) := of_decide_eq_true zb_
       have q106 : x7_1 < (l0.length : Int) := of_decide_eq_true zb_
       obtain ⟨ad106, e106, hx106_0, hx106_1⟩ := at_T32 HR0.out x7_1 p106 q106
       cases e106
       (try (replace hx106_0 := (HB.out.cell (World.block_lt_of_cell? w _ hx106_0)).trans hx106_0))
       (try (replace hx106_1 := (HB.out.cell (World.block_lt_of_cell? w _ hx106_1)).trans hx106_1))
       replace p106 := eq_true p106
       replace q106 := eq_true q106
       go_wp2_with (first | ((with_reducible refine gate_dst (N := 4) rfl ?_); refine box_event ?hg (N := 4) ?hd (cs := #[.int .i64 0, .int .i64 0]) (t := 32) ?hr ?_; (case hd => rfl); (case hg => rfl); (case hr => exact zf_); intro gb107 hg w10 hbox hb; have n_ := z (below_step za_ hb) <| z (hbox) <| z ((by rw [hg]; exact (below_size za_) : w.heap.size ≤ gb107)) <| z1 ((by rw [hg]; exact (below_size za_) : w.heap.size ≤ gb107)); clear HB; obtain ⟨HB, BK107, GW107, GE107⟩ := n_; clear hb hbox hg; have hcz11_0 : w10.cell? ⟨gb107, 0, none⟩ = some (.int .i64 0) := (blk_cell BK107.out 0).trans rfl; have hcz11_1 : w10.cell? ⟨gb107, 1, none⟩ = some (.int .i64 0) := (blk_cell BK107.out 1).trans rfl; have hfz11_0 := blk_frozen BK107.out 0; have hfz11_1 := blk_frozen BK107.out 1) | ((with_reducible refine gate_callee (f := 113) rfl ?_); refine goesL_ (some 12) rfl rfl Try.func113 (by kernel_rfl) rfl #[.agg #[.int .i64 ((rd_T32 l0 x7_1).f0), .int .i64 ((rd_T32 l0 x7_1).f1)]] rfl zd_ ?_; (with_reducible refine (spec_rtWire.calls ((rd_T32 l0 x7_1).f0) ((rd_T32 l0 x7_1).f1) false _ A5.out).mono ?_); rintro e w12 ⟨rfl, hb⟩; refine ⟨_, rfl, ?_⟩; have n_ := z (blk_below (g := gb107) (o := .cells #[.int .i64 ((rd_T32 l0 x7_1).f0), .int .i64 ((rd_T32 l0 x7_1).f1)] 32 (0, 0)) (by refine zb ?_; refine blk_put (cs := #[.int .i64 ((rd_T32 l0 x7_1).f0), .int .i64 0]) ?_ 1 _ rfl; refine zb ?_; refine blk_put (cs := #[.int .i64 0, .int .i64 0]) ?_ 0 _ rfl; refine zb ?_; exact BK107.out) hb) <| z1 (below_step zej_ hb); clear BK107 HB; obtain ⟨BK107, HB⟩ := n_; (try clear hb)))
       go_ret
       exact ⟨zg_, zej_⟩
     ·rw [if_neg c4] at H
      exact absurd H (by simp)
    ·rw [if_neg c3] at H
     exact absurd H (by simp)
   ·rw [if_neg c2] at H
    have c2b0 : decide (x7_1 < (l0.length : Int)) = false := decide_eq_false c2
    clear c2
    obtain rfl := Option.some.inj H
    go_wp2
    go_ret
    exact ⟨zg_, za_⟩
mutual
def spec_rtOrder.l0 : Nat → List (S32) → List Int → Int → Option (List Int)
 | 0, _, _, _ => none
 | k + 1, x0, x3, x4 => if x4 ≤ 50 then (spec_rtOrder.l1 k x0 x3 x4 x0 (x0.length : Int) 0) else (some x3)
def spec_rtOrder.l1 : Nat → List (S32) → List Int → Int → List (S32) → Int → Int → Option (List Int)
 | 0, _, _, _, _, _, _ => none
 | k + 1, x0, x3, x4, x11, x12, x13 => if x13 < x12 then (if 0 ≤ x13 then (if x13 < (x11.length : Int) then (if ((rd_T32 x11 x13).f0) = x4 then (if x3.length < 17592186044416 then (spec_rtOrder.l1 k x0 (x3 ++ [x13]) x4 x11 x12 (wrap64 (x13 + 1))) else (none)) else (spec_rtOrder.l1 k x0 x3 x4 x11 x12 (wrap64 (x13 + 1)))) else (none)) else (none)) else (spec_rtOrder.l0 k x0 x3 (wrap64 (x4 + 1)))
end
def spec_rtOrder.f (k : Nat) (l0 : List (S32)) : Option (List Int) := spec_rtOrder.l0 k l0 ([] : List Int) 0
theorem spec_rtOrder.calls (k : Nat) (A0 : Option Addr) (c0 : Nat) (l0 : List (S32)) (r : List Int) (w : World) (hr0 : Kd.C k32 w A0 l0.length l0) (hc0 : l0.length ≤ c0) (h : spec_rtOrder.f k l0 = some r) :
  Calls Try.prog 163 #[.slice A0 l0.length c0] w fun e w' => ∃ v0_ : Value, e = .returned (v0_) ∧ Kd.R (Kd.int .i64) 3 w' w.heap.size (fun _ => True) v0_ r ∧ Below w.heap.size w w' := by
 have hu32 := Try.underlying32
 have HR0 := aM hr0
 have HC0 := aM hc0
 clear hr0 hc0
 have HB := aM (Below.refl w.heap.size w)
 have H : (spec_rtOrder.l0 k l0 ([] : List Int) 0) = some r := h
 clear h
 have H' := aM H
 clear H
 go_enter Try.func163, Try.ntmps163
 go_wp2
 go_loopg [3, 4] k (fun kq v3 v4 w' => ∃ (x3_1 : List Int) (x4_1 : Int), v4 = .int .i64 x4_1 ∧ Aside0 (spec_rtOrder.l0 kq l0 x3_1 x4_1 = some r) ∧ Aside0 (kq ≤ k) ∧ Aside0 (Kd.R (Kd.int .i64) 3 w' w.heap.size (fun _ => True) v3 x3_1) ∧ Aside0 (Below w.heap.size w w'))
 case atStart => exact ⟨(([] : List Int)), (0), zc_, H', ⟨Nat.le_refl _⟩, ⟨zch_⟩, ⟨za_⟩⟩
 case round =>
  clear H'
  try clear c1
  obtain ⟨x3_1, x4_1, rfl, HA, HK1, HO_3, HB⟩ := hrel
  cases gk with
  | zero => exact absurd HA.out (by simp [spec_rtOrder.l0])
  | succ k1 =>
   have H := HA.out
   clear HA
   simp only [spec_rtOrder.l0] at H
   by_cases c2 : x4_1 ≤ 50
   ·rw [if_pos c2] at H
    have c2b0 : decide (x4_1 ≤ 50) = true := decide_eq_true c2
    clear c2
    have H' := aM H
    clear H
    go_wp2
    go_loopg [3, 13] k1 (fun kq v3 v13 w' => ∃ (x3_2 : List Int) (x13_2 : Int), v13 = .int .i64 x13_2 ∧ Aside0 (spec_rtOrder.l1 kq l0 x3_2 x4_1 l0 (l0.length : Int) x13_2 = some r) ∧ Aside0 (kq ≤ k1) ∧ Aside0 (Kd.R (Kd.int .i64) 3 w' w.heap.size (fun _ => True) v3 x3_2) ∧ Aside0 (Below w.heap.size w w'))
    case atStart => exact ⟨(x3_1), (0), zc_, H', ⟨Nat.le_refl _⟩, ⟨zr HO_3.out⟩, ⟨za_⟩⟩
    case round =>
     clear H'
     try clear c1
     try clear c2
     try clear c2b0
     try clear p2
     obtain ⟨x3_2, x13_2, rfl, HA, HK2, HO_3, HB⟩ := hrel
     cases gk with
     | zero => exact absurd HA.out (by simp [spec_rtOrder.l1])
     | succ k2 =>
      have H := HA.out
      clear HA
      simp only [spec_rtOrder.l1] at H
      by_cases c3 : x13_2 < (l0.length : Int)
      ·rw [if_pos c3] at H
       have c3b0 : decide (x13_2 < (l0.length : Int)) = true := decide_eq_true c3
       clear c3
       by_cases c4 : 0 ≤ x13_2
       ·rw [if_pos c4] at H
        have c4b0 : decide (0 ≤ x13_2) = true := decide_eq_true c4
        clear c4
        by_cases c5 : x13_2 < (l0.length : Int)
        ·rw [if_pos c5] at H
         have c5b0 : decide (x13_2 < (l0.length : Int)) = true := decide_eq_true c5
         clear c5
         by_cases c6 : ((rd_T32 l0 x13_2).f0) = x4_1
         ·rw [if_pos c6] at H
          have c6b0 : (((rd_T32 l0 x13_2).f0) == x4_1) = true := beq_iff_eq.mpr c6
          have c6b1 : (((rd_T32 l0 x13_2).f0) != x4_1) = false := bne_eq_false_iff_eq.mpr c6
          clear c6
          by_cases c7 : x3_2.length < 17592186044416
          ·rw [if_pos c7] at H
           have LMc7 := aM c7
           clear c7
           obtain ⟨y111, hy111⟩ : ∃ y_ : List Int, y_ = (x3_2 ++ [x13_2]) := ⟨_, rfl⟩
           replace H : (spec_rtOrder.l1 k2 l0 y111 x4_1 l0 (l0.length : Int) (wrap64 (x13_2 + 1))) = some r := by first | (rw [hy111]; with_reducible exact H) | (have H2_ := (oS _ _).symm.trans H; rw [hy111]; with_reducible exact H2_) | (have H2_ := (oS _ _).symm.trans H; with_reducible exact H2_) | with_reducible exact H | (rw [hy111]; exact H) | exact H
           have Ny111 := aM hy111
           clear hy111
           have H' := aM H
           clear H
           have p109 : 0 ≤ (x13_2 : Int) := of_decide_eq_true zb_
           have q109 : x13_2 < (l0.length : Int) := of_decide_eq_true zb_
           obtain ⟨ad109, e109, hx109_0, hx109_1⟩ := at_T32 HR0.out x13_2 p109 q109
           cases e109
           (try (replace hx109_0 := (HB.out.cell (World.block_lt_of_cell? w _ hx109_0)).trans hx109_0))
           (try (replace hx109_1 := (HB.out.cell (World.block_lt_of_cell? w _ hx109_1)).trans hx109_1))
           replace p109 := eq_true p109
           replace q109 := eq_true q109
           go_wp2_with (first | ((with_reducible refine gate_dst (N := 6) rfl ?_); refine box_event ?hg (N := 6) ?hd (cs := #[.int .i64 0, .int .i64 0]) (t := 32) ?hr ?_; (case hd => rfl); (case hg => rfl); (case hr => exact zf_); intro gb110 hg w8 hbox hb; have n_ := z (Kd.R_below (zr HO_3.out) hb) <| z (below_step za_ hb) <| z (hbox) <| z ((by rw [hg]; exact (below_size za_) : w.heap.size ≤ gb110)) <| z1 ((by rw [hg]; exact (below_size za_) : w.heap.size ≤ gb110)); clear HO_3 HB; obtain ⟨HO_3, HB, BK110, GW110, GE110⟩ := n_; clear hb hbox hg; have hcz9_0 : w8.cell? ⟨gb110, 0, none⟩ = some (.int .i64 0) := (blk_cell BK110.out 0).trans rfl; have hcz9_1 : w8.cell? ⟨gb110, 1, none⟩ = some (.int .i64 0) := (blk_cell BK110.out 1).trans rfl; have hfz9_0 := blk_frozen BK110.out 0; have hfz9_1 := blk_frozen BK110.out 1) | ((with_reducible refine gate_builtin (b := .append) (xs := #[.tmp 22, .tmp 24]) rfl ?_); at_builtin; refine Kd.R_append (Kd.int .i64) (w0 := w) w.heap.size rfl (.tmp 22) (.tmp 24) 24 3 (.int .i64 0) 8 rfl Try.underlying24 info3 rfl (by decide) (by omega) u3 x3_2 x13_2 [.int .i64 x13_2] (fun _ => True) (fun _ => False) rfl zf_ ?aP (fun _ hk => hk.elim) ?aF ?aO ?aB ?aS ?aL ?_; (case aP => exact rfl); (case aB => exact zfa_); (case aF => exact zcj_); (case aO => exact (by refine zr ?_; exact Kd.R_mono (Kd.R_far (p := ⟨gb110, 1, none⟩) (Kd.R_far (p := ⟨gb110, 0, none⟩) (Kd.R_types HO_3.out BK110.out (by decide)) (fun _ hk => hk.2) (.int .i64 ((rd_T32 l0 x13_2).f0))) (fun _ hk => hk.2) (.int .i64 ((rd_T32 l0 x13_2).f1))) (fun _ hk => trivial))); (case aS => exact (below_size zfa_)); (case aL => have := LMc7.out; omega); intro v112 w10 ho hb hg hat; rw [← Ny111.out] at ho; have n_ := z (blk_grown (g := gb110) (o := .cells #[.int .i64 ((rd_T32 l0 x13_2).f0), .int .i64 ((rd_T32 l0 x13_2).f1)] 32 (0, 0)) (by refine zb ?_; refine blk_put (cs := #[.int .i64 ((rd_T32 l0 x13_2).f0), .int .i64 0]) ?_ 1 _ rfl; refine zb ?_; refine blk_put (cs := #[.int .i64 0, .int .i64 0]) ?_ 0 _ rfl; refine zb ?_; exact BK110.out) hg (Kd.R_ne HO_3.out BK110.out (by decide))) <| z (hb) <| z1 (ho); clear BK110 HB HO_3; obtain ⟨BK110, HB, HO113⟩ := n_; clear ho hb hg hat))
           go_roundg k2
           case measure => have := HK1.out; have := HK2.out; omega
           case rel => exact ⟨(y111), (wrap64 (x13_2 + 1)), zc_, H', ⟨zbi_⟩, ⟨zr HO113.out⟩, ⟨zfa_⟩⟩
          ·rw [if_neg c7] at H
           exact absurd H (by simp)
         ·rw [if_neg c6] at H
          have c6b0 : (((rd_T32 l0 x13_2).f0) == x4_1) = false := beq_eq_false_iff_ne.mpr c6
          have c6b1 : (((rd_T32 l0 x13_2).f0) != x4_1) = true := bne_iff_ne.mpr c6
          have H' := aM H
          clear H
          have p109 : 0 ≤ (x13_2 : Int) := of_decide_eq_true zb_
          have q109 : x13_2 < (l0.length : Int) := of_decide_eq_true zb_
          obtain ⟨ad109, e109, hx109_0, hx109_1⟩ := at_T32 HR0.out x13_2 p109 q109
          cases e109
          (try (replace hx109_0 := (HB.out.cell (World.block_lt_of_cell? w _ hx109_0)).trans hx109_0))
          (try (replace hx109_1 := (HB.out.cell (World.block_lt_of_cell? w _ hx109_1)).trans hx109_1))
          replace p109 := eq_true p109
          replace q109 := eq_true q109
          go_wp2_with (first | ((with_reducible refine gate_dst (N := 6) rfl ?_); refine box_event ?hg (N := 6) ?hd (cs := #[.int .i64 0, .int .i64 0]) (t := 32) ?hr ?_; (case hd => rfl); (case hg => rfl); (case hr => exact zf_); intro gb110 hg w11 hbox hb; have n_ := z (Kd.R_below (zr HO_3.out) hb) <| z (below_step za_ hb) <| z (hbox) <| z ((by rw [hg]; exact (below_size za_) : w.heap.size ≤ gb110)) <| z1 ((by rw [hg]; exact (below_size za_) : w.heap.size ≤ gb110)); clear HO_3 HB; obtain ⟨HO_3, HB, BK110, GW110, GE110⟩ := n_; clear hb hbox hg; have hcz12_0 : w11.cell? ⟨gb110, 0, none⟩ = some (.int .i64 0) := (blk_cell BK110.out 0).trans rfl; have hcz12_1 : w11.cell? ⟨gb110, 1, none⟩ = some (.int .i64 0) := (blk_cell BK110.out 1).trans rfl; have hfz12_0 := blk_frozen BK110.out 0; have hfz12_1 := blk_frozen BK110.out 1))
          go_roundg k2
          case measure => have := HK1.out; have := HK2.out; omega
          case rel => exact ⟨(x3_2), (wrap64 (x13_2 + 1)), zc_, H', ⟨zbi_⟩, ⟨by refine zr ?_; exact Kd.R_mono (Kd.R_far (p := ⟨gb110, 1, none⟩) (Kd.R_far (p := ⟨gb110, 0, none⟩) (Kd.R_types HO_3.out BK110.out (by decide)) (fun _ hk => hk.2) (.int .i64 ((rd_T32 l0 x13_2).f0))) (fun _ hk => hk.2) (.int .i64 ((rd_T32 l0 x13_2).f1))) (fun _ hk => trivial)⟩, ⟨zfa_⟩⟩
        ·rw [if_neg c5] at H
         exact absurd H (by simp)
       ·rw [if_neg c4] at H
        exact absurd H (by simp)
      ·rw [if_neg c3] at H
       have c3b0 : decide (x13_2 < (l0.length : Int)) = false := decide_eq_false c3
       clear c3
       have H' := aM H
       clear H
       go_wp2
       go_roundg k2
       case measure => have := HK1.out; have := HK2.out; omega
       case rel => exact ⟨(x3_2), (wrap64 (x4_1 + 1)), zc_, H', ⟨zbi_⟩, ⟨zr HO_3.out⟩, ⟨za_⟩⟩
   ·rw [if_neg c2] at H
    have c2b0 : decide (x4_1 ≤ 50) = false := decide_eq_false c2
    clear c2
    obtain rfl := Option.some.inj H
    go_wp2
    go_ret
    exact ⟨_, zg_, by refine zr ?_; exact HO_3.out, za_⟩
end Go.Proofs.Ytbkighlfgaifeaa.QFnTracks
