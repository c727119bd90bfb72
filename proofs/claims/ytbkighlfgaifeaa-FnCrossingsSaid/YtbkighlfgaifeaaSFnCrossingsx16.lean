/- Functions of FnCrossings, each as a Lean function, with the proof that the Go code comes to its answers. -/
import Derived.Test.YtbkighlfgaifeaaSFnCrossingsx0
import Derived.Test.YtbkighlfgaifeaaSFnCrossingsx5
namespace Go.Proofs.Ytbkighlfgaifeaa.QFnCrossings
open Go.RowKit Go.Proofs.YtbkighlfgaifeaaW.PrintWords Go.Proofs.YtbkighlfgaifeaaW.PrintLast Go.Proofs.YtbkighlfgaifeaaW.PrintMore
open Go.Proofs.YtbkighlfgaifeaaW.PrintWords renaming pw_below_drewN → pN, below_drew1 → p1, below_alloc → pA
open Go.Proofs.YtbkighlfgaifeaaW.PrintWords.Kd renaming R_alloc → kA, R_drewN → kN, R_drew → kD, Q_alloc → qA, Q_drewN → qN, Q_drew → qD, C_alloc → cA, C_drewN → cN, C_drew → cD
open Go.Proofs.YtbkighlfgaifeaaW.PrintWords.Aside0 renaming mk → aM
open List renaming setIfInBounds_toArray → sI, set_cons_zero → s0, set_cons_succ → sS, map_toArray → mT, length_take → lT, length_drop → lD, map_cons → mC, map_nil → mN
open Option renaming bind_eq_some_iff → oB
attribute [local go_sem] max2_int min2_int max_two min_two max_three min_three max_four min_four
set_option maxHeartbeats 8000000
set_option maxRecDepth 100000
set_option linter.unusedVariables false
set_option linter.unusedSimpArgs false
def spec_l1All.l0 : Nat → Int → Int → List Int → Int → Int → Option (Bool)
 | 0, _, _, _, _, _ => none
 | k + 1, x1, x2, x9, x10, x11 => if x11 < x10 then (if 0 ≤ x11 then (if x11 < (x9.length : Int) then ((spec_l1In.f (rd x9 x11) x1 x2).bind fun t352 => (if t352 = true then (spec_l1All.l0 k x1 x2 x9 x10 (wrap64 (x11 + 1))) else (some false))) else (none)) else (none)) else (some true)
def spec_l1All.f (k : Nat) (l0 : List Int) (a1 : Int) (a2 : Int) : Option (Bool) := spec_l1All.l0 k a1 a2 l0 (l0.length : Int) 0
theorem spec_l1All.calls (k : Nat) (A0 : Option Addr) (c0 : Nat) (l0 : List Int) (a1 : Int) (a2 : Int) (r : Bool) (w : World) (hr0 : Kd.C (Kd.int .i64) w A0 l0.length l0) (hc0 : l0.length ≤ c0) (h : spec_l1All.f k l0 a1 a2 = some r) :
  Calls Try.prog 126 #[.slice A0 l0.length c0, .int .i64 a1, .int .i64 a2] w fun e w' => e = .returned (.bool r) ∧ Drawn0 w w' := by
 have HR0 := aM hr0
 have HC0 := aM hc0
 clear hr0 hc0
 have H : (spec_l1All.l0 k a1 a2 l0 (l0.length : Int) 0) = some r := h
 clear h
 have H' := aM H
 clear H
 go_enter Try.func126, Try.ntmps126
 go_wp2
 go_loopg [11] k (fun kq v11 w' => ∃ (x11_1 : Int), v11 = .int .i64 x11_1 ∧ Aside0 (spec_l1All.l0 kq a1 a2 l0 (l0.length : Int) x11_1 = some r) ∧ Aside0 (kq ≤ k) ∧ Drawn0 w w')
 case atStart => exact ⟨(0), zb_, H', ⟨Nat.le_refl _⟩, zf_⟩
 case round =>
  clear H'; obtain ⟨x11_1, rfl, HA, HK1, ⟨m1, rfl⟩⟩ := hrel
  cases gk with
  | zero => exact absurd HA.out (by simp [spec_l1All.l0])
  | succ k1 =>
   have H := HA.out; clear HA
   simp only [spec_l1All.l0] at H
   by_cases c4 : x11_1 < (l0.length : Int)
   ·rw [if_pos c4] at H
    have c4b0 := decide_eq_true c4; clear c4
    by_cases c5 : 0 ≤ x11_1
    ·rw [if_pos c5] at H
     have c5b0 := decide_eq_true c5; clear c5
     by_cases c6 : x11_1 < (l0.length : Int)
     ·rw [if_pos c6] at H
      have c6b0 := decide_eq_true c6; clear c6; replace H := oB.mp H; obtain ⟨t352, A70, H⟩ := H; replace H : (if t352 = true then (spec_l1All.l0 k1 a1 a2 l0 (l0.length : Int) (wrap64 (x11_1 + 1))) else (some false)) = some r := H; have A7 := aM A70; clear A70
      by_cases c8 : t352 = true
      ·subst c8
       have H1 : (spec_l1All.l0 k1 a1 a2 l0 (l0.length : Int) (wrap64 (x11_1 + 1))) = some r := by rw [if_pos rfl] at H; exact H
       clear H; have H := H1; clear H1; have H' := aM H; clear H; have p351 : 0 ≤ (x11_1 : Int) := of_decide_eq_true za_; have q351 : x11_1 < (l0.length : Int) := of_decide_eq_true za_; obtain ⟨ad351, e351, hx351_0⟩ := Kd.at_int HR0.out x11_1 p351 q351
       cases e351
       replace p351 := eq_true p351; replace q351 := eq_true q351
       go_wp2_with (first | ((with_reducible refine gate_callee (f := 108) rfl ?_); refine goesL_ (some 18) rfl rfl Try.func108 (by kernel_rfl) rfl #[.int .i64 (rd l0 x11_1), .int .i64 a1, .int .i64 a2] rfl zd_ ?_; (with_reducible refine (spec_l1In.calls (rd l0 x11_1) a1 a2 true _ A7.out).mono ?_); rintro e w' ⟨rfl, ⟨nd, rfl⟩⟩; refine ⟨_, rfl, ?_⟩))
       go_roundg k1
       case measure => have := HK1.out; omega
       case rel => exact ⟨(wrap64 (x11_1 + 1)), zb_, H', ⟨zbd_⟩, zf_⟩
      ·replace c8 := Bool.eq_false_iff.mpr c8
       subst c8; have H1 : (some false) = some r := by rw [if_neg (show ¬ (false = true) by decide)] at H; exact H
       clear H; have H := H1; clear H1; obtain rfl := Option.some.inj H; have p351 : 0 ≤ (x11_1 : Int) := of_decide_eq_true za_; have q351 : x11_1 < (l0.length : Int) := of_decide_eq_true za_; obtain ⟨ad351, e351, hx351_0⟩ := Kd.at_int HR0.out x11_1 p351 q351
       cases e351
       replace p351 := eq_true p351; replace q351 := eq_true q351
       go_wp2_with (first | ((with_reducible refine gate_callee (f := 108) rfl ?_); refine goesL_ (some 18) rfl rfl Try.func108 (by kernel_rfl) rfl #[.int .i64 (rd l0 x11_1), .int .i64 a1, .int .i64 a2] rfl zd_ ?_; (with_reducible refine (spec_l1In.calls (rd l0 x11_1) a1 a2 false _ A7.out).mono ?_); rintro e w' ⟨rfl, ⟨nd, rfl⟩⟩; refine ⟨_, rfl, ?_⟩))
       go_ret
       exact ⟨zb_, zf_⟩
     ·rw [if_neg c6] at H
      exact absurd H (by simp)
    ·rw [if_neg c5] at H
     exact absurd H (by simp)
   ·rw [if_neg c4] at H
    have c4b0 := decide_eq_false c4; clear c4; obtain rfl := Option.some.inj H
    go_wp2
    go_ret
    exact ⟨zb_, zf_⟩
def spec_ttInputs.f (a0 : Int) : Option (Bool) := (spec_l1In.f a0 0 4).bind fun t353 => (some t353)
theorem spec_ttInputs.calls (a0 : Int) (r : Bool) (w : World) (h : spec_ttInputs.f a0 = some r) :
  Calls Try.prog 144 #[.int .i64 a0] w fun e w' => e = .returned (.bool r) ∧ Drawn0 w w' := by
 have H : ((spec_l1In.f a0 0 4).bind fun t353 => (some t353)) = some r := h
 clear h
 replace H := oB.mp H
 obtain ⟨t353, A20, H⟩ := H
 replace H : (some t353) = some r := H
 have A2 := aM A20
 clear A20
 obtain rfl := Option.some.inj H
 go_enter Try.func144, Try.ntmps144
 go_wp2_with (first | ((with_reducible refine gate_callee (f := 108) rfl ?_); refine goesL_ (some 4) rfl rfl Try.func108 (by kernel_rfl) rfl #[.int .i64 a0, .int .i64 0, .int .i64 4] rfl zd_ ?_; (with_reducible refine (spec_l1In.calls a0 0 4 t353 _ A2.out).mono ?_); rintro e w' ⟨rfl, ⟨nd, rfl⟩⟩; refine ⟨_, rfl, ?_⟩))
 go_ret
 exact ⟨zb_, zf_⟩
def spec_ciGood.l0 : Nat → List (S57) → Int → Int → Int → List (S57) → List Int → Option (Bool)
 | 0, _, _, _, _, _, _ => none
 | k + 1, x7, x8, x9, x355000, x355001, x355002 => if x9 < x8 then (if 0 ≤ x9 then (if x9 < (x7.length : Int) then ((spec_l1In.f ((rd_T57 x7 x9).f0) 1 4).bind fun t360 => (if t360 = true then ((spec_l1In.f ((rd_T57 x7 x9).f1) 0 (wrap64 ((wrap64 (x355000 + x9)) - 1))).bind fun t361 => (if t361 = true then ((spec_l1In.f ((rd_T57 x7 x9).f2) 0 (wrap64 ((wrap64 (x355000 + x9)) - 1))).bind fun t362 => (if t362 = true then (if ((rd_T57 x7 x9).f0) = 4 then (if ((rd_T57 x7 x9).f2) = ((rd_T57 x7 x9).f1) then (spec_ciGood.l0 k x7 x8 (wrap64 (x9 + 1)) x355000 x355001 x355002) else (some false)) else (spec_ciGood.l0 k x7 x8 (wrap64 (x9 + 1)) x355000 x355001 x355002)) else (some false))) else (some false))) else (some false))) else (none)) else (none)) else ((spec_ttInputs.f x355000).bind fun t355 => (if t355 = true then (if (x355001.length : Int) ≤ 16 then ((spec_l1In.f (x355002.length : Int) 1 4).bind fun t356 => (if t356 = true then ((spec_l1All.f k x355002 0 (wrap64 ((wrap64 (x355000 + (x355001.length : Int))) - 1))).bind fun t357 => (some t357)) else (some false))) else (some false)) else (some false)))
def spec_ciGood.f (k : Nat) (a0_0 : Int) (l0_1 : List (S57)) (l0_2 : List Int) : Option (Bool) := spec_ciGood.l0 k l0_1 (l0_1.length : Int) 0 a0_0 l0_1 l0_2
theorem spec_ciGood.calls (k : Nat) (a0_0 : Int) (A0_1 : Option Addr) (c0_1 : Nat) (l0_1 : List (S57)) (A0_2 : Option Addr) (c0_2 : Nat) (l0_2 : List Int) (r : Bool) (w : World) (hr0_1 : Kd.C k57 w A0_1 l0_1.length l0_1) (hc0_1 : l0_1.length ≤ c0_1) (hr0_2 : Kd.C (Kd.int .i64) w A0_2 l0_2.length l0_2) (hc0_2 : l0_2.length ≤ c0_2) (h : spec_ciGood.f k a0_0 l0_1 l0_2 = some r) :
  Calls Try.prog 119 #[.agg #[.int .i64 a0_0, .slice A0_1 l0_1.length c0_1, .slice A0_2 l0_2.length c0_2]] w fun e w' => e = .returned (.bool r) ∧ Below w.heap.size w w' := by
 have hu49 := Try.underlying49
 have hu57 := Try.underlying57
 have HR0_1 := aM hr0_1
 have HC0_1 := aM hc0_1
 clear hr0_1 hc0_1
 have HR0_2 := aM hr0_2
 have HC0_2 := aM hc0_2
 clear hr0_2 hc0_2
 have HB := aM (Below.refl w.heap.size w)
 have H : (spec_ciGood.l0 k l0_1 (l0_1.length : Int) 0 a0_0 l0_1 l0_2) = some r := h
 clear h
 have H' := aM H
 clear H
 go_enter Try.func119, Try.ntmps119
 go_wp2_with (first | ((with_reducible refine gate_dst (N := 1) rfl ?_); (try (refine gate_guard (by rfl) ?_; dsimp only)); refine box_event ?hg (N := 1) ?hd (cs := #[.int .i64 a0_0, .slice A0_1 l0_1.length c0_1, .slice A0_2 l0_2.length c0_2]) (t := 49) ?hr ?_; (case hd => rfl); (case hg => rfl); (case hr => exact ze_); intro gb354 hg w2 hbox hb; have n_ := z (below_step zc_ hb) <| z (hbox) <| z ((by rw [hg]; exact (below_size zc_) : w.heap.size ≤ gb354)) <| z1 ((by rw [hg]; exact (below_size zc_) : w.heap.size ≤ gb354)); clear HB; obtain ⟨HB, BK354, GW354, GE354⟩ := n_; clear hb hbox hg; have hcz3_0 : w2.cell? ⟨gb354, 0, none⟩ = some (.int .i64 a0_0) := (blk_cell BK354.out 0).trans rfl; have hcz3_1 : w2.cell? ⟨gb354, 1, none⟩ = some (.slice A0_1 l0_1.length c0_1) := (blk_cell BK354.out 1).trans rfl; have hcz3_2 : w2.cell? ⟨gb354, 2, none⟩ = some (.slice A0_2 l0_2.length c0_2) := (blk_cell BK354.out 2).trans rfl; have hfz3_0 := blk_frozen BK354.out 0; have hfz3_1 := blk_frozen BK354.out 1; have hfz3_2 := blk_frozen BK354.out 2))
 go_loopg [9] k (fun kq v9 w' => ∃ (x9_1 : Int), v9 = .int .i64 x9_1 ∧ Aside0 (spec_ciGood.l0 kq l0_1 (l0_1.length : Int) x9_1 a0_0 l0_1 l0_2 = some r) ∧ Aside0 (kq ≤ k) ∧ Aside0 (w'.heap[gb354]? = some (.cells #[.int .i64 a0_0, (.slice A0_1 l0_1.length c0_1), (.slice A0_2 l0_2.length c0_2)] 49 (0, 0))) ∧ Aside0 (Below w.heap.size w w'))
 case atStart => exact ⟨(0), zb_, H', ⟨Nat.le_refl _⟩, ⟨zb BK354.out⟩, ⟨zj_⟩⟩
 case round =>
  clear H'; (try clear hcz3_0); (try clear hcz3_1); (try clear hcz3_2); (try clear hfz3_0); (try clear hfz3_1); (try clear hfz3_2); obtain ⟨x9_1, rfl, HA, HK1, BK354, HB⟩ := hrel
  cases gk with
  | zero => exact absurd HA.out (by simp [spec_ciGood.l0])
  | succ k1 =>
   have H := HA.out; clear HA
   simp only [spec_ciGood.l0] at H
   by_cases c4 : x9_1 < (l0_1.length : Int)
   ·rw [if_pos c4] at H
    have c4b0 := decide_eq_true c4; clear c4
    by_cases c5 : 0 ≤ x9_1
    ·rw [if_pos c5] at H
     have c5b0 := decide_eq_true c5; clear c5
     by_cases c6 : x9_1 < (l0_1.length : Int)
     ·rw [if_pos c6] at H
      have c6b0 := decide_eq_true c6; clear c6; replace H := oB.mp H; obtain ⟨t360, A70, H⟩ := H; replace H : (if t360 = true then ((spec_l1In.f ((rd_T57 l0_1 x9_1).f1) 0 (wrap64 ((wrap64 (a0_0 + x9_1)) - 1))).bind fun t361 => (if t361 = true then ((spec_l1In.f ((rd_T57 l0_1 x9_1).f2) 0 (wrap64 ((wrap64 (a0_0 + x9_1)) - 1))).bind fun t362 => (if t362 = true then (if ((rd_T57 l0_1 x9_1).f0) = 4 then (if ((rd_T57 l0_1 x9_1).f2) = ((rd_T57 l0_1 x9_1).f1) then (spec_ciGood.l0 k1 l0_1 (l0_1.length : Int) (wrap64 (x9_1 + 1)) a0_0 l0_1 l0_2) else (some false)) else (spec_ciGood.l0 k1 l0_1 (l0_1.length : Int) (wrap64 (x9_1 + 1)) a0_0 l0_1 l0_2)) else (some false))) else (some false))) else (some false)) = some r := H; have A7 := aM A70; clear A70
      by_cases c8 : t360 = true
      ·subst c8
       have H1 : ((spec_l1In.f ((rd_T57 l0_1 x9_1).f1) 0 (wrap64 ((wrap64 (a0_0 + x9_1)) - 1))).bind fun t361 => (if t361 = true then ((spec_l1In.f ((rd_T57 l0_1 x9_1).f2) 0 (wrap64 ((wrap64 (a0_0 + x9_1)) - 1))).bind fun t362 => (if t362 = true then (if ((rd_T57 l0_1 x9_1).f0) = 4 then (if ((rd_T57 l0_1 x9_1).f2) = ((rd_T57 l0_1 x9_1).f1) then (spec_ciGood.l0 k1 l0_1 (l0_1.length : Int) (wrap64 (x9_1 + 1)) a0_0 l0_1 l0_2) else (some false)) else (spec_ciGood.l0 k1 l0_1 (l0_1.length : Int) (wrap64 (x9_1 + 1)) a0_0 l0_1 l0_2)) else (some false))) else (some false))) = some r := by rw [if_pos rfl] at H; exact H
       clear H; have H := H1; clear H1; replace H := oB.mp H; obtain ⟨t361, A90, H⟩ := H; replace H : (if t361 = true then ((spec_l1In.f ((rd_T57 l0_1 x9_1).f2) 0 (wrap64 ((wrap64 (a0_0 + x9_1)) - 1))).bind fun t362 => (if t362 = true then (if ((rd_T57 l0_1 x9_1).f0) = 4 then (if ((rd_T57 l0_1 x9_1).f2) = ((rd_T57 l0_1 x9_1).f1) then (spec_ciGood.l0 k1 l0_1 (l0_1.length : Int) (wrap64 (x9_1 + 1)) a0_0 l0_1 l0_2) else (some false)) else (spec_ciGood.l0 k1 l0_1 (l0_1.length : Int) (wrap64 (x9_1 + 1)) a0_0 l0_1 l0_2)) else (some false))) else (some false)) = some r := H; have A9 := aM A90; clear A90
       by_cases c10 : t361 = true
       ·subst c10
        have H1 : ((spec_l1In.f ((rd_T57 l0_1 x9_1).f2) 0 (wrap64 ((wrap64 (a0_0 + x9_1)) - 1))).bind fun t362 => (if t362 = true then (if ((rd_T57 l0_1 x9_1).f0) = 4 then (if ((rd_T57 l0_1 x9_1).f2) = ((rd_T57 l0_1 x9_1).f1) then (spec_ciGood.l0 k1 l0_1 (l0_1.length : Int) (wrap64 (x9_1 + 1)) a0_0 l0_1 l0_2) else (some false)) else (spec_ciGood.l0 k1 l0_1 (l0_1.length : Int) (wrap64 (x9_1 + 1)) a0_0 l0_1 l0_2)) else (some false))) = some r := by rw [if_pos rfl] at H; exact H
        clear H; have H := H1; clear H1; replace H := oB.mp H; obtain ⟨t362, A110, H⟩ := H; replace H : (if t362 = true then (if ((rd_T57 l0_1 x9_1).f0) = 4 then (if ((rd_T57 l0_1 x9_1).f2) = ((rd_T57 l0_1 x9_1).f1) then (spec_ciGood.l0 k1 l0_1 (l0_1.length : Int) (wrap64 (x9_1 + 1)) a0_0 l0_1 l0_2) else (some false)) else (spec_ciGood.l0 k1 l0_1 (l0_1.length : Int) (wrap64 (x9_1 + 1)) a0_0 l0_1 l0_2)) else (some false)) = some r := H; have A11 := aM A110; clear A110
        by_cases c12 : t362 = true
        ·subst c12
         have H1 : (if ((rd_T57 l0_1 x9_1).f0) = 4 then (if ((rd_T57 l0_1 x9_1).f2) = ((rd_T57 l0_1 x9_1).f1) then (spec_ciGood.l0 k1 l0_1 (l0_1.length : Int) (wrap64 (x9_1 + 1)) a0_0 l0_1 l0_2) else (some false)) else (spec_ciGood.l0 k1 l0_1 (l0_1.length : Int) (wrap64 (x9_1 + 1)) a0_0 l0_1 l0_2)) = some r := by rw [if_pos rfl] at H; exact H
         clear H; have H := H1; clear H1
         by_cases c13 : ((rd_T57 l0_1 x9_1).f0) = 4
         ·rw [if_pos c13] at H
          have c13b0 := beq_iff_eq.mpr c13; have c13b1 := bne_eq_false_iff_eq.mpr c13; clear c13
          by_cases c14 : ((rd_T57 l0_1 x9_1).f2) = ((rd_T57 l0_1 x9_1).f1)
          ·rw [if_pos c14] at H
           have c14b0 := beq_iff_eq.mpr c14; have c14b1 := bne_eq_false_iff_eq.mpr c14; clear c14; have H' := aM H; clear H; have p358 : 0 ≤ (x9_1 : Int) := of_decide_eq_true za_; have q358 : x9_1 < (l0_1.length : Int) := of_decide_eq_true za_; obtain ⟨ad358, e358, hx358_0, hx358_1, hx358_2⟩ := at_T57 HR0_1.out x9_1 p358 q358
           cases e358
           (try (replace hx358_0 := (HB.out.cell (World.block_lt_of_cell? w _ hx358_0)).trans hx358_0)); (try (replace hx358_1 := (HB.out.cell (World.block_lt_of_cell? w _ hx358_1)).trans hx358_1)); (try (replace hx358_2 := (HB.out.cell (World.block_lt_of_cell? w _ hx358_2)).trans hx358_2)); replace p358 := eq_true p358; replace q358 := eq_true q358
           go_wp2_with (first | ((with_reducible refine gate_dst (N := 4) rfl ?_); (try (refine gate_guard (by rfl) ?_; dsimp only)); refine box_event ?hg (N := 4) ?hd (cs := #[.int .i64 0, .int .i64 0, .int .i64 0]) (t := 57) ?hr ?_; (case hd => rfl); (case hg => rfl); (case hr => exact ze_); intro gb359 hg w15 hbox hb; have n_ := z (blk_below (zb BK354.out) hb) <| z (below_step zj_ hb) <| z (hbox) <| z ((by rw [hg]; exact (below_size zj_) : w.heap.size ≤ gb359)) <| z ((by rw [hg]; exact (below_size zj_) : w.heap.size ≤ gb359)) <| z ((by rw [hg]; exact Nat.ne_of_lt (blk_lt (zb BK354.out)) : gb354 ≠ gb359)) <| z1 ((by rw [hg]; exact Nat.ne_of_gt (blk_lt (zb BK354.out)) : gb359 ≠ gb354)); clear BK354 HB; obtain ⟨BK354, HB, BK359, GW359, GE359, NB354_359, NB359_354⟩ := n_; clear hb hbox hg; have hnb16 := NB359_354.out; have hnc16 := NB354_359.out; have hcz17_0 : w15.cell? ⟨gb359, 0, none⟩ = some (.int .i64 0) := (blk_cell BK359.out 0).trans rfl; have hcz17_1 : w15.cell? ⟨gb359, 1, none⟩ = some (.int .i64 0) := (blk_cell BK359.out 1).trans rfl; have hcz17_2 : w15.cell? ⟨gb359, 2, none⟩ = some (.int .i64 0) := (blk_cell BK359.out 2).trans rfl; have hfz17_0 := blk_frozen BK359.out 0; have hfz17_1 := blk_frozen BK359.out 1; have hfz17_2 := blk_frozen BK359.out 2; have hcz18_0 : w15.cell? ⟨gb354, 0, none⟩ = some (.int .i64 a0_0) := (blk_cell BK354.out 0).trans rfl; have hcz18_1 : w15.cell? ⟨gb354, 1, none⟩ = some (.slice (some ad358) l0_1.length c0_1) := (blk_cell BK354.out 1).trans rfl; have hcz18_2 : w15.cell? ⟨gb354, 2, none⟩ = some (.slice A0_2 l0_2.length c0_2) := (blk_cell BK354.out 2).trans rfl; have hfz18_0 := blk_frozen BK354.out 0; have hfz18_1 := blk_frozen BK354.out 1; have hfz18_2 := blk_frozen BK354.out 2) | ((with_reducible refine gate_callee (f := 108) rfl ?_); refine goesL_ (some 20) rfl rfl Try.func108 (by kernel_rfl) rfl #[.int .i64 ((rd_T57 l0_1 x9_1).f0), .int .i64 1, .int .i64 4] rfl zd_ ?_; (with_reducible refine (spec_l1In.calls ((rd_T57 l0_1 x9_1).f0) 1 4 true _ A7.out).mono ?_); rintro e w' ⟨rfl, ⟨nd, rfl⟩⟩; refine ⟨_, rfl, ?_⟩) | (go_at_call 108; (with_reducible refine (spec_l1In.calls ((rd_T57 l0_1 x9_1).f1) 0 (wrap64 ((wrap64 (a0_0 + x9_1)) - 1)) true _ A9.out).mono ?_); rintro e w' ⟨rfl, ⟨nd, rfl⟩⟩) | (go_at_call 108; (with_reducible refine (spec_l1In.calls ((rd_T57 l0_1 x9_1).f2) 0 (wrap64 ((wrap64 (a0_0 + x9_1)) - 1)) true _ A11.out).mono ?_); rintro e w' ⟨rfl, ⟨nd, rfl⟩⟩))
           go_roundg k1
           case measure => have := HK1.out; omega
           case rel => exact ⟨(wrap64 (x9_1 + 1)), zb_, H', ⟨zbd_⟩, ⟨by refine zb ?_; refine blk_far ?_ NB354_359.out _; refine zb ?_; refine blk_far ?_ NB354_359.out _; refine zb ?_; refine blk_far ?_ NB354_359.out _; refine zb ?_; exact BK354.out⟩, ⟨zec_⟩⟩
          ·rw [if_neg c14] at H
           have c14b0 := beq_eq_false_iff_ne.mpr c14; have c14b1 := bne_iff_ne.mpr c14; obtain rfl := Option.some.inj H; have p358 : 0 ≤ (x9_1 : Int) := of_decide_eq_true za_; have q358 : x9_1 < (l0_1.length : Int) := of_decide_eq_true za_; obtain ⟨ad358, e358, hx358_0, hx358_1, hx358_2⟩ := at_T57 HR0_1.out x9_1 p358 q358
           cases e358
           (try (replace hx358_0 := (HB.out.cell (World.block_lt_of_cell? w _ hx358_0)).trans hx358_0)); (try (replace hx358_1 := (HB.out.cell (World.block_lt_of_cell? w _ hx358_1)).trans hx358_1)); (try (replace hx358_2 := (HB.out.cell (World.block_lt_of_cell? w _ hx358_2)).trans hx358_2)); replace p358 := eq_true p358; replace q358 := eq_true q358
           go_wp2_with (first | ((with_reducible refine gate_dst (N := 4) rfl ?_); (try (refine gate_guard (by rfl) ?_; dsimp only)); refine box_event ?hg (N := 4) ?hd (cs := #[.int .i64 0, .int .i64 0, .int .i64 0]) (t := 57) ?hr ?_; (case hd => rfl); (case hg => rfl); (case hr => exact ze_); intro gb359 hg w19 hbox hb; have n_ := z (blk_below (zb BK354.out) hb) <| z (below_step zj_ hb) <| z (hbox) <| z ((by rw [hg]; exact (below_size zj_) : w.heap.size ≤ gb359)) <| z ((by rw [hg]; exact (below_size zj_) : w.heap.size ≤ gb359)) <| z ((by rw [hg]; exact Nat.ne_of_lt (blk_lt (zb BK354.out)) : gb354 ≠ gb359)) <| z1 ((by rw [hg]; exact Nat.ne_of_gt (blk_lt (zb BK354.out)) : gb359 ≠ gb354)); clear BK354 HB; obtain ⟨BK354, HB, BK359, GW359, GE359, NB354_359, NB359_354⟩ := n_; clear hb hbox hg; have hnb20 := NB359_354.out; have hnc20 := NB354_359.out; have hcz21_0 : w19.cell? ⟨gb359, 0, none⟩ = some (.int .i64 0) := (blk_cell BK359.out 0).trans rfl; have hcz21_1 : w19.cell? ⟨gb359, 1, none⟩ = some (.int .i64 0) := (blk_cell BK359.out 1).trans rfl; have hcz21_2 : w19.cell? ⟨gb359, 2, none⟩ = some (.int .i64 0) := (blk_cell BK359.out 2).trans rfl; have hfz21_0 := blk_frozen BK359.out 0; have hfz21_1 := blk_frozen BK359.out 1; have hfz21_2 := blk_frozen BK359.out 2; have hcz22_0 : w19.cell? ⟨gb354, 0, none⟩ = some (.int .i64 a0_0) := (blk_cell BK354.out 0).trans rfl; have hcz22_1 : w19.cell? ⟨gb354, 1, none⟩ = some (.slice (some ad358) l0_1.length c0_1) := (blk_cell BK354.out 1).trans rfl; have hcz22_2 : w19.cell? ⟨gb354, 2, none⟩ = some (.slice A0_2 l0_2.length c0_2) := (blk_cell BK354.out 2).trans rfl; have hfz22_0 := blk_frozen BK354.out 0; have hfz22_1 := blk_frozen BK354.out 1; have hfz22_2 := blk_frozen BK354.out 2) | ((with_reducible refine gate_callee (f := 108) rfl ?_); refine goesL_ (some 20) rfl rfl Try.func108 (by kernel_rfl) rfl #[.int .i64 ((rd_T57 l0_1 x9_1).f0), .int .i64 1, .int .i64 4] rfl zd_ ?_; (with_reducible refine (spec_l1In.calls ((rd_T57 l0_1 x9_1).f0) 1 4 true _ A7.out).mono ?_); rintro e w' ⟨rfl, ⟨nd, rfl⟩⟩; refine ⟨_, rfl, ?_⟩) | (go_at_call 108; (with_reducible refine (spec_l1In.calls ((rd_T57 l0_1 x9_1).f1) 0 (wrap64 ((wrap64 (a0_0 + x9_1)) - 1)) true _ A9.out).mono ?_); rintro e w' ⟨rfl, ⟨nd, rfl⟩⟩) | (go_at_call 108; (with_reducible refine (spec_l1In.calls ((rd_T57 l0_1 x9_1).f2) 0 (wrap64 ((wrap64 (a0_0 + x9_1)) - 1)) true _ A11.out).mono ?_); rintro e w' ⟨rfl, ⟨nd, rfl⟩⟩))
           go_ret
           exact ⟨zg_, zec_⟩
         ·rw [if_neg c13] at H
          have c13b0 := beq_eq_false_iff_ne.mpr c13; have c13b1 := bne_iff_ne.mpr c13; have H' := aM H; clear H; have p358 : 0 ≤ (x9_1 : Int) := of_decide_eq_true za_; have q358 : x9_1 < (l0_1.length : Int) := of_decide_eq_true za_; obtain ⟨ad358, e358, hx358_0, hx358_1, hx358_2⟩ := at_T57 HR0_1.out x9_1 p358 q358
          cases e358
          (try (replace hx358_0 := (HB.out.cell (World.block_lt_of_cell? w _ hx358_0)).trans hx358_0)); (try (replace hx358_1 := (HB.out.cell (World.block_lt_of_cell? w _ hx358_1)).trans hx358_1)); (try (replace hx358_2 := (HB.out.cell (World.block_lt_of_cell? w _ hx358_2)).trans hx358_2)); replace p358 := eq_true p358; replace q358 := eq_true q358
          go_wp2_with (first | ((with_reducible refine gate_dst (N := 4) rfl ?_); (try (refine gate_guard (by rfl) ?_; dsimp only)); refine box_event ?hg (N := 4) ?hd (cs := #[.int .i64 0, .int .i64 0, .int .i64 0]) (t := 57) ?hr ?_; (case hd => rfl); (case hg => rfl); (case hr => exact ze_); intro gb359 hg w23 hbox hb; have n_ := z (blk_below (zb BK354.out) hb) <| z (below_step zj_ hb) <| z (hbox) <| z ((by rw [hg]; exact (below_size zj_) : w.heap.size ≤ gb359)) <| z ((by rw [hg]; exact (below_size zj_) : w.heap.size ≤ gb359)) <| z ((by rw [hg]; exact Nat.ne_of_lt (blk_lt (zb BK354.out)) : gb354 ≠ gb359)) <| z1 ((by rw [hg]; exact Nat.ne_of_gt (blk_lt (zb BK354.out)) : gb359 ≠ gb354)); clear BK354 HB; obtain ⟨BK354, HB, BK359, GW359, GE359, NB354_359, NB359_354⟩ := n_; clear hb hbox hg; have hnb24 := NB359_354.out; have hnc24 := NB354_359.out; have hcz25_0 : w23.cell? ⟨gb359, 0, none⟩ = some (.int .i64 0) := (blk_cell BK359.out 0).trans rfl; have hcz25_1 : w23.cell? ⟨gb359, 1, none⟩ = some (.int .i64 0) := (blk_cell BK359.out 1).trans rfl; have hcz25_2 : w23.cell? ⟨gb359, 2, none⟩ = some (.int .i64 0) := (blk_cell BK359.out 2).trans rfl; have hfz25_0 := blk_frozen BK359.out 0; have hfz25_1 := blk_frozen BK359.out 1; have hfz25_2 := blk_frozen BK359.out 2; have hcz26_0 : w23.cell? ⟨gb354, 0, none⟩ = some (.int .i64 a0_0) := (blk_cell BK354.out 0).trans rfl; have hcz26_1 : w23.cell? ⟨gb354, 1, none⟩ = some (.slice (some ad358) l0_1.length c0_1) := (blk_cell BK354.out 1).trans rfl; have hcz26_2 : w23.cell? ⟨gb354, 2, none⟩ = some (.slice A0_2 l0_2.length c0_2) := (blk_cell BK354.out 2).trans rfl; have hfz26_0 := blk_frozen BK354.out 0; have hfz26_1 := blk_frozen BK354.out 1; have hfz26_2 := blk_frozen BK354.out 2) | ((with_reducible refine gate_callee (f := 108) rfl ?_); refine goesL_ (some 20) rfl rfl Try.func108 (by kernel_rfl) rfl #[.int .i64 ((rd_T57 l0_1 x9_1).f0), .int .i64 1, .int .i64 4] rfl zd_ ?_; (with_reducible refine (spec_l1In.calls ((rd_T57 l0_1 x9_1).f0) 1 4 true _ A7.out).mono ?_); rintro e w' ⟨rfl, ⟨nd, rfl⟩⟩; refine ⟨_, rfl, ?_⟩) | (go_at_call 108; (with_reducible refine (spec_l1In.calls ((rd_T57 l0_1 x9_1).f1) 0 (wrap64 ((wrap64 (a0_0 + x9_1)) - 1)) true _ A9.out).mono ?_); rintro e w' ⟨rfl, ⟨nd, rfl⟩⟩) | (go_at_call 108; (with_reducible refine (spec_l1In.calls ((rd_T57 l0_1 x9_1).f2) 0 (wrap64 ((wrap64 (a0_0 + x9_1)) - 1)) true _ A11.out).mono ?_); rintro e w' ⟨rfl, ⟨nd, rfl⟩⟩))
          go_roundg k1
          case measure => have := HK1.out; omega
          case rel => exact ⟨(wrap64 (x9_1 + 1)), zb_, H', ⟨zbd_⟩, ⟨by refine zb ?_; refine blk_far ?_ NB354_359.out _; refine zb ?_; refine blk_far ?_ NB354_359.out _; refine zb ?_; refine blk_far ?_ NB354_359.out _; refine zb ?_; exact BK354.out⟩, ⟨zec_⟩⟩
        ·replace c12 := Bool.eq_false_iff.mpr c12
         subst c12; have H1 : (some false) = some r := by rw [if_neg (show ¬ (false = true) by decide)] at H; exact H
         clear H; have H := H1; clear H1; obtain rfl := Option.some.inj H; have p358 : 0 ≤ (x9_1 : Int) := of_decide_eq_true za_; have q358 : x9_1 < (l0_1.length : Int) := of_decide_eq_true za_; obtain ⟨ad358, e358, hx358_0, hx358_1, hx358_2⟩ := at_T57 HR0_1.out x9_1 p358 q358
         cases e358
         (try (replace hx358_0 := (HB.out.cell (World.block_lt_of_cell? w _ hx358_0)).trans hx358_0)); (try (replace hx358_1 := (HB.out.cell (World.block_lt_of_cell? w _ hx358_1)).trans hx358_1)); (try (replace hx358_2 := (HB.out.cell (World.block_lt_of_cell? w _ hx358_2)).trans hx358_2)); replace p358 := eq_true p358; replace q358 := eq_true q358
         go_wp2_with (first | ((with_reducible refine gate_dst (N := 4) rfl ?_); (try (refine gate_guard (by rfl) ?_; dsimp only)); refine box_event ?hg (N := 4) ?hd (cs := #[.int .i64 0, .int .i64 0, .int .i64 0]) (t := 57) ?hr ?_; (case hd => rfl); (case hg => rfl); (case hr => exact ze_); intro gb359 hg w27 hbox hb; have n_ := z (blk_below (zb BK354.out) hb) <| z (below_step zj_ hb) <| z (hbox) <| z ((by rw [hg]; exact (below_size zj_) : w.heap.size ≤ gb359)) <| z ((by rw [hg]; exact (below_size zj_) : w.heap.size ≤ gb359)) <| z ((by rw [hg]; exact Nat.ne_of_lt (blk_lt (zb BK354.out)) : gb354 ≠ gb359)) <| z1 ((by rw [hg]; exact Nat.ne_of_gt (blk_lt (zb BK354.out)) : gb359 ≠ gb354)); clear BK354 HB; obtain ⟨BK354, HB, BK359, GW359, GE359, NB354_359, NB359_354⟩ := n_; clear hb hbox hg; have hnb28 := NB359_354.out; have hnc28 := NB354_359.out; have hcz29_0 : w27.cell? ⟨gb359, 0, none⟩ = some (.int .i64 0) := (blk_cell BK359.out 0).trans rfl; have hcz29_1 : w27.cell? ⟨gb359, 1, none⟩ = some (.int .i64 0) := (blk_cell BK359.out 1).trans rfl; have hcz29_2 : w27.cell? ⟨gb359, 2, none⟩ = some (.int .i64 0) := (blk_cell BK359.out 2).trans rfl; have hfz29_0 := blk_frozen BK359.out 0; have hfz29_1 := blk_frozen BK359.out 1; have hfz29_2 := blk_frozen BK359.out 2; have hcz30_0 : w27.cell? ⟨gb354, 0, none⟩ = some (.int .i64 a0_0) := (blk_cell BK354.out 0).trans rfl; have hcz30_1 : w27.cell? ⟨gb354, 1, none⟩ = some (.slice (some ad358) l0_1.length c0_1) := (blk_cell BK354.out 1).trans rfl; have hcz30_2 : w27.cell? ⟨gb354, 2, none⟩ = some (.slice A0_2 l0_2.length c0_2) := (blk_cell BK354.out 2).trans rfl; have hfz30_0 := blk_frozen BK354.out 0; have hfz30_1 := blk_frozen BK354.out 1; have hfz30_2 := blk_frozen BK354.out 2) | ((with_reducible refine gate_callee (f := 108) rfl ?_); refine goesL_ (some 20) rfl rfl Try.func108 (by kernel_rfl) rfl #[.int .i64 ((rd_T57 l0_1 x9_1).f0), .int .i64 1, .int .i64 4] rfl zd_ ?_; (with_reducible refine (spec_l1In.calls ((rd_T57 l0_1 x9_1).f0) 1 4 true _ A7.out).mono ?_); rintro e w' ⟨rfl, ⟨nd, rfl⟩⟩; refine ⟨_, rfl, ?_⟩) | (go_at_call 108; (with_reducible refine (spec_l1In.calls ((rd_T57 l0_1 x9_1).f1) 0 (wrap64 ((wrap64 (a0_0 + x9_1)) - 1)) true _ A9.out).mono ?_); rintro e w' ⟨rfl, ⟨nd, rfl⟩⟩) | (go_at_call 108; (with_reducible refine (spec_l1In.calls ((rd_T57 l0_1 x9_1).f2) 0 (wrap64 ((wrap64 (a0_0 + x9_1)) - 1)) false _ A11.out).mono ?_); rintro e w' ⟨rfl, ⟨nd, rfl⟩⟩))
         go_ret
         exact ⟨zg_, zec_⟩
       ·replace c10 := Bool.eq_false_iff.mpr c10
        subst c10; have H1 : (some false) = some r := by rw [if_neg (show ¬ (false = true) by decide)] at H; exact H
        clear H; have H := H1; clear H1; obtain rfl := Option.some.inj H; have p358 : 0 ≤ (x9_1 : Int) := of_decide_eq_true za_; have q358 : x9_1 < (l0_1.length : Int) := of_decide_eq_true za_; obtain ⟨ad358, e358, hx358_0, hx358_1, hx358_2⟩ := at_T57 HR0_1.out x9_1 p358 q358
        cases e358
        (try (replace hx358_0 := (HB.out.cell (World.block_lt_of_cell? w _ hx358_0)).trans hx358_0)); (try (replace hx358_1 := (HB.out.cell (World.block_lt_of_cell? w _ hx358_1)).trans hx358_1)); (try (replace hx358_2 := (HB.out.cell (World.block_lt_of_cell? w _ hx358_2)).trans hx358_2)); replace p358 := eq_true p358; replace q358 := eq_true q358
        go_wp2_with (first | ((with_reducible refine gate_dst (N := 4) rfl ?_); (try (refine gate_guard (by rfl) ?_; dsimp only)); refine box_event ?hg (N := 4) ?hd (cs := #[.int .i64 0, .int .i64 0, .int .i64 0]) (t := 57) ?hr ?_; (case hd => rfl); (case hg => rfl); (case hr => exact ze_); intro gb359 hg w31 hbox hb; have n_ := z (blk_below (zb BK354.out) hb) <| z (below_step zj_ hb) <| z (hbox) <| z ((by rw [hg]; exact (below_size zj_) : w.heap.size ≤ gb359)) <| z ((by rw [hg]; exact (below_size zj_) : w.heap.size ≤ gb359)) <| z ((by rw [hg]; exact Nat.ne_of_lt (blk_lt (zb BK354.out)) : gb354 ≠ gb359)) <| z1 ((by rw [hg]; exact Nat.ne_of_gt (blk_lt (zb BK354.out)) : gb359 ≠ gb354)); clear BK354 HB; obtain ⟨BK354, HB, BK359, GW359, GE359, NB354_359, NB359_354⟩ := n_; clear hb hbox hg; have hnb32 := NB359_354.out; have hnc32 := NB354_359.out; have hcz33_0 : w31.cell? ⟨gb359, 0, none⟩ = some (.int .i64 0) := (blk_cell BK359.out 0).trans rfl; have hcz33_1 : w31.cell? ⟨gb359, 1, none⟩ = some (.int .i64 0) := (blk_cell BK359.out 1).trans rfl; have hcz33_2 : w31.cell? ⟨gb359, 2, none⟩ = some (.int .i64 0) := (blk_cell BK359.out 2).trans rfl; have hfz33_0 := blk_frozen BK359.out 0; have hfz33_1 := blk_frozen BK359.out 1; have hfz33_2 := blk_frozen BK359.out 2; have hcz34_0 : w31.cell? ⟨gb354, 0, none⟩ = some (.int .i64 a0_0) := (blk_cell BK354.out 0).trans rfl; have hcz34_1 : w31.cell? ⟨gb354, 1, none⟩ = some (.slice (some ad358) l0_1.length c0_1) := (blk_cell BK354.out 1).trans rfl; have hcz34_2 : w31.cell? ⟨gb354, 2, none⟩ = some (.slice A0_2 l0_2.length c0_2) := (blk_cell BK354.out 2).trans rfl; have hfz34_0 := blk_frozen BK354.out 0; have hfz34_1 := blk_frozen BK354.out 1; have hfz34_2 := blk_frozen BK354.out 2) | ((with_reducible refine gate_callee (f := 108) rfl ?_); refine goesL_ (some 20) rfl rfl Try.func108 (by kernel_rfl) rfl #[.int .i64 ((rd_T57 l0_1 x9_1).f0), .int .i64 1, .int .i64 4] rfl zd_ ?_; (with_reducible refine (spec_l1In.calls ((rd_T57 l0_1 x9_1).f0) 1 4 true _ A7.out).mono ?_); rintro e w' ⟨rfl, ⟨nd, rfl⟩⟩; refine ⟨_, rfl, ?_⟩) | (go_at_call 108; (with_reducible refine (spec_l1In.calls ((rd_T57 l0_1 x9_1).f1) 0 (wrap64 ((wrap64 (a0_0 + x9_1)) - 1)) false _ A9.out).mono ?_); rintro e w' ⟨rfl, ⟨nd, rfl⟩⟩))
        go_ret
        exact ⟨zg_, zec_⟩
      ·replace c8 := Bool.eq_false_iff.mpr c8
       subst c8; have H1 : (some false) = some r := by rw [if_neg (show ¬ (false = true) by decide)] at H; exact H
       clear H; have H := H1; clear H1; obtain rfl := Option.some.inj H; have p358 : 0 ≤ (x9_1 : Int) := of_decide_eq_true za_; have q358 : x9_1 < (l0_1.length : Int) := of_decide_eq_true za_; obtain ⟨ad358, e358, hx358_0, hx358_1, hx358_2⟩ := at_T57 HR0_1.out x9_1 p358 q358
       cases e358
       (try (replace hx358_0 := (HB.out.cell (World.block_lt_of_cell? w _ hx358_0)).trans hx358_0)); (try (replace hx358_1 := (HB.out.cell (World.block_lt_of_cell? w _ hx358_1)).trans hx358_1)); (try (replace hx358_2 := (HB.out.cell (World.block_lt_of_cell? w _ hx358_2)).trans hx358_2)); replace p358 := eq_true p358; replace q358 := eq_true q358
       go_wp2_with (first | ((with_reducible refine gate_dst (N := 4) rfl ?_); (try (refine gate_guard (by rfl) ?_; dsimp only)); refine box_event ?hg (N := 4) ?hd (cs := #[.int .i64 0, .int .i64 0, .int .i64 0]) (t := 57) ?hr ?_; (case hd => rfl); (case hg => rfl); (case hr => exact ze_); intro gb359 hg w35 hbox hb; have n_ := z (blk_below (zb BK354.out) hb) <| z (below_step zj_ hb) <| z (hbox) <| z ((by rw [hg]; exact (below_size zj_) : w.heap.size ≤ gb359)) <| z ((by rw [hg]; exact (below_size zj_) : w.heap.size ≤ gb359)) <| z ((by rw [hg]; exact Nat.ne_of_lt (blk_lt (zb BK354.out)) : gb354 ≠ gb359)) <| z1 ((by rw [hg]; exact Nat.ne_of_gt (blk_lt (zb BK354.out)) : gb359 ≠ gb354)); clear BK354 HB; obtain ⟨BK354, HB, BK359, GW359, GE359, NB354_359, NB359_354⟩ := n_; clear hb hbox hg; have hnb36 := NB359_354.out; have hnc36 := NB354_359.out; have hcz37_0 : w35.cell? ⟨gb359, 0, none⟩ = some (.int .i64 0) := (blk_cell BK359.out 0).trans rfl; have hcz37_1 : w35.cell? ⟨gb359, 1, none⟩ = some (.int .i64 0) := (blk_cell BK359.out 1).trans rfl; have hcz37_2 : w35.cell? ⟨gb359, 2, none⟩ = some (.int .i64 0) := (blk_cell BK359.out 2).trans rfl; have hfz37_0 := blk_frozen BK359.out 0; have hfz37_1 := blk_frozen BK359.out 1; have hfz37_2 := blk_frozen BK359.out 2; have hcz38_0 : w35.cell? ⟨gb354, 0, none⟩ = some (.int .i64 a0_0) := (blk_cell BK354.out 0).trans rfl; have hcz38_1 : w35.cell? ⟨gb354, 1, none⟩ = some (.slice (some ad358) l0_1.length c0_1) := (blk_cell BK354.out 1).trans rfl; have hcz38_2 : w35.cell? ⟨gb354, 2, none⟩ = some (.slice A0_2 l0_2.length c0_2) := (blk_cell BK354.out 2).trans rfl; have hfz38_0 := blk_frozen BK354.out 0; have hfz38_1 := blk_frozen BK354.out 1; have hfz38_2 := blk_frozen BK354.out 2) | ((with_reducible refine gate_callee (f := 108) rfl ?_); refine goesL_ (some 20) rfl rfl Try.func108 (by kernel_rfl) rfl #[.int .i64 ((rd_T57 l0_1 x9_1).f0), .int .i64 1, .int .i64 4] rfl zd_ ?_; (with_reducible refine (spec_l1In.calls ((rd_T57 l0_1 x9_1).f0) 1 4 false _ A7.out).mono ?_); rintro e w' ⟨rfl, ⟨nd, rfl⟩⟩; refine ⟨_, rfl, ?_⟩))
       go_ret
       exact ⟨zg_, zec_⟩
     ·rw [if_neg c6] at H
      exact absurd H (by simp)
    ·rw [if_neg c5] at H
     exact absurd H (by simp)
   ·rw [if_neg c4] at H
    have c4b0 := decide_eq_false c4; clear c4; replace H := oB.mp H; obtain ⟨t355, A390, H⟩ := H; replace H : (if t355 = true then (if (l0_1.length : Int) ≤ 16 then ((spec_l1In.f (l0_2.length : Int) 1 4).bind fun t356 => (if t356 = true then ((spec_l1All.f k1 l0_2 0 (wrap64 ((wrap64 (a0_0 + (l0_1.length : Int))) - 1))).bind fun t357 => (some t357)) else (some false))) else (some false)) else (some false)) = some r := H; have A39 := aM A390; clear A390
    by_cases c40 : t355 = true
    ·subst c40
     have H1 : (if (l0_1.length : Int) ≤ 16 then ((spec_l1In.f (l0_2.length : Int) 1 4).bind fun t356 => (if t356 = true then ((spec_l1All.f k1 l0_2 0 (wrap64 ((wrap64 (a0_0 + (l0_1.length : Int))) - 1))).bind fun t357 => (some t357)) else (some false))) else (some false)) = some r := by rw [if_pos rfl] at H; exact H
     clear H; have H := H1; clear H1
     by_cases c41 : (l0_1.length : Int) ≤ 16
     ·rw [if_pos c41] at H
      have c41b0 := decide_eq_true c41; have c41b1 : decide (l0_1.length ≤ 16) = true := decide_eq_true (by omega); clear c41; replace H := oB.mp H; obtain ⟨t356, A420, H⟩ := H; replace H : (if t356 = true then ((spec_l1All.f k1 l0_2 0 (wrap64 ((wrap64 (a0_0 + (l0_1.length : Int))) - 1))).bind fun t357 => (some t357)) else (some false)) = some r := H; have A42 := aM A420; clear A420
      by_cases c43 : t356 = true
      ·subst c43
       have H1 : ((spec_l1All.f k1 l0_2 0 (wrap64 ((wrap64 (a0_0 + (l0_1.length : Int))) - 1))).bind fun t357 => (some t357)) = some r := by rw [if_pos rfl] at H; exact H
       clear H; have H := H1; clear H1; replace H := oB.mp H; obtain ⟨t357, A440, H⟩ := H; replace H : (some t357) = some r := H; have A44 := aM A440; clear A440; obtain rfl := Option.some.inj H; have hcz45_0 : wr.cell? ⟨gb354, 0, none⟩ = some (.int .i64 a0_0) := (blk_cell BK354.out 0).trans rfl; have hcz45_1 : wr.cell? ⟨gb354, 1, none⟩ = some (.slice A0_1 l0_1.length c0_1) := (blk_cell BK354.out 1).trans rfl; have hcz45_2 : wr.cell? ⟨gb354, 2, none⟩ = some (.slice A0_2 l0_2.length c0_2) := (blk_cell BK354.out 2).trans rfl; have hfz45_0 := blk_frozen BK354.out 0; have hfz45_1 := blk_frozen BK354.out 1; have hfz45_2 := blk_frozen BK354.out 2
       go_wp2_with (first | ((with_reducible refine gate_callee (f := 144) rfl ?_); refine goesL_ (some 53) rfl rfl Try.func144 (by kernel_rfl) rfl #[.int .i64 a0_0] rfl zd_ ?_; (with_reducible refine (spec_ttInputs.calls a0_0 true _ A39.out).mono ?_); rintro e w' ⟨rfl, ⟨nd, rfl⟩⟩; refine ⟨_, rfl, ?_⟩) | (go_at_call 108; (with_reducible refine (spec_l1In.calls (l0_2.length : Int) 1 4 true _ A42.out).mono ?_); rintro e w' ⟨rfl, ⟨nd, rfl⟩⟩) | (go_at_call 126; (with_reducible refine (spec_l1All.calls k1 _ _ l0_2 0 (wrap64 ((wrap64 (a0_0 + (l0_1.length : Int))) - 1)) t357 _ ?side1 ?side2 A44.out).mono ?_); (case side1 => repeat (first | exact (Kd.C_below HR0_2.out zj_) | (with_reducible refine cA ?_ _) | (with_reducible refine cN ?_ _) | (with_reducible refine cD ?_))); (case side2 => exact HC0_2.out); rintro e w' ⟨rfl, ⟨nd, rfl⟩⟩))
       go_ret
       exact ⟨zg_, zj_⟩
      ·replace c43 := Bool.eq_false_iff.mpr c43
       subst c43; have H1 : (some false) = some r := by rw [if_neg (show ¬ (false = true) by decide)] at H; exact H
       clear H; have H := H1; clear H1; obtain rfl := Option.some.inj H; have hcz46_0 : wr.cell? ⟨gb354, 0, none⟩ = some (.int .i64 a0_0) := (blk_cell BK354.out 0).trans rfl; have hcz46_1 : wr.cell? ⟨gb354, 1, none⟩ = some (.slice A0_1 l0_1.length c0_1) := (blk_cell BK354.out 1).trans rfl; have hcz46_2 : wr.cell? ⟨gb354, 2, none⟩ = some (.slice A0_2 l0_2.length c0_2) := (blk_cell BK354.out 2).trans rfl; have hfz46_0 := blk_frozen BK354.out 0; have hfz46_1 := blk_frozen BK354.out 1; have hfz46_2 := blk_frozen BK354.out 2
       go_wp2_with (first | ((with_reducible refine gate_callee (f := 144) rfl ?_); refine goesL_ (some 53) rfl rfl Try.func144 (by kernel_rfl) rfl #[.int .i64 a0_0] rfl zd_ ?_; (with_reducible refine (spec_ttInputs.calls a0_0 true _ A39.out).mono ?_); rintro e w' ⟨rfl, ⟨nd, rfl⟩⟩; refine ⟨_, rfl, ?_⟩) | (go_at_call 108; (with_reducible refine (spec_l1In.calls (l0_2.length : Int) 1 4 false _ A42.out).mono ?_); rintro e w' ⟨rfl, ⟨nd, rfl⟩⟩))
       go_ret
       exact ⟨zg_, zj_⟩
     ·rw [if_neg c41] at H
      have c41b0 := decide_eq_false c41; have c41b1 : decide (l0_1.length ≤ 16) = false := decide_eq_false (by omega); clear c41; obtain rfl := Option.some.inj H; have hcz47_0 : wr.cell? ⟨gb354, 0, none⟩ = some (.int .i64 a0_0) := (blk_cell BK354.out 0).trans rfl; have hcz47_1 : wr.cell? ⟨gb354, 1, none⟩ = some (.slice A0_1 l0_1.length c0_1) := (blk_cell BK354.out 1).trans rfl; have hcz47_2 : wr.cell? ⟨gb354, 2, none⟩ = some (.slice A0_2 l0_2.length c0_2) := (blk_cell BK354.out 2).trans rfl; have hfz47_0 := blk_frozen BK354.out 0; have hfz47_1 := blk_frozen BK354.out 1; have hfz47_2 := blk_frozen BK354.out 2
      go_wp2_with (first | ((with_reducible refine gate_callee (f := 144) rfl ?_); refine goesL_ (some 53) rfl rfl Try.func144 (by kernel_rfl) rfl #[.int .i64 a0_0] rfl zd_ ?_; (with_reducible refine (spec_ttInputs.calls a0_0 true _ A39.out).mono ?_); rintro e w' ⟨rfl, ⟨nd, rfl⟩⟩; refine ⟨_, rfl, ?_⟩))
      go_ret
      exact ⟨zg_, zj_⟩
    ·replace c40 := Bool.eq_false_iff.mpr c40
     subst c40; have H1 : (some false) = some r := by rw [if_neg (show ¬ (false = true) by decide)] at H; exact H
     clear H; have H := H1; clear H1; obtain rfl := Option.some.inj H; have hcz48_0 : wr.cell? ⟨gb354, 0, none⟩ = some (.int .i64 a0_0) := (blk_cell BK354.out 0).trans rfl; have hcz48_1 : wr.cell? ⟨gb354, 1, none⟩ = some (.slice A0_1 l0_1.length c0_1) := (blk_cell BK354.out 1).trans rfl; have hcz48_2 : wr.cell? ⟨gb354, 2, none⟩ = some (.slice A0_2 l0_2.length c0_2) := (blk_cell BK354.out 2).trans rfl; have hfz48_0 := blk_frozen BK354.out 0; have hfz48_1 := blk_frozen BK354.out 1; have hfz48_2 := blk_frozen BK354.out 2
     go_wp2_with (first | ((with_reducible refine gate_callee (f := 144) rfl ?_); refine goesL_ (some 53) rfl rfl Try.func144 (by kernel_rfl) rfl #[.int .i64 a0_0] rfl zd_ ?_; (with_reducible refine (spec_ttInputs.calls a0_0 false _ A39.out).mono ?_); rintro e w' ⟨rfl, ⟨nd, rfl⟩⟩; refine ⟨_, rfl, ?_⟩))
     go_ret
     exact ⟨zg_, zj_⟩
end Go.Proofs.Ytbkighlfgaifeaa.QFnCrossings
