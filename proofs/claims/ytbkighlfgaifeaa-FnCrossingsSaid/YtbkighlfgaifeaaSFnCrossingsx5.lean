/- Functions of FnCrossings, each as a Lean function, with the proof that the Go code comes to its answers. -/
import Derived.Test.YtbkighlfgaifeaaSFnCrossingsx0
import Derived.Test.YtbkighlfgaifeaaSFnCrossingsx3
import Derived.Test.YtbkighlfgaifeaaSFnCrossingsx4
namespace Go.Proofs.Ytbkighlfgaifeaa.QFnCrossings
open Go.RowKit Go.Proofs.YtbkighlfgaifeaaW.PrintWords Go.Proofs.YtbkighlfgaifeaaW.PrintLast Go.Proofs.YtbkighlfgaifeaaW.PrintMore
open Go.Proofs.YtbkighlfgaifeaaW.PrintWords renaming pw_below_drewN → pN, below_drew1 → p1, below_alloc → pA
open Go.Proofs.YtbkighlfgaifeaaW.PrintWords.Kd renaming R_alloc → kA, R_drewN → kN, R_drew → kD, Q_alloc → qA, Q_drewN → qN, Q_drew → qD, C_alloc → cA, C_drewN → cN, C_drew → cD
open Go.Proofs.YtbkighlfgaifeaaW.PrintWords.Aside0 renaming mk → aM
open List renaming setIfInBounds_toArray → sI, set_cons_zero → s0, set_cons_succ → sS, map_toArray → mT, length_take → lT, length_drop → lD, map_cons → mC, map_nil → mN
open Option renaming bind_eq_some_iff → oB, bind_some → oS
attribute [local go_sem] max2_int min2_int max_two min_two max_three min_three max_four min_four
set_option maxHeartbeats 8000000
set_option maxRecDepth 100000
set_option linter.unusedVariables false
set_option linter.unusedSimpArgs false
def impl_CrossingTable.f (k : Nat) (l0 : List (List Int)) (a1 : Int) : Option ((List (List Int)) × Bool) := (impl_AreLevelWires.f k l0 a1).bind fun t156 => (if t156 = true then ((impl_crossingTable.f k l0 a1).bind fun t157 => (some (t157, true))) else (some (([] : List (List Int)), false)))
theorem impl_CrossingTable.calls (k : Nat) (A0 : Option Addr) (c0 : Nat) (l0 : List (List Int)) (a1 : Int) (r1 : List (List Int)) (r2 : Bool) (w : World) (hr0 : Kd.C (Kd.slice 3 (Kd.int .i64)) w A0 l0.length l0) (hc0 : l0.length ≤ c0) (h : impl_CrossingTable.f k l0 a1 = some (r1, r2)) :
  Calls Try.prog 62 #[.slice A0 l0.length c0, .int .i64 a1] w fun e w' => ∃ v0_ : Value, e = .returned (.tuple #[v0_, .bool r2]) ∧ Kd.S (Kd.slice 3 (Kd.int .i64)) 24 w' w.heap.size (fun _ => True) v0_ r1 ∧ Below w.heap.size w w' := by
 have HR0 := aM hr0
 have HC0 := aM hc0
 clear hr0 hc0
 have HB := aM (Below.refl w.heap.size w)
 have H : ((impl_AreLevelWires.f k l0 a1).bind fun t156 => (if t156 = true then ((impl_crossingTable.f k l0 a1).bind fun t157 => (some (t157, true))) else (some (([] : List (List Int)), false)))) = some (r1, r2) := h
 clear h
 replace H := oB.mp H
 obtain ⟨t156, A30, H⟩ := H
 replace H : (if t156 = true then ((impl_crossingTable.f k l0 a1).bind fun t157 => (some (t157, true))) else (some (([] : List (List Int)), false))) = some (r1, r2) := H
 have A3 := aM A30
 clear A30
 by_cases c4 : t156 = true
 ·subst c4
  have H1 : ((impl_crossingTable.f k l0 a1).bind fun t157 => (some (t157, true))) = some (r1, r2) := by rw [if_pos rfl] at H; exact H
  clear H; have H := H1; clear H1; replace H := oB.mp H; obtain ⟨t157, A50, H⟩ := H; replace H : (some (t157, true)) = some (r1, r2) := H; have A5 := aM A50; clear A50
  simp only [Option.some.injEq, Prod.mk.injEq] at H
  obtain ⟨rfl, rfl⟩ := H
  go_enter Try.func62, Try.ntmps62
  go_wp2_with (first | ((with_reducible refine gate_callee (f := 69) rfl ?_); refine goesL_ (some 8) rfl rfl Try.func69 (by kernel_rfl) rfl #[.slice A0 l0.length c0, .int .i64 a1] rfl zd_ ?_; (with_reducible refine (impl_AreLevelWires.calls k _ _ l0 a1 true _ ?side1 ?side2 A3.out).mono ?_); (case side1 => exact zba_); (case side2 => exact HC0.out); rintro e w' ⟨rfl, ⟨nd, rfl⟩⟩; refine ⟨_, rfl, ?_⟩) | ((with_reducible refine gate_callee (f := 146) rfl ?_); refine goesL_ (some 12) rfl rfl Try.func146 (by kernel_rfl) rfl #[.slice A0 l0.length c0, .int .i64 a1] rfl zd_ ?_; (with_reducible refine (impl_crossingTable.calls k _ _ l0 a1 t157 _ ?side1 ?side2 A5.out).mono ?_); (case side1 => exact zba_); (case side2 => exact HC0.out); rintro e w6 ⟨v158, rfl, ho0, hb⟩; refine ⟨_, rfl, ?_⟩; have n_ := z (Kd.S_lower ho0 (below_size zc_)) <| z1 (below_step zc_ hb); clear HB; obtain ⟨HO159, HB⟩ := n_; clear hb; (try clear ho0)))
  go_ret2
  exact ⟨_, zg_, by refine zs ?_; exact HO159.out, zc_⟩
 ·replace c4 := Bool.eq_false_iff.mpr c4
  subst c4; have H1 : (some (([] : List (List Int)), false)) = some (r1, r2) := by rw [if_neg (show ¬ (false = true) by decide)] at H; exact H
  clear H; have H := H1; clear H1
  simp only [Option.some.injEq, Prod.mk.injEq] at H
  obtain ⟨rfl, rfl⟩ := H
  go_enter Try.func62, Try.ntmps62
  go_wp2_with (first | ((with_reducible refine gate_callee (f := 69) rfl ?_); refine goesL_ (some 8) rfl rfl Try.func69 (by kernel_rfl) rfl #[.slice A0 l0.length c0, .int .i64 a1] rfl zd_ ?_; (with_reducible refine (impl_AreLevelWires.calls k _ _ l0 a1 false _ ?side1 ?side2 A3.out).mono ?_); (case side1 => exact zba_); (case side2 => exact HC0.out); rintro e w' ⟨rfl, ⟨nd, rfl⟩⟩; refine ⟨_, rfl, ?_⟩))
  go_ret2
  exact ⟨_, zg_, zcf_, zc_⟩
def spec_l1In.f (a0 : Int) (a1 : Int) (a2 : Int) : Option (Bool) := if a0 ≥ a1 then (some (decide (a0 ≤ a2))) else (some false)
theorem spec_l1In.calls (a0 : Int) (a1 : Int) (a2 : Int) (r : Bool) (w : World) (h : spec_l1In.f a0 a1 a2 = some r) :
  Calls Try.prog 108 #[.int .i64 a0, .int .i64 a1, .int .i64 a2] w fun e w' => e = .returned (.bool r) ∧ Drawn0 w w' := by
 have H : (if a0 ≥ a1 then (some (decide (a0 ≤ a2))) else (some false)) = some r := h
 clear h
 by_cases c4 : a0 ≥ a1
 ·rw [if_pos c4] at H
  have c4b0 : decide (a1 ≤ a0) = true := decide_eq_true c4; clear c4; obtain rfl := Option.some.inj H
  go_enter Try.func108, Try.ntmps108
  go_wp2
  go_ret
  exact ⟨zb_, zf_⟩
 ·rw [if_neg c4] at H
  have c4b0 : decide (a1 ≤ a0) = false := decide_eq_false c4; clear c4; obtain rfl := Option.some.inj H
  go_enter Try.func108, Try.ntmps108
  go_wp2
  go_ret
  exact ⟨zb_, zf_⟩
def spec_plWires.l0 : Nat → List (List Int) → Int → List (List Int) → Int → Int → Option (Bool)
 | 0, _, _, _, _, _ => none
 | k + 1, x0, x1, x7, x8, x9 => if x9 < x8 then (if 0 ≤ x9 then (if x9 < (x7.length : Int) then (if ((rd_L2 x7 x9).length : Int) = 2 then (if 0 < ((rd_L2 x7 x9).length : Int) then ((spec_l1In.f (rd (rd_L2 x7 x9) 0) 0 29).bind fun t163 => (if t163 = true then (if 1 < ((rd_L2 x7 x9).length : Int) then ((spec_l1In.f (rd (rd_L2 x7 x9) 1) 0 (wrap64 (x1 - 1))).bind fun t165 => (if t165 = true then (spec_plWires.l0 k x0 x1 x7 x8 (wrap64 (x9 + 1))) else (some false))) else (none)) else (some false))) else (none)) else (some false)) else (none)) else (none)) else (if (x0.length : Int) ≤ 30 then ((spec_l1In.f x1 1 7).bind fun t160 => (some t160)) else (some false))
def spec_plWires.f (k : Nat) (l0 : List (List Int)) (a1 : Int) : Option (Bool) := spec_plWires.l0 k l0 a1 l0 (l0.length : Int) 0
theorem spec_plWires.calls (k : Nat) (A0 : Option Addr) (c0 : Nat) (l0 : List (List Int)) (a1 : Int) (r : Bool) (w : World) (hr0 : Kd.C (Kd.slice 3 (Kd.int .i64)) w A0 l0.length l0) (hc0 : l0.length ≤ c0) (h : spec_plWires.f k l0 a1 = some r) :
  Calls Try.prog 147 #[.slice A0 l0.length c0, .int .i64 a1] w fun e w' => e = .returned (.bool r) ∧ Drawn0 w w' := by
 have HR0 := aM hr0
 have HC0 := aM hc0
 clear hr0 hc0
 have H : (spec_plWires.l0 k l0 a1 l0 (l0.length : Int) 0) = some r := h
 clear h
 have H' := aM H
 clear H
 go_enter Try.func147, Try.ntmps147
 go_wp2
 go_loopg [9] k (fun kq v9 w' => ∃ (x9_1 : Int), v9 = .int .i64 x9_1 ∧ Aside0 (spec_plWires.l0 kq l0 a1 l0 (l0.length : Int) x9_1 = some r) ∧ Aside0 (kq ≤ k) ∧ Drawn0 w w')
 case atStart => exact ⟨(0), zb_, H', ⟨Nat.le_refl _⟩, zf_⟩
 case round =>
  clear H'; obtain ⟨x9_1, rfl, HA, HK1, ⟨m1, rfl⟩⟩ := hrel
  cases gk with
  | zero => exact absurd HA.out (by simp [spec_plWires.l0])
  | succ k1 =>
   have H := HA.out; clear HA
   simp only [spec_plWires.l0] at H
   by_cases c3 : x9_1 < (l0.length : Int)
   ·rw [if_pos c3] at H
    have c3b0 := decide_eq_true c3; clear c3
    by_cases c4 : 0 ≤ x9_1
    ·rw [if_pos c4] at H
     have c4b0 := decide_eq_true c4; clear c4
     by_cases c5 : x9_1 < (l0.length : Int)
     ·rw [if_pos c5] at H
      have c5b0 := decide_eq_true c5; clear c5
      by_cases c6 : ((rd_L2 l0 x9_1).length : Int) = 2
      ·rw [if_pos c6] at H
       have c6b0 := beq_iff_eq.mpr c6; have c6b1 := bne_eq_false_iff_eq.mpr c6; clear c6
       by_cases c7 : 0 < ((rd_L2 l0 x9_1).length : Int)
       ·rw [if_pos c7] at H
        have c7b0 := decide_eq_true c7; have c7b1 : decide (0 < (rd_L2 l0 x9_1).length) = true := decide_eq_true (by omega); clear c7; replace H := oB.mp H; obtain ⟨t163, A80, H⟩ := H; replace H : (if t163 = true then (if 1 < ((rd_L2 l0 x9_1).length : Int) then ((spec_l1In.f (rd (rd_L2 l0 x9_1) 1) 0 (wrap64 (a1 - 1))).bind fun t165 => (if t165 = true then (spec_plWires.l0 k1 l0 a1 l0 (l0.length : Int) (wrap64 (x9_1 + 1))) else (some false))) else (none)) else (some false)) = some r := H; have A8 := aM A80; clear A80
        by_cases c9 : t163 = true
        ·subst c9
         have H1 : (if 1 < ((rd_L2 l0 x9_1).length : Int) then ((spec_l1In.f (rd (rd_L2 l0 x9_1) 1) 0 (wrap64 (a1 - 1))).bind fun t165 => (if t165 = true then (spec_plWires.l0 k1 l0 a1 l0 (l0.length : Int) (wrap64 (x9_1 + 1))) else (some false))) else (none)) = some r := by rw [if_pos rfl] at H; exact H
         clear H; have H := H1; clear H1
         by_cases c10 : 1 < ((rd_L2 l0 x9_1).length : Int)
         ·rw [if_pos c10] at H
          have c10b0 := decide_eq_true c10; have c10b1 : decide (1 < (rd_L2 l0 x9_1).length) = true := decide_eq_true (by omega); clear c10; replace H := oB.mp H; obtain ⟨t165, A110, H⟩ := H; replace H : (if t165 = true then (spec_plWires.l0 k1 l0 a1 l0 (l0.length : Int) (wrap64 (x9_1 + 1))) else (some false)) = some r := H; have A11 := aM A110; clear A110
          by_cases c12 : t165 = true
          ·subst c12
           have H1 : (spec_plWires.l0 k1 l0 a1 l0 (l0.length : Int) (wrap64 (x9_1 + 1))) = some r := by rw [if_pos rfl] at H; exact H
           clear H; have H := H1; clear H1; have H' := aM H; clear H; have p161 : 0 ≤ (x9_1 : Int) := of_decide_eq_true za_; have q161 : x9_1 < (l0.length : Int) := of_decide_eq_true za_; obtain ⟨ad161, A161_0, c161_0, e161, hx161_0, hl161_0, hi161_0⟩ := at_L2 HR0.out x9_1 p161 q161
           cases e161
           have HR161_0 := aM hi161_0; have HC161_0 := aM hl161_0; clear hi161_0 hl161_0; replace p161 := eq_true p161; replace q161 := eq_true q161; have p162 : 0 ≤ (0 : Int) := (by omega); have q162 : 0 < ((rd_L2 l0 x9_1).length : Int) := of_decide_eq_true za_; obtain ⟨ad162, e162, hx162_0⟩ := Kd.at_int HR161_0.out 0 p162 q162
           cases e162
           have qi162 : (0 < (rd_L2 l0 x9_1).length) = True := eq_true (by omega); (try rw [show ((0 : Int)).toNat = 0 from rfl] at hx162_0); (try rw [Addr.add_zero'] at hx162_0); replace p162 := eq_true p162; replace q162 := eq_true q162
           go_wp2_with (first | (go_at_call 108; (with_reducible refine (spec_l1In.calls (rd (rd_L2 l0 x9_1) 0) 0 29 true _ A8.out).mono ?_); rintro e w' ⟨rfl, ⟨nd, rfl⟩⟩; have p164 : 0 ≤ (1 : Int) := (by omega); have q164 : 1 < ((rd_L2 l0 x9_1).length : Int) := of_decide_eq_true za_; obtain ⟨ad164, e164, hx164_0⟩ := Kd.at_int HR161_0.out 1 p164 q164; obtain rfl : ad162 = ad164 := (by injection e164); (try simp only [show (1 : Int).toNat = 1 from rfl, Nat.reduceMul, Nat.reduceEqDiff, Go.Addr.add, ↓reduceIte] at hx164_0); have qi164 : (1 < (rd_L2 l0 x9_1).length) = True := eq_true (by omega); (try rw [show ((1 : Int)).toNat = 1 from rfl] at hx164_0); replace p164 := eq_true p164; replace q164 := eq_true q164) | (go_at_call 108; (with_reducible refine (spec_l1In.calls (rd (rd_L2 l0 x9_1) 1) 0 (wrap64 (a1 - 1)) true _ A11.out).mono ?_); rintro e w' ⟨rfl, ⟨nd, rfl⟩⟩))
           go_roundg k1
           case measure => have := HK1.out; omega
           case rel => exact ⟨(wrap64 (x9_1 + 1)), zb_, H', ⟨zbd_⟩, zf_⟩
          ·replace c12 := Bool.eq_false_iff.mpr c12
           subst c12; have H1 : (some false) = some r := by rw [if_neg (show ¬ (false = true) by decide)] at H; exact H
           clear H; have H := H1; clear H1; obtain rfl := Option.some.inj H; have p161 : 0 ≤ (x9_1 : Int) := of_decide_eq_true za_; have q161 : x9_1 < (l0.length : Int) := of_decide_eq_true za_; obtain ⟨ad161, A161_0, c161_0, e161, hx161_0, hl161_0, hi161_0⟩ := at_L2 HR0.out x9_1 p161 q161
           cases e161
           have HR161_0 := aM hi161_0; have HC161_0 := aM hl161_0; clear hi161_0 hl161_0; replace p161 := eq_true p161; replace q161 := eq_true q161; have p162 : 0 ≤ (0 : Int) := (by omega); have q162 : 0 < ((rd_L2 l0 x9_1).length : Int) := of_decide_eq_true za_; obtain ⟨ad162, e162, hx162_0⟩ := Kd.at_int HR161_0.out 0 p162 q162
           cases e162
           have qi162 : (0 < (rd_L2 l0 x9_1).length) = True := eq_true (by omega); (try rw [show ((0 : Int)).toNat = 0 from rfl] at hx162_0); (try rw [Addr.add_zero'] at hx162_0); replace p162 := eq_true p162; replace q162 := eq_true q162
           go_wp2_with (first | (go_at_call 108; (with_reducible refine (spec_l1In.calls (rd (rd_L2 l0 x9_1) 0) 0 29 true _ A8.out).mono ?_); rintro e w' ⟨rfl, ⟨nd, rfl⟩⟩; have p164 : 0 ≤ (1 : Int) := (by omega); have q164 : 1 < ((rd_L2 l0 x9_1).length : Int) := of_decide_eq_true za_; obtain ⟨ad164, e164, hx164_0⟩ := Kd.at_int HR161_0.out 1 p164 q164; obtain rfl : ad162 = ad164 := (by injection e164); (try simp only [show (1 : Int).toNat = 1 from rfl, Nat.reduceMul, Nat.reduceEqDiff, Go.Addr.add, ↓reduceIte] at hx164_0); have qi164 : (1 < (rd_L2 l0 x9_1).length) = True := eq_true (by omega); (try rw [show ((1 : Int)).toNat = 1 from rfl] at hx164_0); replace p164 := eq_true p164; replace q164 := eq_true q164) | (go_at_call 108; (with_reducible refine (spec_l1In.calls (rd (rd_L2 l0 x9_1) 1) 0 (wrap64 (a1 - 1)) false _ A11.out).mono ?_); rintro e w' ⟨rfl, ⟨nd, rfl⟩⟩))
           go_ret
           exact ⟨zb_, zf_⟩
         ·rw [if_neg c10] at H
          exact absurd H (by simp)
        ·replace c9 := Bool.eq_false_iff.mpr c9
         subst c9; have H1 : (some false) = some r := by rw [if_neg (show ¬ (false = true) by decide)] at H; exact H
         clear H; have H := H1; clear H1; obtain rfl := Option.some.inj H; have p161 : 0 ≤ (x9_1 : Int) := of_decide_eq_true za_; have q161 : x9_1 < (l0.length : Int) := of_decide_eq_true za_; obtain ⟨ad161, A161_0, c161_0, e161, hx161_0, hl161_0, hi161_0⟩ := at_L2 HR0.out x9_1 p161 q161
         cases e161
         have HR161_0 := aM hi161_0; have HC161_0 := aM hl161_0; clear hi161_0 hl161_0; replace p161 := eq_true p161; replace q161 := eq_true q161; have p162 : 0 ≤ (0 : Int) := (by omega); have q162 : 0 < ((rd_L2 l0 x9_1).length : Int) := of_decide_eq_true za_; obtain ⟨ad162, e162, hx162_0⟩ := Kd.at_int HR161_0.out 0 p162 q162
         cases e162
         have qi162 : (0 < (rd_L2 l0 x9_1).length) = True := eq_true (by omega); (try rw [show ((0 : Int)).toNat = 0 from rfl] at hx162_0); (try rw [Addr.add_zero'] at hx162_0); replace p162 := eq_true p162; replace q162 := eq_true q162
         go_wp2_with (first | (go_at_call 108; (with_reducible refine (spec_l1In.calls (rd (rd_L2 l0 x9_1) 0) 0 29 false _ A8.out).mono ?_); rintro e w' ⟨rfl, ⟨nd, rfl⟩⟩))
         go_ret
         exact ⟨zb_, zf_⟩
       ·rw [if_neg c7] at H
        exact absurd H (by simp)
      ·rw [if_neg c6] at H
       have c6b0 := beq_eq_false_iff_ne.mpr c6; have c6b1 := bne_iff_ne.mpr c6; obtain rfl := Option.some.inj H; have p161 : 0 ≤ (x9_1 : Int) := of_decide_eq_true za_; have q161 : x9_1 < (l0.length : Int) := of_decide_eq_true za_; obtain ⟨ad161, A161_0, c161_0, e161, hx161_0, hl161_0, hi161_0⟩ := at_L2 HR0.out x9_1 p161 q161
       cases e161
       have HR161_0 := aM hi161_0; have HC161_0 := aM hl161_0; clear hi161_0 hl161_0; replace p161 := eq_true p161; replace q161 := eq_true q161
       go_wp2
       go_ret
       exact ⟨zb_, zf_⟩
     ·rw [if_neg c5] at H
      exact absurd H (by simp)
    ·rw [if_neg c4] at H
     exact absurd H (by simp)
   ·rw [if_neg c3] at H
    have c3b0 := decide_eq_false c3; clear c3
    by_cases c13 : (l0.length : Int) ≤ 30
    ·rw [if_pos c13] at H
     have c13b0 := decide_eq_true c13; have c13b1 : decide (l0.length ≤ 30) = true := decide_eq_true (by omega); clear c13; replace H := oB.mp H; obtain ⟨t160, A140, H⟩ := H; replace H : (some t160) = some r := H; have A14 := aM A140; clear A140; obtain rfl := Option.some.inj H
     go_wp2_with (first | (go_at_call 108; (with_reducible refine (spec_l1In.calls a1 1 7 t160 _ A14.out).mono ?_); rintro e w' ⟨rfl, ⟨nd, rfl⟩⟩))
     go_ret
     exact ⟨zb_, zf_⟩
    ·rw [if_neg c13] at H
     have c13b0 := decide_eq_false c13; have c13b1 : decide (l0.length ≤ 30) = false := decide_eq_false (by omega); clear c13; obtain rfl := Option.some.inj H
     go_wp2
     go_ret
     exact ⟨zb_, zf_⟩
mutual
def spec_plTable.l0 : Nat → List (List Int) → Int → List (List Int) → Int → Option ((List (List Int)))
 | 0, _, _, _, _ => none
 | k + 1, x0, x1, x5, x6 => if x6 < x1 then (if 0 ≤ x1 then (if (x1 : Int).toNat ≤ 35184372088832 then (spec_plTable.l1 k x0 x1 x5 x6 (List.replicate (x1 : Int).toNat 0) x0 (x0.length : Int) 0) else (none)) else (none)) else (some x5)
def spec_plTable.l1 : Nat → List (List Int) → Int → List (List Int) → Int → List Int → List (List Int) → Int → Int → Option ((List (List Int)))
 | 0, _, _, _, _, _, _, _, _ => none
 | k + 1, x0, x1, x5, x6, x7, x19, x20, x21 => if x21 < x20 then (if 0 ≤ x21 then (if x21 < (x19.length : Int) then (spec_plTable.l2 k x0 x1 x5 x6 x7 (rd_L2 x19 x21) x19 x20 x21 x0 (x0.length : Int) 0) else (none)) else (none)) else (if x5.length < 5864062014805 then (spec_plTable.l0 k x0 x1 (x5 ++ [x7]) (wrap64 (x6 + 1))) else (none))
def spec_plTable.l2 : Nat → List (List Int) → Int → List (List Int) → Int → List Int → List Int → List (List Int) → Int → Int → List (List Int) → Int → Int → Option ((List (List Int)))
 | 0, _, _, _, _, _, _, _, _, _, _, _, _ => none
 | k + 1, x0, x1, x5, x6, x7, x9, x19, x20, x21, x25, x26, x27 => if x27 < x26 then (if 0 ≤ x27 then (if x27 < (x25.length : Int) then (if 1 < (x9.length : Int) then (if (rd x9 1) = x6 then (if 1 < ((rd_L2 x25 x27).length : Int) then (if (rd (rd_L2 x25 x27) 1) = x6 then (spec_plTable.l2 k x0 x1 x5 x6 x7 x9 x19 x20 x21 x25 x26 (wrap64 (x27 + 1))) else (if 0 < (x9.length : Int) then (if 0 < ((rd_L2 x25 x27).length : Int) then (if (rd x9 0) > (rd (rd_L2 x25 x27) 0) then (if 0 ≤ (rd (rd_L2 x25 x27) 1) then (if (rd (rd_L2 x25 x27) 1) < (x7.length : Int) then (spec_plTable.l2 k x0 x1 x5 x6 (x7.set ((rd (rd_L2 x25 x27) 1) : Int).toNat (wrap64 ((rd x7 (rd (rd_L2 x25 x27) 1)) + 1))) x9 x19 x20 x21 x25 x26 (wrap64 (x27 + 1))) else (none)) else (none)) else (spec_plTable.l2 k x0 x1 x5 x6 x7 x9 x19 x20 x21 x25 x26 (wrap64 (x27 + 1)))) else (none)) else (none))) else (none)) else (spec_plTable.l2 k x0 x1 x5 x6 x7 x9 x19 x20 x21 x25 x26 (wrap64 (x27 + 1)))) else (none)) else (none)) else (none)) else (spec_plTable.l1 k x0 x1 x5 x6 x7 x19 x20 (wrap64 (x21 + 1)))
end
def spec_plTable.f (k : Nat) (l0 : List (List Int)) (a1 : Int) : Option ((List (List Int))) := spec_plTable.l0 k l0 a1 ([] : List (List Int)) 0
theorem spec_plTable.calls (k : Nat) (A0 : Option Addr) (c0 : Nat) (l0 : List (List Int)) (a1 : Int) (r : List (List Int)) (w : World) (hr0 : Kd.C (Kd.slice 3 (Kd.int .i64)) w A0 l0.length l0) (hc0 : l0.length ≤ c0) (h : spec_plTable.f k l0 a1 = some r) :
  Calls Try.prog 148 #[.slice A0 l0.length c0, .int .i64 a1] w fun e w' => ∃ v0_ : Value, e = .returned (v0_) ∧ Kd.S (Kd.slice 3 (Kd.int .i64)) 24 w' w.heap.size (fun _ => True) v0_ r ∧ Below w.heap.size w w' := by
 have HR0 := aM hr0
 have HC0 := aM hc0
 clear hr0 hc0
 have HB := aM (Below.refl w.heap.size w)
 have H : (spec_plTable.l0 k l0 a1 ([] : List (List Int)) 0) = some r := h
 clear h
 have H' := aM H
 clear H
 go_enter Try.func148, Try.ntmps148
 go_wp2
 repeat (go_quiet (fail); try go_wp2)
 go_loopg [5, 6] k (fun kq v5 v6 w' => ∃ (x5_1 : List (List Int)) (x6_1 : Int), v6 = .int .i64 x6_1 ∧ Aside0 (spec_plTable.l0 kq l0 a1 x5_1 x6_1 = some r) ∧ Aside0 (kq ≤ k) ∧ Aside0 (Kd.S (Kd.slice 3 (Kd.int .i64)) 24 w' w.heap.size (fun _ => True) v5 x5_1) ∧ Aside0 (Below w.heap.size w w'))
 case atStart => exact ⟨(([] : List (List Int))), (0), zb_, H', ⟨Nat.le_refl _⟩, ⟨zcf_⟩, ⟨zc_⟩⟩
 case round =>
  clear H'; obtain ⟨x5_1, x6_1, rfl, HA, HK1, HO_5, HB⟩ := hrel
  cases gk with
  | zero => exact absurd HA.out (by simp [spec_plTable.l0])
  | succ k1 =>
   have H := HA.out; clear HA
   simp only [spec_plTable.l0] at H
   by_cases c3 : x6_1 < a1
   ·rw [if_pos c3] at H
    have c3b0 := decide_eq_true c3; clear c3
    by_cases c4 : 0 ≤ a1
    ·rw [if_pos c4] at H
     have c4b0 := eq_true c4; have c4b1 := decide_eq_true c4; clear c4
     by_cases c5 : (a1 : Int).toNat ≤ 35184372088832
     ·rw [if_pos c5] at H
      have c5b0 := eq_true c5; have c5b1 := decide_eq_true c5; clear c5; obtain ⟨y166, hy166⟩ : ∃ y_ : List Int, y_ = (List.replicate (a1 : Int).toNat 0) := ⟨_, rfl⟩; replace H : (spec_plTable.l1 k1 l0 a1 x5_1 x6_1 y166 l0 (l0.length : Int) 0) = some r := by first | (rw [hy166]; with_reducible exact H) | (have H2_ := (oS _ _).symm.trans H; rw [hy166]; with_reducible exact H2_) | (have H2_ := (oS _ _).symm.trans H; with_reducible exact H2_) | with_reducible exact H | (rw [hy166]; exact H) | exact H
      have Ny166 := aM hy166; clear hy166; have H' := aM H; clear H
      go_wp2_with (first | ((with_reducible refine gate_dst (N := 18) rfl ?_); refine Kd.R_make (Kd.int .i64) _ 3 rfl (N := 18) rfl 24 _ _ rfl a1 rfl rfl Try.underlying24 (.int .i64 0) 8 info3 rfl (by decide) (by omega) 0 (ok := fun _ => True) (okp := fun _ => True) rfl (fun _ hk => hk) trivial (of_decide_eq_true za_) (Nat.le_trans (Nat.mul_le_mul_right _ (of_decide_eq_true za_ : a1.toNat ≤ 35184372088832)) (by omega)) (Below.refl _ _) (Nat.le_refl _) ?_; intro v167 w6 ho7 hb hg_ hnew_; clear hg_ hnew_; (first | rw [← Ny166.out] at ho7 | (simp only [Int.reduceToNat] at ho7; rw [← Ny166.out] at ho7)); have n_ := z (Kd.S_elder' (zs HO_5.out) (Kd.R_base ho7) hb) <| z (Kd.R_lower ho7 (below_size zc_)) <| z1 (below_step zc_ hb); clear HO_5 HB; obtain ⟨HO_5, HO168, HB⟩ := n_; clear hb ho7))
      repeat (go_quiet (first | ((with_reducible refine gate_dst (N := 18) rfl ?_); refine Kd.R_make (Kd.int .i64) _ 3 rfl (N := 18) rfl 24 _ _ rfl a1 rfl rfl Try.underlying24 (.int .i64 0) 8 info3 rfl (by decide) (by omega) 0 (ok := fun _ => True) (okp := fun _ => True) rfl (fun _ hk => hk) trivial (of_decide_eq_true za_) (Nat.le_trans (Nat.mul_le_mul_right _ (of_decide_eq_true za_ : a1.toNat ≤ 35184372088832)) (by omega)) (Below.refl _ _) (Nat.le_refl _) ?_; intro v167 w6 ho7 hb hg_ hnew_; clear hg_ hnew_; (first | rw [← Ny166.out] at ho7 | (simp only [Int.reduceToNat] at ho7; rw [← Ny166.out] at ho7)); have n_ := z (Kd.S_elder' (zs HO_5.out) (Kd.R_base ho7) hb) <| z (Kd.R_lower ho7 (below_size zc_)) <| z1 (below_step zc_ hb); clear HO_5 HB; obtain ⟨HO_5, HO168, HB⟩ := n_; clear hb ho7)); try go_wp2_with (first | ((with_reducible refine gate_dst (N := 18) rfl ?_); refine Kd.R_make (Kd.int .i64) _ 3 rfl (N := 18) rfl 24 _ _ rfl a1 rfl rfl Try.underlying24 (.int .i64 0) 8 info3 rfl (by decide) (by omega) 0 (ok := fun _ => True) (okp := fun _ => True) rfl (fun _ hk => hk) trivial (of_decide_eq_true za_) (Nat.le_trans (Nat.mul_le_mul_right _ (of_decide_eq_true za_ : a1.toNat ≤ 35184372088832)) (by omega)) (Below.refl _ _) (Nat.le_refl _) ?_; intro v167 w6 ho7 hb hg_ hnew_; clear hg_ hnew_; (first | rw [← Ny166.out] at ho7 | (simp only [Int.reduceToNat] at ho7; rw [← Ny166.out] at ho7)); have n_ := z (Kd.S_elder' (zs HO_5.out) (Kd.R_base ho7) hb) <| z (Kd.R_lower ho7 (below_size zc_)) <| z1 (below_step zc_ hb); clear HO_5 HB; obtain ⟨HO_5, HO168, HB⟩ := n_; clear hb ho7)))
      go_loopg [21] k1 (fun kq v21 w' => ∃ (x7_2 : List Int) (x21_2 : Int), v21 = .int .i64 x21_2 ∧ Aside0 (spec_plTable.l1 kq l0 a1 x5_1 x6_1 x7_2 l0 (l0.length : Int) x21_2 = some r) ∧ Aside0 (kq ≤ k1) ∧ Aside0 (Kd.S (Kd.slice 3 (Kd.int .i64)) 24 w' w.heap.size (fun k_ => some k_ ≠ (v167 : Value).ownBlock) u5 x5_1) ∧ Aside0 (Kd.R (Kd.int .i64) 3 w' w.heap.size (fun _ => True) v167 x7_2) ∧ Aside0 (Below w.heap.size w w'))
      case atStart => exact ⟨(y166), (0), zb_, H', ⟨Nat.le_refl _⟩, ⟨by refine zs ?_; exact Kd.S_mono HO_5.out (fun _ hk => hk.2)⟩, ⟨zr HO168.out⟩, ⟨zc_⟩⟩
      case round =>
       clear H'; (try clear c3b0); (try clear c4b0); (try clear c4b1); (try clear c5b0); (try clear c5b1); obtain ⟨x7_2, x21_2, rfl, HA, HK2, HO_5, HO_7, HB⟩ := hrel
       cases gk with
       | zero => exact absurd HA.out (by simp [spec_plTable.l1])
       | succ k2 =>
        have H := HA.out; clear HA
        simp only [spec_plTable.l1] at H
        by_cases c8 : x21_2 < (l0.length : Int)
        ·rw [if_pos c8] at H
         have c8b0 := decide_eq_true c8; clear c8
         by_cases c9 : 0 ≤ x21_2
         ·rw [if_pos c9] at H
          have c9b0 := decide_eq_true c9; clear c9
          by_cases c10 : x21_2 < (l0.length : Int)
          ·rw [if_pos c10] at H
           have c10b0 := decide_eq_true c10; clear c10; have H' := aM H; clear H; have p172 : 0 ≤ (x21_2 : Int) := of_decide_eq_true za_; have q172 : x21_2 < (l0.length : Int) := of_decide_eq_true za_; obtain ⟨ad172, A172_0, c172_0, e172, hx172_0, hl172_0, hi172_0⟩ := at_L2 HR0.out x21_2 p172 q172
           cases e172
           (try (replace hx172_0 := (HB.out.cell (World.block_lt_of_cell? w _ hx172_0)).trans hx172_0)); have HR172_0 := aM hi172_0; have HC172_0 := aM hl172_0; clear hi172_0 hl172_0; replace p172 := eq_true p172; replace q172 := eq_true q172
           go_wp2
           repeat (go_quiet (fail); try go_wp2)
           go_loopg [27] k2 (fun kq v27 w' => ∃ (x7_3 : List Int) (x27_3 : Int), v27 = .int .i64 x27_3 ∧ Aside0 (spec_plTable.l2 kq l0 a1 x5_1 x6_1 x7_3 (rd_L2 l0 x21_2) l0 (l0.length : Int) x21_2 l0 (l0.length : Int) x27_3 = some r) ∧ Aside0 (kq ≤ k2) ∧ Aside0 (Kd.S (Kd.slice 3 (Kd.int .i64)) 24 w' w.heap.size (fun k_ => some k_ ≠ (v167 : Value).ownBlock) u5 x5_1) ∧ Aside0 (Kd.R (Kd.int .i64) 3 w' w.heap.size (fun _ => True) v167 x7_3) ∧ Aside0 (Below w.heap.size w w'))
           case atStart => exact ⟨(x7_2), (0), zb_, H', ⟨Nat.le_refl _⟩, ⟨zs HO_5.out⟩, ⟨zr HO_7.out⟩, ⟨zc_⟩⟩
           case round =>
            clear H'; (try clear c8b0); (try clear c9b0); (try clear c10b0); (try clear hx172_0); (try clear p172); (try clear q172); obtain ⟨x7_3, x27_3, rfl, HA, HK3, HO_5, HO_7, HB⟩ := hrel
            cases gk with
            | zero => exact absurd HA.out (by simp [spec_plTable.l2])
            | succ k3 =>
             have H := HA.out; clear HA
             simp only [spec_plTable.l2] at H
             by_cases c11 : x27_3 < (l0.length : Int)
             ·rw [if_pos c11] at H
              have c11b0 := decide_eq_true c11; clear c11
              by_cases c12 : 0 ≤ x27_3
              ·rw [if_pos c12] at H
               have c12b0 := decide_eq_true c12; clear c12
               by_cases c13 : x27_3 < (l0.length : Int)
               ·rw [if_pos c13] at H
                have c13b0 := decide_eq_true c13; clear c13
                by_cases c14 : 1 < ((rd_L2 l0 x21_2).length : Int)
                ·rw [if_pos c14] at H
                 have c14b0 := decide_eq_true c14; have c14b1 : decide (1 < (rd_L2 l0 x21_2).length) = true := decide_eq_true (by omega); clear c14
                 by_cases c15 : (rd (rd_L2 l0 x21_2) 1) = x6_1
                 ·rw [if_pos c15] at H
                  have c15b0 := beq_iff_eq.mpr c15; have c15b1 := bne_eq_false_iff_eq.mpr c15; clear c15
                  by_cases c16 : 1 < ((rd_L2 l0 x27_3).length : Int)
                  ·rw [if_pos c16] at H
                   have c16b0 := decide_eq_true c16; have c16b1 : decide (1 < (rd_L2 l0 x27_3).length) = true := decide_eq_true (by omega); clear c16
                   by_cases c17 : (rd (rd_L2 l0 x27_3) 1) = x6_1
                   ·rw [if_pos c17] at H
                    have c17b0 := beq_iff_eq.mpr c17; have c17b1 := bne_eq_false_iff_eq.mpr c17; clear c17; have H' := aM H; clear H; have p173 : 0 ≤ (x27_3 : Int) := of_decide_eq_true za_; have q173 : x27_3 < (l0.length : Int) := of_decide_eq_true za_; obtain ⟨ad173, A173_0, c173_0, e173, hx173_0, hl173_0, hi173_0⟩ := at_L2 HR0.out x27_3 p173 q173; obtain rfl : ad172 = ad173 := (by injection e173); (try (replace hx173_0 := (HB.out.cell (World.block_lt_of_cell? w _ hx173_0)).trans hx173_0)); have HR173_0 := aM hi173_0; have HC173_0 := aM hl173_0; clear hi173_0 hl173_0; replace p173 := eq_true p173; replace q173 := eq_true q173; have p174 : 0 ≤ (1 : Int) := (by omega); have q174 : 1 < ((rd_L2 l0 x21_2).length : Int) := of_decide_eq_true za_; obtain ⟨ad174, e174, hx174_0⟩ := Kd.at_int HR172_0.out 1 p174 q174
                    cases e174
                    (try simp only [show (1 : Int).toNat = 1 from rfl, Nat.reduceMul, Nat.reduceEqDiff, Go.Addr.add, ↓reduceIte] at hx174_0); have qi174 : (1 < (rd_L2 l0 x21_2).length) = True := eq_true (by omega); (try rw [show ((1 : Int)).toNat = 1 from rfl] at hx174_0); (try (replace hx174_0 := (HB.out.cell (World.block_lt_of_cell? w _ hx174_0)).trans hx174_0)); replace p174 := eq_true p174; replace q174 := eq_true q174; have p175 : 0 ≤ (1 : Int) := (by omega); have q175 : 1 < ((rd_L2 l0 x27_3).length : Int) := of_decide_eq_true za_; obtain ⟨ad175, e175, hx175_0⟩ := Kd.at_int HR173_0.out 1 p175 q175
                    cases e175
                    (try simp only [show (1 : Int).toNat = 1 from rfl, Nat.reduceMul, Nat.reduceEqDiff, Go.Addr.add, ↓reduceIte] at hx175_0); have qi175 : (1 < (rd_L2 l0 x27_3).length) = True := eq_true (by omega); (try rw [show ((1 : Int)).toNat = 1 from rfl] at hx175_0); (try (replace hx175_0 := (HB.out.cell (World.block_lt_of_cell? w _ hx175_0)).trans hx175_0)); replace p175 := eq_true p175; replace q175 := eq_true q175
                    go_wp2
                    repeat (go_quiet (fail); try go_wp2)
                    go_roundg k3
                    case measure => have := HK1.out; have := HK2.out; have := HK3.out; omega
                    case rel => exact ⟨(x7_3), (wrap64 (x27_3 + 1)), zb_, H', ⟨zcd_⟩, ⟨zs HO_5.out⟩, ⟨zr HO_7.out⟩, ⟨zc_⟩⟩
                   ·rw [if_neg c17] at H
                    have c17b0 := beq_eq_false_iff_ne.mpr c17; have c17b1 := bne_iff_ne.mpr c17
                    by_cases c18 : 0 < ((rd_L2 l0 x21_2).length : Int)
                    ·rw [if_pos c18] at H
                     have c18b0 := decide_eq_true c18; have c18b1 : decide (0 < (rd_L2 l0 x21_2).length) = true := decide_eq_true (by omega); clear c18
                     by_cases c19 : 0 < ((rd_L2 l0 x27_3).length : Int)
                     ·rw [if_pos c19] at H
                      have c19b0 := decide_eq_true c19; have c19b1 : decide (0 < (rd_L2 l0 x27_3).length) = true := decide_eq_true (by omega); clear c19
                      by_cases c20 : (rd (rd_L2 l0 x21_2) 0) > (rd (rd_L2 l0 x27_3) 0)
                      ·rw [if_pos c20] at H
                       have c20b0 : decide ((rd (rd_L2 l0 x27_3) 0) < (rd (rd_L2 l0 x21_2) 0)) = true := decide_eq_true c20; clear c20
                       by_cases c21 : 0 ≤ (rd (rd_L2 l0 x27_3) 1)
                       ·rw [if_pos c21] at H
                        have c21b0 := decide_eq_true c21; clear c21
                        by_cases c22 : (rd (rd_L2 l0 x27_3) 1) < (x7_3.length : Int)
                        ·rw [if_pos c22] at H
                         have c22b0 := decide_eq_true c22; clear c22; obtain ⟨y180, hy180⟩ : ∃ y_ : List Int, y_ = (x7_3.set ((rd (rd_L2 l0 x27_3) 1) : Int).toNat (wrap64 ((rd x7_3 (rd (rd_L2 l0 x27_3) 1)) + 1))) := ⟨_, rfl⟩; replace H : (spec_plTable.l2 k3 l0 a1 x5_1 x6_1 y180 (rd_L2 l0 x21_2) l0 (l0.length : Int) x21_2 l0 (l0.length : Int) (wrap64 (x27_3 + 1))) = some r := by first | (rw [hy180]; with_reducible exact H) | (have H2_ := (oS _ _).symm.trans H; rw [hy180]; with_reducible exact H2_) | (have H2_ := (oS _ _).symm.trans H; with_reducible exact H2_) | with_reducible exact H | (rw [hy180]; exact H) | exact H
                         have Ny180 := aM hy180; clear hy180; have H' := aM H; clear H; have p173 : 0 ≤ (x27_3 : Int) := of_decide_eq_true za_; have q173 : x27_3 < (l0.length : Int) := of_decide_eq_true za_; obtain ⟨ad173, A173_0, c173_0, e173, hx173_0, hl173_0, hi173_0⟩ := at_L2 HR0.out x27_3 p173 q173; obtain rfl : ad172 = ad173 := (by injection e173); (try (replace hx173_0 := (HB.out.cell (World.block_lt_of_cell? w _ hx173_0)).trans hx173_0)); have HR173_0 := aM hi173_0; have HC173_0 := aM hl173_0; clear hi173_0 hl173_0; replace p173 := eq_true p173; replace q173 := eq_true q173; have p174 : 0 ≤ (1 : Int) := (by omega); have q174 : 1 < ((rd_L2 l0 x21_2).length : Int) := of_decide_eq_true za_; obtain ⟨ad174, e174, hx174_0⟩ := Kd.at_int HR172_0.out 1 p174 q174
                         cases e174
                         (try simp only [show (1 : Int).toNat = 1 from rfl, Nat.reduceMul, Nat.reduceEqDiff, Go.Addr.add, ↓reduceIte] at hx174_0); have qi174 : (1 < (rd_L2 l0 x21_2).length) = True := eq_true (by omega); (try rw [show ((1 : Int)).toNat = 1 from rfl] at hx174_0); (try (replace hx174_0 := (HB.out.cell (World.block_lt_of_cell? w _ hx174_0)).trans hx174_0)); replace p174 := eq_true p174; replace q174 := eq_true q174; have p175 : 0 ≤ (1 : Int) := (by omega); have q175 : 1 < ((rd_L2 l0 x27_3).length : Int) := of_decide_eq_true za_; obtain ⟨ad175, e175, hx175_0⟩ := Kd.at_int HR173_0.out 1 p175 q175
                         cases e175
                         (try simp only [show (1 : Int).toNat = 1 from rfl, Nat.reduceMul, Nat.reduceEqDiff, Go.Addr.add, ↓reduceIte] at hx175_0); have qi175 : (1 < (rd_L2 l0 x27_3).length) = True := eq_true (by omega); (try rw [show ((1 : Int)).toNat = 1 from rfl] at hx175_0); (try (replace hx175_0 := (HB.out.cell (World.block_lt_of_cell? w _ hx175_0)).trans hx175_0)); replace p175 := eq_true p175; replace q175 := eq_true q175; have p176 : 0 ≤ (0 : Int) := (by omega); have q176 : 0 < ((rd_L2 l0 x21_2).length : Int) := of_decide_eq_true za_; obtain ⟨ad176, e176, hx176_0⟩ := Kd.at_int HR172_0.out 0 p176 q176; obtain rfl : ad174 = ad176 := (by injection e176); have qi176 : (0 < (rd_L2 l0 x21_2).length) = True := eq_true (by omega); (try rw [show ((0 : Int)).toNat = 0 from rfl] at hx176_0); (try rw [Addr.add_zero'] at hx176_0); (try (replace hx176_0 := (HB.out.cell (World.block_lt_of_cell? w _ hx176_0)).trans hx176_0)); replace p176 := eq_true p176; replace q176 := eq_true q176; have p177 : 0 ≤ (0 : Int) := (by omega); have q177 : 0 < ((rd_L2 l0 x27_3).length : Int) := of_decide_eq_true za_; obtain ⟨ad177, e177, hx177_0⟩ := Kd.at_int HR173_0.out 0 p177 q177; obtain rfl : ad175 = ad177 := (by injection e177); have qi177 : (0 < (rd_L2 l0 x27_3).length) = True := eq_true (by omega); (try rw [show ((0 : Int)).toNat = 0 from rfl] at hx177_0); (try rw [Addr.add_zero'] at hx177_0); (try (replace hx177_0 := (HB.out.cell (World.block_lt_of_cell? w _ hx177_0)).trans hx177_0)); replace p177 := eq_true p177; replace q177 := eq_true q177; have p178 : 0 ≤ (1 : Int) := (by omega); have q178 : 1 < ((rd_L2 l0 x27_3).length : Int) := of_decide_eq_true za_; obtain ⟨ad178, e178, hx178_0⟩ := Kd.at_int HR173_0.out 1 p178 q178; obtain rfl : ad175 = ad178 := (by injection e178); (try simp only [show (1 : Int).toNat = 1 from rfl, Nat.reduceMul, Nat.reduceEqDiff, Go.Addr.add, ↓reduceIte] at hx178_0); have qi178 : (1 < (rd_L2 l0 x27_3).length) = True := eq_true (by omega); (try rw [show ((1 : Int)).toNat = 1 from rfl] at hx178_0); (try (replace hx178_0 := (HB.out.cell (World.block_lt_of_cell? w _ hx178_0)).trans hx178_0)); replace p178 := eq_true p178; replace q178 := eq_true q178; obtain ⟨Ao24, co24, eo24⟩ := Kd.R_slice HO_7.out; subst eo24; have p179 : 0 ≤ ((rd (rd_L2 l0 x27_3) 1) : Int) := of_decide_eq_true za_; have q179 : (rd (rd_L2 l0 x27_3) 1) < (x7_3.length : Int) := of_decide_eq_true za_; obtain ⟨ad179, e179, hx179_0⟩ := Kd.at_int (Kd.R_reads' HO_7.out).2.2 (rd (rd_L2 l0 x27_3) 1) p179 q179
                         cases e179
                         replace p179 := eq_true p179; replace q179 := eq_true q179; have p23 : 0 ≤ ((rd (rd_L2 l0 x27_3) 1) : Int) := of_decide_eq_true za_; have q23 : ((rd (rd_L2 l0 x27_3) 1) : Int) < ((x7_3.length : Int) : Int) := of_decide_eq_true za_; obtain ⟨go23, co23, eo23, gb23, gl23, cl23, HG23⟩ := Kd.R_form HO_7.out (by omega); (first | cases eo23 | (injection eo23 with ea_ en_ ec_; (first | subst ea_ | (injection ea_ with ea_; subst ea_)); subst ec_; clear en_)); have GB23 := aM gb23; have GG23 := aM HG23; clear gb23 gl23 HG23; (first | simp only [add_plain] at hx179_0 | skip); obtain ⟨hx23_0, hf23_0⟩ := Kd.R_celln 0 HO_7.out ((rd (rd_L2 l0 x27_3) 1) : Int) p23 q23; replace p23 := eq_true p23; replace q23 := eq_true q23; have HP25 := Kd.R_putg HO_7.out ((rd (rd_L2 l0 x27_3) 1) : Int) (wrap64 ((rd x7_3 (rd (rd_L2 l0 x27_3) 1)) + 1))
                         go_wp2_with (first | ((with_reducible refine gate_store (t := 3) (p := 59) rfl ?_); (try (rw [drewN_self wr]; generalize hq_ : World.drewN wr _ = wr; have n_ := z (Kd.S_at hq_ HO_5.out) <| z (Kd.R_at hq_ HO_7.out) <| z1 (below_at hq_ HB.out); clear hq_ HO_5 HO_7 HB; obtain ⟨HO_5, HO_7, HB⟩ := n_; (try (obtain ⟨hx23_0z, hf23_0z⟩ := Kd.R_celln 0 HO_7.out ((rd (rd_L2 l0 x27_3) 1) : Int) (of_eq_true p23) (of_eq_true q23))); (try (have HP25 := Kd.R_putg HO_7.out ((rd (rd_L2 l0 x27_3) 1) : Int) (wrap64 ((rd x7_3 (rd (rd_L2 l0 x27_3) 1)) + 1)))))); refine store_event (t := 3) (p := 59) (v := ?vo_w26) (w1 := (wr.setCell ⟨go23, ((rd (rd_L2 l0 x27_3) 1) : Int).toNat, none⟩ (.int .i64 (wrap64 ((rd x7_3 (rd (rd_L2 l0 x27_3) 1)) + 1))))) ?hg ?ho ?hn ?hr ?_; (case ho => rfl); (case hg => rfl); (case hn => rfl); (case hr => exact ze_); intro w26 hw; have hg : wr.grownBy w26 (some go23) := (by rw [hw]; exact HP25.2); have hp_ : Kd.R (Kd.int .i64) 3 w26 w.heap.size (fun _ => True) (.slice (some ⟨go23, 0, none⟩) x7_3.length co24) y180 := (by rw [hw, Ny180.out]; exact HP25.1); clear HP25; have n_ := z (Kd.S_after (v := (.slice (some ⟨go23, 0, none⟩) x7_3.length co24)) (v1 := (.slice (some ⟨go23, 0, none⟩) x7_3.length co24)) (ok := (fun _ => True)) (by refine zs ?_; exact Kd.S_mono HO_5.out (fun _ hk => ⟨trivial, hk⟩)) hg (.inl rfl)) <| z (hp_) <| z1 ((by rw [hw]; exact below_set (HB.out) GB23.out : Below w.heap.size w w26)); clear HO_5 HO_7 HB; obtain ⟨HO_5, HO_7, HB⟩ := n_; clear hg hw hp_))
                         repeat (go_quiet (first | ((with_reducible refine gate_store (t := 3) (p := 59) rfl ?_); (try (rw [drewN_self wr]; generalize hq_ : World.drewN wr _ = wr; have n_ := z (Kd.S_at hq_ HO_5.out) <| z (Kd.R_at hq_ HO_7.out) <| z1 (below_at hq_ HB.out); clear hq_ HO_5 HO_7 HB; obtain ⟨HO_5, HO_7, HB⟩ := n_; (try (obtain ⟨hx23_0z, hf23_0z⟩ := Kd.R_celln 0 HO_7.out ((rd (rd_L2 l0 x27_3) 1) : Int) (of_eq_true p23) (of_eq_true q23))); (try (have HP25 := Kd.R_putg HO_7.out ((rd (rd_L2 l0 x27_3) 1) : Int) (wrap64 ((rd x7_3 (rd (rd_L2 l0 x27_3) 1)) + 1)))))); refine store_event (t := 3) (p := 59) (v := ?vo_w26) (w1 := (wr.setCell ⟨go23, ((rd (rd_L2 l0 x27_3) 1) : Int).toNat, none⟩ (.int .i64 (wrap64 ((rd x7_3 (rd (rd_L2 l0 x27_3) 1)) + 1))))) ?hg ?ho ?hn ?hr ?_; (case ho => rfl); (case hg => rfl); (case hn => rfl); (case hr => exact ze_); intro w26 hw; have hg : wr.grownBy w26 (some go23) := (by rw [hw]; exact HP25.2); have hp_ : Kd.R (Kd.int .i64) 3 w26 w.heap.size (fun _ => True) (.slice (some ⟨go23, 0, none⟩) x7_3.length co24) y180 := (by rw [hw, Ny180.out]; exact HP25.1); clear HP25; have n_ := z (Kd.S_after (v := (.slice (some ⟨go23, 0, none⟩) x7_3.length co24)) (v1 := (.slice (some ⟨go23, 0, none⟩) x7_3.length co24)) (ok := (fun _ => True)) (by refine zs ?_; exact Kd.S_mono HO_5.out (fun _ hk => ⟨trivial, hk⟩)) hg (.inl rfl)) <| z (hp_) <| z1 ((by rw [hw]; exact below_set (HB.out) GB23.out : Below w.heap.size w w26)); clear HO_5 HO_7 HB; obtain ⟨HO_5, HO_7, HB⟩ := n_; clear hg hw hp_)); try go_wp2_with (first | ((with_reducible refine gate_store (t := 3) (p := 59) rfl ?_); (try (rw [drewN_self wr]; generalize hq_ : World.drewN wr _ = wr; have n_ := z (Kd.S_at hq_ HO_5.out) <| z (Kd.R_at hq_ HO_7.out) <| z1 (below_at hq_ HB.out); clear hq_ HO_5 HO_7 HB; obtain ⟨HO_5, HO_7, HB⟩ := n_; (try (obtain ⟨hx23_0z, hf23_0z⟩ := Kd.R_celln 0 HO_7.out ((rd (rd_L2 l0 x27_3) 1) : Int) (of_eq_true p23) (of_eq_true q23))); (try (have HP25 := Kd.R_putg HO_7.out ((rd (rd_L2 l0 x27_3) 1) : Int) (wrap64 ((rd x7_3 (rd (rd_L2 l0 x27_3) 1)) + 1)))))); refine store_event (t := 3) (p := 59) (v := ?vo_w26) (w1 := (wr.setCell ⟨go23, ((rd (rd_L2 l0 x27_3) 1) : Int).toNat, none⟩ (.int .i64 (wrap64 ((rd x7_3 (rd (rd_L2 l0 x27_3) 1)) + 1))))) ?hg ?ho ?hn ?hr ?_; (case ho => rfl); (case hg => rfl); (case hn => rfl); (case hr => exact ze_); intro w26 hw; have hg : wr.grownBy w26 (some go23) := (by rw [hw]; exact HP25.2); have hp_ : Kd.R (Kd.int .i64) 3 w26 w.heap.size (fun _ => True) (.slice (some ⟨go23, 0, none⟩) x7_3.length co24) y180 := (by rw [hw, Ny180.out]; exact HP25.1); clear HP25; have n_ := z (Kd.S_after (v := (.slice (some ⟨go23, 0, none⟩) x7_3.length co24)) (v1 := (.slice (some ⟨go23, 0, none⟩) x7_3.length co24)) (ok := (fun _ => True)) (by refine zs ?_; exact Kd.S_mono HO_5.out (fun _ hk => ⟨trivial, hk⟩)) hg (.inl rfl)) <| z (hp_) <| z1 ((by rw [hw]; exact below_set (HB.out) GB23.out : Below w.heap.size w w26)); clear HO_5 HO_7 HB; obtain ⟨HO_5, HO_7, HB⟩ := n_; clear hg hw hp_)))
                         go_roundg k3
                         case measure => have := HK1.out; have := HK2.out; have := HK3.out; omega
                         case rel => exact ⟨(y180), (wrap64 (x27_3 + 1)), zb_, H', ⟨zcd_⟩, ⟨by refine zs ?_; exact Kd.S_mono HO_5.out (fun _ hk => hk.2)⟩, ⟨zr HO_7.out⟩, ⟨zc_⟩⟩
                        ·rw [if_neg c22] at H
                         exact absurd H (by simp)
                       ·rw [if_neg c21] at H
                        exact absurd H (by simp)
                      ·rw [if_neg c20] at H
                       have c20b0 : decide ((rd (rd_L2 l0 x27_3) 0) < (rd (rd_L2 l0 x21_2) 0)) = false := decide_eq_false c20; clear c20; have H' := aM H; clear H; have p173 : 0 ≤ (x27_3 : Int) := of_decide_eq_true za_; have q173 : x27_3 < (l0.length : Int) := of_decide_eq_true za_; obtain ⟨ad173, A173_0, c173_0, e173, hx173_0, hl173_0, hi173_0⟩ := at_L2 HR0.out x27_3 p173 q173; obtain rfl : ad172 = ad173 := (by injection e173); (try (replace hx173_0 := (HB.out.cell (World.block_lt_of_cell? w _ hx173_0)).trans hx173_0)); have HR173_0 := aM hi173_0; have HC173_0 := aM hl173_0; clear hi173_0 hl173_0; replace p173 := eq_true p173; replace q173 := eq_true q173; have p174 : 0 ≤ (1 : Int) := (by omega); have q174 : 1 < ((rd_L2 l0 x21_2).length : Int) := of_decide_eq_true za_; obtain ⟨ad174, e174, hx174_0⟩ := Kd.at_int HR172_0.out 1 p174 q174
                       cases e174
                       (try simp only [show (1 : Int).toNat = 1 from rfl, Nat.reduceMul, Nat.reduceEqDiff, Go.Addr.add, ↓reduceIte] at hx174_0); have qi174 : (1 < (rd_L2 l0 x21_2).length) = True := eq_true (by omega); (try rw [show ((1 : Int)).toNat = 1 from rfl] at hx174_0); (try (replace hx174_0 := (HB.out.cell (World.block_lt_of_cell? w _ hx174_0)).trans hx174_0)); replace p174 := eq_true p174; replace q174 := eq_true q174; have p175 : 0 ≤ (1 : Int) := (by omega); have q175 : 1 < ((rd_L2 l0 x27_3).length : Int) := of_decide_eq_true za_; obtain ⟨ad175, e175, hx175_0⟩ := Kd.at_int HR173_0.out 1 p175 q175
                       cases e175
                       (try simp only [show (1 : Int).toNat = 1 from rfl, Nat.reduceMul, Nat.reduceEqDiff, Go.Addr.add, ↓reduceIte] at hx175_0); have qi175 : (1 < (rd_L2 l0 x27_3).length) = True := eq_true (by omega); (try rw [show ((1 : Int)).toNat = 1 from rfl] at hx175_0); (try (replace hx175_0 := (HB.out.cell (World.block_lt_of_cell? w _ hx175_0)).trans hx175_0)); replace p175 := eq_true p175; replace q175 := eq_true q175; have p176 : 0 ≤ (0 : Int) := (by omega); have q176 : 0 < ((rd_L2 l0 x21_2).length : Int) := of_decide_eq_true za_; obtain ⟨ad176, e176, hx176_0⟩ := Kd.at_int HR172_0.out 0 p176 q176; obtain rfl : ad174 = ad176 := (by injection e176); have qi176 : (0 < (rd_L2 l0 x21_2).length) = True := eq_true (by omega); (try rw [show ((0 : Int)).toNat = 0 from rfl] at hx176_0); (try rw [Addr.add_zero'] at hx176_0); (try (replace hx176_0 := (HB.out.cell (World.block_lt_of_cell? w _ hx176_0)).trans hx176_0)); replace p176 := eq_true p176; replace q176 := eq_true q176; have p177 : 0 ≤ (0 : Int) := (by omega); have q177 : 0 < ((rd_L2 l0 x27_3).length : Int) := of_decide_eq_true za_; obtain ⟨ad177, e177, hx177_0⟩ := Kd.at_int HR173_0.out 0 p177 q177; obtain rfl : ad175 = ad177 := (by injection e177); have qi177 : (0 < (rd_L2 l0 x27_3).length) = True := eq_true (by omega); (try rw [show ((0 : Int)).toNat = 0 from rfl] at hx177_0); (try rw [Addr.add_zero'] at hx177_0); (try (replace hx177_0 := (HB.out.cell (World.block_lt_of_cell? w _ hx177_0)).trans hx177_0)); replace p177 := eq_true p177; replace q177 := eq_true q177
                       go_wp2
                       repeat (go_quiet (fail); try go_wp2)
                       go_roundg k3
                       case measure => have := HK1.out; have := HK2.out; have := HK3.out; omega
                       case rel => exact ⟨(x7_3), (wrap64 (x27_3 + 1)), zb_, H', ⟨zcd_⟩, ⟨zs HO_5.out⟩, ⟨zr HO_7.out⟩, ⟨zc_⟩⟩
                     ·rw [if_neg c19] at H
                      exact absurd H (by simp)
                    ·rw [if_neg c18] at H
                     exact absurd H (by simp)
                  ·rw [if_neg c16] at H
                   exact absurd H (by simp)
                 ·rw [if_neg c15] at H
                  have c15b0 := beq_eq_false_iff_ne.mpr c15; have c15b1 := bne_iff_ne.mpr c15; have H' := aM H; clear H; have p173 : 0 ≤ (x27_3 : Int) := of_decide_eq_true za_; have q173 : x27_3 < (l0.length : Int) := of_decide_eq_true za_; obtain ⟨ad173, A173_0, c173_0, e173, hx173_0, hl173_0, hi173_0⟩ := at_L2 HR0.out x27_3 p173 q173; obtain rfl : ad172 = ad173 := (by injection e173); (try (replace hx173_0 := (HB.out.cell (World.block_lt_of_cell? w _ hx173_0)).trans hx173_0)); have HR173_0 := aM hi173_0; have HC173_0 := aM hl173_0; clear hi173_0 hl173_0; replace p173 := eq_true p173; replace q173 := eq_true q173; have p174 : 0 ≤ (1 : Int) := (by omega); have q174 : 1 < ((rd_L2 l0 x21_2).length : Int) := of_decide_eq_true za_; obtain ⟨ad174, e174, hx174_0⟩ := Kd.at_int HR172_0.out 1 p174 q174
                  cases e174
                  (try simp only [show (1 : Int).toNat = 1 from rfl, Nat.reduceMul, Nat.reduceEqDiff, Go.Addr.add, ↓reduceIte] at hx174_0); have qi174 : (1 < (rd_L2 l0 x21_2).length) = True := eq_true (by omega); (try rw [show ((1 : Int)).toNat = 1 from rfl] at hx174_0); (try (replace hx174_0 := (HB.out.cell (World.block_lt_of_cell? w _ hx174_0)).trans hx174_0)); replace p174 := eq_true p174; replace q174 := eq_true q174
                  go_wp2
                  repeat (go_quiet (fail); try go_wp2)
                  go_roundg k3
                  case measure => have := HK1.out; have := HK2.out; have := HK3.out; omega
                  case rel => exact ⟨(x7_3), (wrap64 (x27_3 + 1)), zb_, H', ⟨zcd_⟩, ⟨zs HO_5.out⟩, ⟨zr HO_7.out⟩, ⟨zc_⟩⟩
                ·rw [if_neg c14] at H
                 exact absurd H (by simp)
               ·rw [if_neg c13] at H
                exact absurd H (by simp)
              ·rw [if_neg c12] at H
               exact absurd H (by simp)
             ·rw [if_neg c11] at H
              have c11b0 := decide_eq_false c11; clear c11; have H' := aM H; clear H
              go_wp2
              repeat (go_quiet (fail); try go_wp2)
              go_roundg k3
              case measure => have := HK1.out; have := HK2.out; have := HK3.out; omega
              case rel => exact ⟨(x7_3), (wrap64 (x21_2 + 1)), zb_, H', ⟨zcd_⟩, ⟨zs HO_5.out⟩, ⟨zr HO_7.out⟩, ⟨zc_⟩⟩
          ·rw [if_neg c10] at H
           exact absurd H (by simp)
         ·rw [if_neg c9] at H
          exact absurd H (by simp)
        ·rw [if_neg c8] at H
         have c8b0 := decide_eq_false c8; clear c8
         by_cases c27 : x5_1.length < 5864062014805
         ·rw [if_pos c27] at H
          have LMc27 := aM c27; clear c27; obtain ⟨y169, hy169⟩ : ∃ y_ : List (List Int), y_ = (x5_1 ++ [x7_2]) := ⟨_, rfl⟩; replace H : (spec_plTable.l0 k2 l0 a1 y169 (wrap64 (x6_1 + 1))) = some r := by first | (rw [hy169]; with_reducible exact H) | (have H2_ := (oS _ _).symm.trans H; rw [hy169]; with_reducible exact H2_) | (have H2_ := (oS _ _).symm.trans H; with_reducible exact H2_) | with_reducible exact H | (rw [hy169]; exact H) | exact H
          have Ny169 := aM hy169; clear hy169; have H' := aM H; clear H; obtain ⟨Ao29, co29, eo29⟩ := Kd.R_slice HO_7.out; subst eo29
          go_wp2_with (first | ((with_reducible refine gate_builtin (b := .append) (xs := #[.tmp 62, .tmp 64]) rfl ?_); at_builtin; refine Kd.S_append (Kd.slice 3 (Kd.int .i64)) (w0 := w) w.heap.size rfl (.tmp 62) (.tmp 64) 52 24 (.slice none 0 0) 24 rfl Try.underlying52 info24 rfl (by decide) (by omega) u5 x5_1 x7_2 [.slice Ao29 x7_2.length co29] (fun _ => True) (fun k_ => some k_ = (.slice Ao29 x7_2.length co29 : Value).ownBlock) rfl rfl ?aP (fun k_ hk_ => ((Kd.R_mono (ok' := fun k_ => ((fun _ => True)) k_ ∧ some k_ ≠ (u5 : Value).ownBlock) (Kd.R_apart' (HO_7.out) (Kd.S_typed HO_5.out) (by decide)) (fun k_ hk => ⟨trivial, hk.2⟩))).1 k_ hk_.symm) ?aF ?aO ?aB ?aS ?aL ?_; (case aP => exact zgd_); (case aB => exact zdh_); (case aF => exact zda_); (case aO => exact zfc_); (case aS => exact zdi_); (case aL => have := LMc27.out; omega); intro v170 w28 ho hb hg hat; rw [← Ny169.out] at ho; have n_ := z (hb) <| z1 (ho); clear HB HO_5 HO_7; obtain ⟨HB, HO171⟩ := n_; clear ho hb hg hat))
          repeat (go_quiet (first | ((with_reducible refine gate_builtin (b := .append) (xs := #[.tmp 62, .tmp 64]) rfl ?_); at_builtin; refine Kd.S_append (Kd.slice 3 (Kd.int .i64)) (w0 := w) w.heap.size rfl (.tmp 62) (.tmp 64) 52 24 (.slice none 0 0) 24 rfl Try.underlying52 info24 rfl (by decide) (by omega) u5 x5_1 x7_2 [.slice Ao29 x7_2.length co29] (fun _ => True) (fun k_ => some k_ = (.slice Ao29 x7_2.length co29 : Value).ownBlock) rfl rfl ?aP (fun k_ hk_ => ((Kd.R_mono (ok' := fun k_ => ((fun _ => True)) k_ ∧ some k_ ≠ (u5 : Value).ownBlock) (Kd.R_apart' (HO_7.out) (Kd.S_typed HO_5.out) (by decide)) (fun k_ hk => ⟨trivial, hk.2⟩))).1 k_ hk_.symm) ?aF ?aO ?aB ?aS ?aL ?_; (case aP => exact zgd_); (case aB => exact zdh_); (case aF => exact zda_); (case aO => exact zfc_); (case aS => exact zdi_); (case aL => have := LMc27.out; omega); intro v170 w28 ho hb hg hat; rw [← Ny169.out] at ho; have n_ := z (hb) <| z1 (ho); clear HB HO_5 HO_7; obtain ⟨HB, HO171⟩ := n_; clear ho hb hg hat)); try go_wp2_with (first | ((with_reducible refine gate_builtin (b := .append) (xs := #[.tmp 62, .tmp 64]) rfl ?_); at_builtin; refine Kd.S_append (Kd.slice 3 (Kd.int .i64)) (w0 := w) w.heap.size rfl (.tmp 62) (.tmp 64) 52 24 (.slice none 0 0) 24 rfl Try.underlying52 info24 rfl (by decide) (by omega) u5 x5_1 x7_2 [.slice Ao29 x7_2.length co29] (fun _ => True) (fun k_ => some k_ = (.slice Ao29 x7_2.length co29 : Value).ownBlock) rfl rfl ?aP (fun k_ hk_ => ((Kd.R_mono (ok' := fun k_ => ((fun _ => True)) k_ ∧ some k_ ≠ (u5 : Value).ownBlock) (Kd.R_apart' (HO_7.out) (Kd.S_typed HO_5.out) (by decide)) (fun k_ hk => ⟨trivial, hk.2⟩))).1 k_ hk_.symm) ?aF ?aO ?aB ?aS ?aL ?_; (case aP => exact zgd_); (case aB => exact zdh_); (case aF => exact zda_); (case aO => exact zfc_); (case aS => exact zdi_); (case aL => have := LMc27.out; omega); intro v170 w28 ho hb hg hat; rw [← Ny169.out] at ho; have n_ := z (hb) <| z1 (ho); clear HB HO_5 HO_7; obtain ⟨HB, HO171⟩ := n_; clear ho hb hg hat)))
          go_roundg k2
          case measure => have := HK1.out; have := HK2.out; omega
          case rel => exact ⟨(y169), (wrap64 (x6_1 + 1)), zb_, H', ⟨zcg_⟩, ⟨zs HO171.out⟩, ⟨zc_⟩⟩
         ·rw [if_neg c27] at H
          exact absurd H (by simp)
     ·rw [if_neg c5] at H
      exact absurd H (by simp)
    ·rw [if_neg c4] at H
     exact absurd H (by simp)
   ·rw [if_neg c3] at H
    have c3b0 := decide_eq_false c3; clear c3; obtain rfl := Option.some.inj H
    go_wp2
    repeat (go_quiet (fail); try go_wp2)
    go_ret
    exact ⟨_, zg_, by refine zs ?_; exact HO_5.out, zc_⟩
end Go.Proofs.Ytbkighlfgaifeaa.QFnCrossings
