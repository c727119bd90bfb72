/- Functions of FnCrossings, each as a Lean function, with the proof that the Go code comes to its answers. -/
import Derived.Test.YtbkighlfgaifeaaSFnCrossingsx0
namespace Go.Proofs.Ytbkighlfgaifeaa.QFnCrossings
open Go.RowKit Go.Proofs.YtbkighlfgaifeaaW.PrintWords Go.Proofs.YtbkighlfgaifeaaW.PrintLast Go.Proofs.YtbkighlfgaifeaaW.PrintMore
open Go.Proofs.YtbkighlfgaifeaaW.PrintWords renaming pw_below_drewN → pN, below_drew1 → p1, below_alloc → pA
open Go.Proofs.YtbkighlfgaifeaaW.PrintWords.Kd renaming R_alloc → kA, R_drewN → kN, R_drew → kD, Q_alloc → qA, Q_drewN → qN, Q_drew → qD, C_alloc → cA, C_drewN → cN, C_drew → cD
open Go.Proofs.YtbkighlfgaifeaaW.PrintWords.Aside0 renaming mk → aM
open List renaming setIfInBounds_toArray → sI, set_cons_zero → s0, set_cons_succ → sS, map_toArray → mT, length_take → lT, length_drop → lD, map_cons → mC, map_nil → mN
attribute [local go_sem] max2_int min2_int max_two min_two max_three min_three max_four min_four
set_option maxHeartbeats 8000000
set_option maxRecDepth 100000
set_option linter.unusedVariables false
set_option linter.unusedSimpArgs false
mutual
def impl_AreLevelWires.j0 : Nat → List (List Int) → Int → Bool → Option (Bool)
 | 0, _, _, _ => none
 | k + 1, x0, x1, x17 => if x17 = true then (some false) else (impl_AreLevelWires.l0 k x1 x0 (x0.length : Int) 0)
def impl_AreLevelWires.l0 : Nat → Int → List (List Int) → Int → Int → Option (Bool)
 | 0, _, _, _, _ => none
 | k + 1, x1, x18, x19, x20 => if x20 < x19 then (if 0 ≤ x20 then (if x20 < (x18.length : Int) then (if ((rd_L2 x18 x20).length : Int) = 2 then (if 0 < ((rd_L2 x18 x20).length : Int) then (if (rd (rd_L2 x18 x20) 0) < 0 then (some false) else (if (rd (rd_L2 x18 x20) 0) > 29 then (some false) else (if 1 < ((rd_L2 x18 x20).length : Int) then (if (rd (rd_L2 x18 x20) 1) < 0 then (some false) else (if (rd (rd_L2 x18 x20) 1) ≥ x1 then (some false) else (impl_AreLevelWires.l0 k x1 x18 x19 (wrap64 (x20 + 1))))) else (none)))) else (none)) else (some false)) else (none)) else (none)) else (some true)
end
def impl_AreLevelWires.f (k : Nat) (l0 : List (List Int)) (a1 : Int) : Option (Bool) := if a1 < 1 then (impl_AreLevelWires.j0 k l0 a1 true) else (if a1 > 7 then (impl_AreLevelWires.j0 k l0 a1 true) else (impl_AreLevelWires.j0 k l0 a1 (decide ((l0.length : Int) > 30))))
theorem impl_AreLevelWires.calls (k : Nat) (A0 : Option Addr) (c0 : Nat) (l0 : List (List Int)) (a1 : Int) (r : Bool) (w : World) (hr0 : Kd.C (Kd.slice 3 (Kd.int .i64)) w A0 l0.length l0) (hc0 : l0.length ≤ c0) (h : impl_AreLevelWires.f k l0 a1 = some r) :
  Calls Try.prog 69 #[.slice A0 l0.length c0, .int .i64 a1] w fun e w' => e = .returned (.bool r) ∧ Drawn0 w w' := by
 have HR0 := aM hr0
 have HC0 := aM hc0
 clear hr0 hc0
 have H : (if a1 < 1 then (impl_AreLevelWires.j0 k l0 a1 true) else (if a1 > 7 then (impl_AreLevelWires.j0 k l0 a1 true) else (impl_AreLevelWires.j0 k l0 a1 (decide ((l0.length : Int) > 30))))) = some r := h
 clear h
 have HC3 := aM H
 clear H
 go_enter Try.func69, Try.ntmps69
 go_upto_region 1 with (fail)
 go_cut [17] (fun v17 wc => ∃ (kq : Nat) (x17_2 : Bool), v17 = .bool x17_2 ∧ Aside0 (impl_AreLevelWires.j0 kq l0 a1 x17_2 = some r) ∧ Aside0 (kq ≤ k) ∧ Drawn0 w wc)
 case first =>
  have H := HC3.out; clear HC3
  by_cases c4 : a1 < 1
  ·rw [if_pos c4] at H
   have c4b0 := decide_eq_true c4; clear c4; (first | rw [c4b0] | (simp only [i64_w, i32_w]; rw [c4b0]) | skip); have H' := aM H; clear H
   go_wp2
   go_meet
   case rel => exact ⟨_, (true), zb_, H', ⟨zbf_⟩, zf_⟩
  ·rw [if_neg c4] at H
   have c4b0 := decide_eq_false c4; clear c4; (first | rw [c4b0] | (simp only [i64_w, i32_w]; rw [c4b0]) | skip)
   by_cases c5 : a1 > 7
   ·rw [if_pos c5] at H
    have c5b0 : decide (7 < a1) = true := decide_eq_true c5; clear c5; have H' := aM H; clear H
    go_wp2
    go_meet
    case rel => exact ⟨_, (true), zb_, H', ⟨zbf_⟩, zf_⟩
   ·rw [if_neg c5] at H
    have c5b0 : decide (7 < a1) = false := decide_eq_false c5; clear c5; have H' := aM H; clear H
    go_wp2
    go_meet
    case rel => exact ⟨_, (decide ((l0.length : Int) > 30)), zb_, H', ⟨zbf_⟩, zf_⟩
 case rest =>
  clear HC3; obtain ⟨kq, x17_2, rfl, HA, HJ2, ⟨mc2, rfl⟩⟩ := hcut
  cases kq with
  | zero => exact absurd HA.out (by simp [impl_AreLevelWires.j0])
  | succ kj2 =>
   have H := HA.out; clear HA
   simp only [impl_AreLevelWires.j0] at H
   by_cases c6 : x17_2 = true
   ·subst c6
    have H1 : (some false) = some r := by rw [if_pos rfl] at H; exact H
    clear H; have H := H1; clear H1; obtain rfl := Option.some.inj H
    go_wp2
    go_ret
    exact ⟨zb_, zf_⟩
   ·replace c6 := Bool.eq_false_iff.mpr c6
    subst c6; have H1 : (impl_AreLevelWires.l0 kj2 a1 l0 (l0.length : Int) 0) = some r := by rw [if_neg (show ¬ (false = true) by decide)] at H; exact H
    clear H; have H := H1; clear H1; have H' := aM H; clear H
    go_wp2
    go_loopg [20] kj2 (fun kq v20 w' => ∃ (x20_2 : Int), v20 = .int .i64 x20_2 ∧ Aside0 (impl_AreLevelWires.l0 kq a1 l0 (l0.length : Int) x20_2 = some r) ∧ Aside0 (kq ≤ kj2) ∧ Drawn0 w w')
    case atStart => exact ⟨(0), zb_, H', ⟨Nat.le_refl _⟩, zf_⟩
    case round =>
     clear H'; obtain ⟨x20_2, rfl, HA, HK2, ⟨m2, rfl⟩⟩ := hrel
     cases gk with
     | zero => exact absurd HA.out (by simp [impl_AreLevelWires.l0])
     | succ k2 =>
      have H := HA.out; clear HA
      simp only [impl_AreLevelWires.l0] at H
      by_cases c7 : x20_2 < (l0.length : Int)
      ·rw [if_pos c7] at H
       have c7b0 := decide_eq_true c7; clear c7
       by_cases c8 : 0 ≤ x20_2
       ·rw [if_pos c8] at H
        have c8b0 := decide_eq_true c8; clear c8
        by_cases c9 : x20_2 < (l0.length : Int)
        ·rw [if_pos c9] at H
         have c9b0 := decide_eq_true c9; clear c9
         by_cases c10 : ((rd_L2 l0 x20_2).length : Int) = 2
         ·rw [if_pos c10] at H
          have c10b0 := beq_iff_eq.mpr c10; have c10b1 := bne_eq_false_iff_eq.mpr c10; clear c10
          by_cases c11 : 0 < ((rd_L2 l0 x20_2).length : Int)
          ·rw [if_pos c11] at H
           have c11b0 := decide_eq_true c11; have c11b1 : decide (0 < (rd_L2 l0 x20_2).length) = true := decide_eq_true (by omega); clear c11
           by_cases c12 : (rd (rd_L2 l0 x20_2) 0) < 0
           ·rw [if_pos c12] at H
            have c12b0 := decide_eq_true c12; clear c12; obtain rfl := Option.some.inj H; have p131 : 0 ≤ (x20_2 : Int) := of_decide_eq_true za_; have q131 : x20_2 < (l0.length : Int) := of_decide_eq_true za_; obtain ⟨ad131, A131_0, c131_0, e131, hx131_0, hl131_0, hi131_0⟩ := at_L2 HR0.out x20_2 p131 q131
            cases e131
            have HR131_0 := aM hi131_0; have HC131_0 := aM hl131_0; clear hi131_0 hl131_0; replace p131 := eq_true p131; replace q131 := eq_true q131; have p132 : 0 ≤ (0 : Int) := (by omega); have q132 : 0 < ((rd_L2 l0 x20_2).length : Int) := of_decide_eq_true za_; obtain ⟨ad132, e132, hx132_0⟩ := Kd.at_int HR131_0.out 0 p132 q132
            cases e132
            have qi132 : (0 < (rd_L2 l0 x20_2).length) = True := eq_true (by omega); (try rw [show ((0 : Int)).toNat = 0 from rfl] at hx132_0); (try rw [Addr.add_zero'] at hx132_0); replace p132 := eq_true p132; replace q132 := eq_true q132
            go_wp2
            go_ret
            exact ⟨zb_, zf_⟩
           ·rw [if_neg c12] at H
            have c12b0 := decide_eq_false c12; clear c12
            by_cases c13 : (rd (rd_L2 l0 x20_2) 0) > 29
            ·rw [if_pos c13] at H
             have c13b0 : decide (29 < (rd (rd_L2 l0 x20_2) 0)) = true := decide_eq_true c13; clear c13; obtain rfl := Option.some.inj H; have p131 : 0 ≤ (x20_2 : Int) := of_decide_eq_true za_; have q131 : x20_2 < (l0.length : Int) := of_decide_eq_true za_; obtain ⟨ad131, A131_0, c131_0, e131, hx131_0, hl131_0, hi131_0⟩ := at_L2 HR0.out x20_2 p131 q131
             cases e131
             have HR131_0 := aM hi131_0; have HC131_0 := aM hl131_0; clear hi131_0 hl131_0; replace p131 := eq_true p131; replace q131 := eq_true q131; have p132 : 0 ≤ (0 : Int) := (by omega); have q132 : 0 < ((rd_L2 l0 x20_2).length : Int) := of_decide_eq_true za_; obtain ⟨ad132, e132, hx132_0⟩ := Kd.at_int HR131_0.out 0 p132 q132
             cases e132
             have qi132 : (0 < (rd_L2 l0 x20_2).length) = True := eq_true (by omega); (try rw [show ((0 : Int)).toNat = 0 from rfl] at hx132_0); (try rw [Addr.add_zero'] at hx132_0); replace p132 := eq_true p132; replace q132 := eq_true q132; have p133 : 0 ≤ (0 : Int) := (by omega); have q133 : 0 < ((rd_L2 l0 x20_2).length : Int) := of_decide_eq_true za_; obtain ⟨ad133, e133, hx133_0⟩ := Kd.at_int HR131_0.out 0 p133 q133; obtain rfl : ad132 = ad133 := (by injection e133); have qi133 : (0 < (rd_L2 l0 x20_2).length) = True := eq_true (by omega); (try rw [show ((0 : Int)).toNat = 0 from rfl] at hx133_0); (try rw [Addr.add_zero'] at hx133_0); replace p133 := eq_true p133; replace q133 := eq_true q133
             go_wp2
             go_ret
             exact ⟨zb_, zf_⟩
            ·rw [if_neg c13] at H
             have c13b0 : decide (29 < (rd (rd_L2 l0 x20_2) 0)) = false := decide_eq_false c13; clear c13
             by_cases c14 : 1 < ((rd_L2 l0 x20_2).length : Int)
             ·rw [if_pos c14] at H
              have c14b0 := decide_eq_true c14; have c14b1 : decide (1 < (rd_L2 l0 x20_2).length) = true := decide_eq_true (by omega); clear c14
              by_cases c15 : (rd (rd_L2 l0 x20_2) 1) < 0
              ·rw [if_pos c15] at H
               have c15b0 := decide_eq_true c15; clear c15; obtain rfl := Option.some.inj H; have p131 : 0 ≤ (x20_2 : Int) := of_decide_eq_true za_; have q131 : x20_2 < (l0.length : Int) := of_decide_eq_true za_; obtain ⟨ad131, A131_0, c131_0, e131, hx131_0, hl131_0, hi131_0⟩ := at_L2 HR0.out x20_2 p131 q131
               cases e131
               have HR131_0 := aM hi131_0; have HC131_0 := aM hl131_0; clear hi131_0 hl131_0; replace p131 := eq_true p131; replace q131 := eq_true q131; have p132 : 0 ≤ (0 : Int) := (by omega); have q132 : 0 < ((rd_L2 l0 x20_2).length : Int) := of_decide_eq_true za_; obtain ⟨ad132, e132, hx132_0⟩ := Kd.at_int HR131_0.out 0 p132 q132
               cases e132
               have qi132 : (0 < (rd_L2 l0 x20_2).length) = True := eq_true (by omega); (try rw [show ((0 : Int)).toNat = 0 from rfl] at hx132_0); (try rw [Addr.add_zero'] at hx132_0); replace p132 := eq_true p132; replace q132 := eq_true q132; have p133 : 0 ≤ (0 : Int) := (by omega); have q133 : 0 < ((rd_L2 l0 x20_2).length : Int) := of_decide_eq_true za_; obtain ⟨ad133, e133, hx133_0⟩ := Kd.at_int HR131_0.out 0 p133 q133; obtain rfl : ad132 = ad133 := (by injection e133); have qi133 : (0 < (rd_L2 l0 x20_2).length) = True := eq_true (by omega); (try rw [show ((0 : Int)).toNat = 0 from rfl] at hx133_0); (try rw [Addr.add_zero'] at hx133_0); replace p133 := eq_true p133; replace q133 := eq_true q133; have p134 : 0 ≤ (1 : Int) := (by omega); have q134 : 1 < ((rd_L2 l0 x20_2).length : Int) := of_decide_eq_true za_; obtain ⟨ad134, e134, hx134_0⟩ := Kd.at_int HR131_0.out 1 p134 q134; obtain rfl : ad132 = ad134 := (by injection e134); (try simp only [show (1 : Int).toNat = 1 from rfl, Nat.reduceMul, Nat.reduceEqDiff, Go.Addr.add, ↓reduceIte] at hx134_0); have qi134 : (1 < (rd_L2 l0 x20_2).length) = True := eq_true (by omega); (try rw [show ((1 : Int)).toNat = 1 from rfl] at hx134_0); replace p134 := eq_true p134; replace q134 := eq_true q134
               go_wp2
               go_ret
               exact ⟨zb_, zf_⟩
              ·rw [if_neg c15] at H
               have c15b0 := decide_eq_false c15; clear c15
               by_cases c16 : (rd (rd_L2 l0 x20_2) 1) ≥ a1
               ·rw [if_pos c16] at H
                have c16b0 : decide (a1 ≤ (rd (rd_L2 l0 x20_2) 1)) = true := decide_eq_true c16; clear c16; obtain rfl := Option.some.inj H; have p131 : 0 ≤ (x20_2 : Int) := of_decide_eq_true za_; have q131 : x20_2 < (l0.length : Int) := of_decide_eq_true za_; obtain ⟨ad131, A131_0, c131_0, e131, hx131_0, hl131_0, hi131_0⟩ := at_L2 HR0.out x20_2 p131 q131
                cases e131
                have HR131_0 := aM hi131_0; have HC131_0 := aM hl131_0; clear hi131_0 hl131_0; replace p131 := eq_true p131; replace q131 := eq_true q131; have p132 : 0 ≤ (0 : Int) := (by omega); have q132 : 0 < ((rd_L2 l0 x20_2).length : Int) := of_decide_eq_true za_; obtain ⟨ad132, e132, hx132_0⟩ := Kd.at_int HR131_0.out 0 p132 q132
                cases e132
                have qi132 : (0 < (rd_L2 l0 x20_2).length) = True := eq_true (by omega); (try rw [show ((0 : Int)).toNat = 0 from rfl] at hx132_0); (try rw [Addr.add_zero'] at hx132_0); replace p132 := eq_true p132; replace q132 := eq_true q132; have p133 : 0 ≤ (0 : Int) := (by omega); have q133 : 0 < ((rd_L2 l0 x20_2).length : Int) := of_decide_eq_true za_; obtain ⟨ad133, e133, hx133_0⟩ := Kd.at_int HR131_0.out 0 p133 q133; obtain rfl : ad132 = ad133 := (by injection e133); have qi133 : (0 < (rd_L2 l0 x20_2).length) = True := eq_true (by omega); (try rw [show ((0 : Int)).toNat = 0 from rfl] at hx133_0); (try rw [Addr.add_zero'] at hx133_0); replace p133 := eq_true p133; replace q133 := eq_true q133; have p134 : 0 ≤ (1 : Int) := (by omega); have q134 : 1 < ((rd_L2 l0 x20_2).length : Int) := of_decide_eq_true za_; obtain ⟨ad134, e134, hx134_0⟩ := Kd.at_int HR131_0.out 1 p134 q134; obtain rfl : ad132 = ad134 := (by injection e134); (try simp only [show (1 : Int).toNat = 1 from rfl, Nat.reduceMul, Nat.reduceEqDiff, Go.Addr.add, ↓reduceIte] at hx134_0); have qi134 : (1 < (rd_L2 l0 x20_2).length) = True := eq_true (by omega); (try rw [show ((1 : Int)).toNat = 1 from rfl] at hx134_0); replace p134 := eq_true p134; replace q134 := eq_true q134; have p135 : 0 ≤ (1 : Int) := (by omega); have q135 : 1 < ((rd_L2 l0 x20_2).length : Int) := of_decide_eq_true za_; obtain ⟨ad135, e135, hx135_0⟩ := Kd.at_int HR131_0.out 1 p135 q135; obtain rfl : ad132 = ad135 := (by injection e135); (try simp only [show (1 : Int).toNat = 1 from rfl, Nat.reduceMul, Nat.reduceEqDiff, Go.Addr.add, ↓reduceIte] at hx135_0); have qi135 : (1 < (rd_L2 l0 x20_2).length) = True := eq_true (by omega); (try rw [show ((1 : Int)).toNat = 1 from rfl] at hx135_0); replace p135 := eq_true p135; replace q135 := eq_true q135
                go_wp2
                go_ret
                exact ⟨zb_, zf_⟩
               ·rw [if_neg c16] at H
                have c16b0 : decide (a1 ≤ (rd (rd_L2 l0 x20_2) 1)) = false := decide_eq_false c16; clear c16; have H' := aM H; clear H; have p131 : 0 ≤ (x20_2 : Int) := of_decide_eq_true za_; have q131 : x20_2 < (l0.length : Int) := of_decide_eq_true za_; obtain ⟨ad131, A131_0, c131_0, e131, hx131_0, hl131_0, hi131_0⟩ := at_L2 HR0.out x20_2 p131 q131
                cases e131
                have HR131_0 := aM hi131_0; have HC131_0 := aM hl131_0; clear hi131_0 hl131_0; replace p131 := eq_true p131; replace q131 := eq_true q131; have p132 : 0 ≤ (0 : Int) := (by omega); have q132 : 0 < ((rd_L2 l0 x20_2).length : Int) := of_decide_eq_true za_; obtain ⟨ad132, e132, hx132_0⟩ := Kd.at_int HR131_0.out 0 p132 q132
                cases e132
                have qi132 : (0 < (rd_L2 l0 x20_2).length) = True := eq_true (by omega); (try rw [show ((0 : Int)).toNat = 0 from rfl] at hx132_0); (try rw [Addr.add_zero'] at hx132_0); replace p132 := eq_true p132; replace q132 := eq_true q132; have p133 : 0 ≤ (0 : Int) := (by omega); have q133 : 0 < ((rd_L2 l0 x20_2).length : Int) := of_decide_eq_true za_; obtain ⟨ad133, e133, hx133_0⟩ := Kd.at_int HR131_0.out 0 p133 q133; obtain rfl : ad132 = ad133 := (by injection e133); have qi133 : (0 < (rd_L2 l0 x20_2).length) = True := eq_true (by omega); (try rw [show ((0 : Int)).toNat = 0 from rfl] at hx133_0); (try rw [Addr.add_zero'] at hx133_0); replace p133 := eq_true p133; replace q133 := eq_true q133; have p134 : 0 ≤ (1 : Int) := (by omega); have q134 : 1 < ((rd_L2 l0 x20_2).length : Int) := of_decide_eq_true za_; obtain ⟨ad134, e134, hx134_0⟩ := Kd.at_int HR131_0.out 1 p134 q134; obtain rfl : ad132 = ad134 := (by injection e134); (try simp only [show (1 : Int).toNat = 1 from rfl, Nat.reduceMul, Nat.reduceEqDiff, Go.Addr.add, ↓reduceIte] at hx134_0); have qi134 : (1 < (rd_L2 l0 x20_2).length) = True := eq_true (by omega); (try rw [show ((1 : Int)).toNat = 1 from rfl] at hx134_0); replace p134 := eq_true p134; replace q134 := eq_true q134; have p135 : 0 ≤ (1 : Int) := (by omega); have q135 : 1 < ((rd_L2 l0 x20_2).length : Int) := of_decide_eq_true za_; obtain ⟨ad135, e135, hx135_0⟩ := Kd.at_int HR131_0.out 1 p135 q135; obtain rfl : ad132 = ad135 := (by injection e135); (try simp only [show (1 : Int).toNat = 1 from rfl, Nat.reduceMul, Nat.reduceEqDiff, Go.Addr.add, ↓reduceIte] at hx135_0); have qi135 : (1 < (rd_L2 l0 x20_2).length) = True := eq_true (by omega); (try rw [show ((1 : Int)).toNat = 1 from rfl] at hx135_0); replace p135 := eq_true p135; replace q135 := eq_true q135
                go_wp2
                go_roundg k2
                case measure => have := HJ2.out; have := HK2.out; omega
                case rel => exact ⟨(wrap64 (x20_2 + 1)), zb_, H', ⟨by have := HJ2.out; have := HK2.out; omega⟩, zf_⟩
             ·rw [if_neg c14] at H
              exact absurd H (by simp)
          ·rw [if_neg c11] at H
           exact absurd H (by simp)
         ·rw [if_neg c10] at H
          have c10b0 := beq_eq_false_iff_ne.mpr c10; have c10b1 := bne_iff_ne.mpr c10; obtain rfl := Option.some.inj H; have p131 : 0 ≤ (x20_2 : Int) := of_decide_eq_true za_; have q131 : x20_2 < (l0.length : Int) := of_decide_eq_true za_; obtain ⟨ad131, A131_0, c131_0, e131, hx131_0, hl131_0, hi131_0⟩ := at_L2 HR0.out x20_2 p131 q131
          cases e131
          have HR131_0 := aM hi131_0; have HC131_0 := aM hl131_0; clear hi131_0 hl131_0; replace p131 := eq_true p131; replace q131 := eq_true q131
          go_wp2
          go_ret
          exact ⟨zb_, zf_⟩
        ·rw [if_neg c9] at H
         exact absurd H (by simp)
       ·rw [if_neg c8] at H
        exact absurd H (by simp)
      ·rw [if_neg c7] at H
       have c7b0 := decide_eq_false c7; clear c7; obtain rfl := Option.some.inj H
       go_wp2
       go_ret
       exact ⟨zb_, zf_⟩
end Go.Proofs.Ytbkighlfgaifeaa.QFnCrossings
