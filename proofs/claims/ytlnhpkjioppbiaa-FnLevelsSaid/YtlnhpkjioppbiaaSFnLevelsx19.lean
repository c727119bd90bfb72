/- Functions of FnLevels, each as a Lean function, with the proof that the Go code comes to its answers. -/
import Derived.Test.YtlnhpkjioppbiaaSFnLevelsx1
import Derived.Test.YtlnhpkjioppbiaaSFnLevelsx15
import Derived.Test.YtlnhpkjioppbiaaSFnLevelsx11
import Derived.Test.YtlnhpkjioppbiaaSFnLevelsx13
namespace Go.Proofs.Ytlnhpkjioppbiaa.QFnLevels
open Go.RowKit Go.Proofs.YtlnhpkjioppbiaaW.PrintWords Go.Proofs.YtlnhpkjioppbiaaW.PrintLast Go.Proofs.YtlnhpkjioppbiaaW.PrintMore
open Go.Proofs.YtlnhpkjioppbiaaW.PrintWords renaming pw_below_drewN → pN, below_drew1 → p1, below_alloc → pA
open Go.Proofs.YtlnhpkjioppbiaaW.PrintWords.Kd renaming R_alloc → kA, R_drewN → kN, R_drew → kD, Q_alloc → qA, Q_drewN → qN, Q_drew → qD, C_alloc → cA, C_drewN → cN, C_drew → cD
open Go.Proofs.YtlnhpkjioppbiaaW.PrintWords.Aside0 renaming mk → aM
open List renaming setIfInBounds_toArray → sI, set_cons_zero → s0, set_cons_succ → sS, map_toArray → mT, length_take → lT, length_drop → lD, map_cons → mC, map_nil → mN
open Option renaming bind_eq_some_iff → oB, bind_some → oS
attribute [local go_sem] max2_int min2_int max_two min_two max_three min_three max_four min_four
set_option maxHeartbeats 8000000
set_option maxRecDepth 100000
set_option linter.unusedVariables false
set_option linter.unusedSimpArgs false
mutual
def spec_plCount.l0 : Nat → List (List Int) → Int → List (List Int) → Int → Int → Option (Int)
 | 0, _, _, _, _, _ => none
 | k + 1, x0, x3, x8, x9, x10 => if x10 < x9 then (if 0 ≤ x10 then (if x10 < (x8.length : Int) then (if x10 ≤ (x0.length : Int) then ((some (x0.take (x10 : Int).toNat : List (List Int))).bind fun y338 => (spec_plCount.l1 k x0 x3 (rd_L4 x8 x10) x8 x9 x10 y338 (y338.length : Int) 0)) else (none)) else (none)) else (none)) else (some x3)
def spec_plCount.l1 : Nat → List (List Int) → Int → List Int → List (List Int) → Int → Int → List (List Int) → Int → Int → Option (Int)
 | 0, _, _, _, _, _, _, _, _, _ => none
 | k + 1, x0, x3, x5, x8, x9, x10, x17, x18, x19 => if x19 < x18 then (if 0 ≤ x19 then (if x19 < (x17.length : Int) then (if 0 < (x5.length : Int) then (if 0 < ((rd_L4 x17 x19).length : Int) then (if 1 < (x5.length : Int) then (if 1 < ((rd_L4 x17 x19).length : Int) then (if (wrap64 ((wrap64 ((rd x5 0) - (rd (rd_L4 x17 x19) 0))) * (wrap64 ((rd x5 1) - (rd (rd_L4 x17 x19) 1))))) < 0 then (spec_plCount.l1 k x0 (wrap64 (x3 + 1)) x5 x8 x9 x10 x17 x18 (wrap64 (x19 + 1))) else (spec_plCount.l1 k x0 x3 x5 x8 x9 x10 x17 x18 (wrap64 (x19 + 1)))) else (none)) else (none)) else (none)) else (none)) else (none)) else (none)) else (spec_plCount.l0 k x0 x3 x8 x9 (wrap64 (x10 + 1)))
end
def spec_plCount.f (k : Nat) (l0 : List (List Int)) : Option (Int) := spec_plCount.l0 k l0 0 l0 (l0.length : Int) 0
theorem spec_plCount.calls (k : Nat) (A0 : Option Addr) (c0 : Nat) (l0 : List (List Int)) (r : Int) (w : World) (hr0 : Kd.C (Kd.slice 3 (Kd.int .i64)) w A0 l0.length l0) (hc0 : l0.length ≤ c0) (h : spec_plCount.f k l0 = some r) :
  Calls Try.prog 93 #[.slice A0 l0.length c0] w fun e w' => e = .returned (.int .i64 r) ∧ Drawn0 w w' := by
 have HR0 := aM hr0
 have HC0 := aM hc0
 clear hr0 hc0
 have H : (spec_plCount.l0 k l0 0 l0 (l0.length : Int) 0) = some r := h
 clear h
 have H' := aM H
 clear H
 go_enter Try.func93, Try.ntmps93
 go_wp2
 repeat (go_quiet (fail); try go_wp2)
 go_loopg [3, 10] k (fun kq v3 v10 w' => ∃ (x3_1 : Int) (x10_1 : Int), v3 = .int .i64 x3_1 ∧ v10 = .int .i64 x10_1 ∧ Aside0 (spec_plCount.l0 kq l0 x3_1 l0 (l0.length : Int) x10_1 = some r) ∧ Aside0 (kq ≤ k) ∧ Drawn0 w w')
 case atStart => exact ⟨(0), (0), zc_, zc_, H', ⟨Nat.le_refl _⟩, zg_⟩
 case round =>
  clear H'; obtain ⟨x3_1, x10_1, rfl, rfl, HA, HK1, ⟨m1, rfl⟩⟩ := hrel
  cases gk with
  | zero => exact absurd HA.out (by simp [spec_plCount.l0])
  | succ k1 =>
   have H := HA.out; clear HA
   simp only [spec_plCount.l0] at H
   by_cases c2 : x10_1 < (l0.length : Int)
   ·rw [if_pos c2] at H
    have c2b0 := decide_eq_true c2; clear c2
    by_cases c3 : 0 ≤ x10_1
    ·rw [if_pos c3] at H
     have c3b0 := decide_eq_true c3; clear c3
     by_cases c4 : x10_1 < (l0.length : Int)
     ·rw [if_pos c4] at H
      have c4b0 := decide_eq_true c4; clear c4; have c5b0 := eq_true (of_decide_eq_true za_ : 0 ≤ x10_1)
      by_cases c6 : x10_1 ≤ (l0.length : Int)
      ·rw [if_pos c6] at H
       have c6b0 := eq_true c6; have c6b1 := decide_eq_true c6; clear c6; obtain ⟨y338, hy338⟩ : ∃ y_ : List (List Int), y_ = (l0.take (x10_1 : Int).toNat) := ⟨_, rfl⟩; replace H : (spec_plCount.l1 k1 l0 x3_1 (rd_L4 l0 x10_1) l0 (l0.length : Int) x10_1 y338 (y338.length : Int) 0) = some r := q3y_ hy338 H
       have Ny338 := aM hy338; clear hy338; have H' := aM H; clear H; have p337 : 0 ≤ (x10_1 : Int) := of_decide_eq_true za_; have q337 : x10_1 < (l0.length : Int) := of_decide_eq_true za_; obtain ⟨ad337, A337_0, c337_0, e337, hx337_0, hl337_0, hi337_0⟩ := at_L4 HR0.out x10_1 p337 q337
       cases e337
       have HR337_0 := aM hi337_0; have HC337_0 := aM hl337_0; clear hi337_0 hl337_0; replace p337 := eq_true p337; replace q337 := eq_true q337; have q7 : (x10_1 : Int) ≤ ((l0.length : Int) : Int) := of_decide_eq_true za_; obtain ⟨i07, hi07, _, hsz7, _⟩ := info_parts info39; have hroom7 : l0.length ≤ c0 := HC0.out; have hC7 : Kd.C (Kd.slice 3 (Kd.int .i64)) _ (some ad337) l0.length l0 := HR0.out; have hcut7 := cut_to (P := Try.prog) 63 39 .i64 Try.underlying63 hi07 (some ad337) l0.length c0 x10_1 (of_decide_eq_true za_) q7 hroom7; have hr7 := Kd.C_take (m := (x10_1 : Int).toNat) hC7 (by omega); have hy7 : y338.length = (x10_1 : Int).toNat := (by rw [Ny338.out, lT]; omega); rw [← Ny338.out] at hr7; rw [← hy7] at hcut7; have HR341 := aM hr7; have HC341 := aM (show y338.length ≤ c0 from by omega); clear hr7 hC7 hroom7 hi07 hsz7; have KY7 := aM hy7; clear hy7; replace q7 := eq_true q7
       go_wp2
       repeat (go_quiet (fail); try go_wp2)
       go_loopg [3, 19] k1 (fun kq v3 v19 w' => ∃ (x3_2 : Int) (x19_2 : Int), v3 = .int .i64 x3_2 ∧ v19 = .int .i64 x19_2 ∧ Aside0 (spec_plCount.l1 kq l0 x3_2 (rd_L4 l0 x10_1) l0 (l0.length : Int) x10_1 y338 (y338.length : Int) x19_2 = some r) ∧ Aside0 (kq ≤ k1) ∧ Drawn0 w w')
       case atStart => exact ⟨(x3_1), (0), zc_, zc_, H', ⟨Nat.le_refl _⟩, zg_⟩
       case round =>
        clear H'; (try clear c2b0); (try clear c3b0); (try clear c4b0); (try clear c5b0); (try clear c6b0); (try clear c6b1); (try clear q7); (try clear hx337_0); (try clear p337); (try clear q337); obtain ⟨x3_2, x19_2, rfl, rfl, HA, HK2, ⟨m2, rfl⟩⟩ := hrel
        cases gk with
        | zero => exact absurd HA.out (by simp [spec_plCount.l1])
        | succ k2 =>
         have H := HA.out; clear HA
         simp only [spec_plCount.l1] at H
         by_cases c8 : x19_2 < (y338.length : Int)
         ·rw [if_pos c8] at H
          have c8b0 := decide_eq_true c8; clear c8
          by_cases c9 : 0 ≤ x19_2
          ·rw [if_pos c9] at H
           have c9b0 := decide_eq_true c9; clear c9
           by_cases c10 : x19_2 < (y338.length : Int)
           ·rw [if_pos c10] at H
            have c10b0 := decide_eq_true c10; clear c10
            by_cases c11 : 0 < ((rd_L4 l0 x10_1).length : Int)
            ·rw [if_pos c11] at H
             have c11b0 := decide_eq_true c11; have c11b1 : decide (0 < (rd_L4 l0 x10_1).length) = true := decide_eq_true (by omega); clear c11
             by_cases c12 : 0 < ((rd_L4 y338 x19_2).length : Int)
             ·rw [if_pos c12] at H
              have c12b0 := decide_eq_true c12; have c12b1 : decide (0 < (rd_L4 y338 x19_2).length) = true := decide_eq_true (by omega); clear c12
              by_cases c13 : 1 < ((rd_L4 l0 x10_1).length : Int)
              ·rw [if_pos c13] at H
               have c13b0 := decide_eq_true c13; have c13b1 : decide (1 < (rd_L4 l0 x10_1).length) = true := decide_eq_true (by omega); clear c13
               by_cases c14 : 1 < ((rd_L4 y338 x19_2).length : Int)
               ·rw [if_pos c14] at H
                have c14b0 := decide_eq_true c14; have c14b1 : decide (1 < (rd_L4 y338 x19_2).length) = true := decide_eq_true (by omega); clear c14
                by_cases c15 : (wrap64 ((wrap64 ((rd (rd_L4 l0 x10_1) 0) - (rd (rd_L4 y338 x19_2) 0))) * (wrap64 ((rd (rd_L4 l0 x10_1) 1) - (rd (rd_L4 y338 x19_2) 1))))) < 0
                ·rw [if_pos c15] at H
                 have c15b0 := decide_eq_true c15; clear c15; have H' := aM H; clear H; have p342 : 0 ≤ (x19_2 : Int) := of_decide_eq_true za_; have q342 : x19_2 < (y338.length : Int) := of_decide_eq_true za_; obtain ⟨ad342, A342_0, c342_0, e342, hx342_0, hl342_0, hi342_0⟩ := at_L4 HR341.out x19_2 p342 q342; obtain rfl : ad337 = ad342 := (by injection e342); have HR342_0 := aM hi342_0; have HC342_0 := aM hl342_0; clear hi342_0 hl342_0; replace p342 := eq_true p342; replace q342 := eq_true q342; have p343 : 0 ≤ (0 : Int) := (by omega); have q343 : 0 < ((rd_L4 l0 x10_1).length : Int) := of_decide_eq_true za_; obtain ⟨ad343, e343, hx343_0⟩ := Kd.at_int HR337_0.out 0 p343 q343
                 cases e343
                 have qi343 : (0 < (rd_L4 l0 x10_1).length) = True := eq_true (by omega); (try rw [show ((0 : Int)).toNat = 0 from rfl] at hx343_0); (try rw [Addr.add_zero'] at hx343_0); replace p343 := eq_true p343; replace q343 := eq_true q343; have p344 : 0 ≤ (0 : Int) := (by omega); have q344 : 0 < ((rd_L4 y338 x19_2).length : Int) := of_decide_eq_true za_; obtain ⟨ad344, e344, hx344_0⟩ := Kd.at_int HR342_0.out 0 p344 q344
                 cases e344
                 have qi344 : (0 < (rd_L4 y338 x19_2).length) = True := eq_true (by omega); (try rw [show ((0 : Int)).toNat = 0 from rfl] at hx344_0); (try rw [Addr.add_zero'] at hx344_0); replace p344 := eq_true p344; replace q344 := eq_true q344; have p345 : 0 ≤ (1 : Int) := (by omega); have q345 : 1 < ((rd_L4 l0 x10_1).length : Int) := of_decide_eq_true za_; obtain ⟨ad345, e345, hx345_0⟩ := Kd.at_int HR337_0.out 1 p345 q345; obtain rfl : ad343 = ad345 := (by injection e345); (try simp only [show (1 : Int).toNat = 1 from rfl, Nat.reduceMul, Nat.reduceEqDiff, Go.Addr.add, ↓reduceIte] at hx345_0); have qi345 : (1 < (rd_L4 l0 x10_1).length) = True := eq_true (by omega); (try rw [show ((1 : Int)).toNat = 1 from rfl] at hx345_0); replace p345 := eq_true p345; replace q345 := eq_true q345; have p346 : 0 ≤ (1 : Int) := (by omega); have q346 : 1 < ((rd_L4 y338 x19_2).length : Int) := of_decide_eq_true za_; obtain ⟨ad346, e346, hx346_0⟩ := Kd.at_int HR342_0.out 1 p346 q346; obtain rfl : ad344 = ad346 := (by injection e346); (try simp only [show (1 : Int).toNat = 1 from rfl, Nat.reduceMul, Nat.reduceEqDiff, Go.Addr.add, ↓reduceIte] at hx346_0); have qi346 : (1 < (rd_L4 y338 x19_2).length) = True := eq_true (by omega); (try rw [show ((1 : Int)).toNat = 1 from rfl] at hx346_0); replace p346 := eq_true p346; replace q346 := eq_true q346
                 go_wp2
                 repeat (go_quiet (fail); try go_wp2)
                 go_roundg k2
                 case measure => have := HK1.out; have := HK2.out; omega
                 case rel => exact ⟨(wrap64 (x3_2 + 1)), (wrap64 (x19_2 + 1)), zc_, zc_, H', ⟨zbh_⟩, zg_⟩
                ·rw [if_neg c15] at H
                 have c15b0 := decide_eq_false c15; clear c15; have H' := aM H; clear H; have p342 : 0 ≤ (x19_2 : Int) := of_decide_eq_true za_; have q342 : x19_2 < (y338.length : Int) := of_decide_eq_true za_; obtain ⟨ad342, A342_0, c342_0, e342, hx342_0, hl342_0, hi342_0⟩ := at_L4 HR341.out x19_2 p342 q342; obtain rfl : ad337 = ad342 := (by injection e342); have HR342_0 := aM hi342_0; have HC342_0 := aM hl342_0; clear hi342_0 hl342_0; replace p342 := eq_true p342; replace q342 := eq_true q342; have p343 : 0 ≤ (0 : Int) := (by omega); have q343 : 0 < ((rd_L4 l0 x10_1).length : Int) := of_decide_eq_true za_; obtain ⟨ad343, e343, hx343_0⟩ := Kd.at_int HR337_0.out 0 p343 q343
                 cases e343
                 have qi343 : (0 < (rd_L4 l0 x10_1).length) = True := eq_true (by omega); (try rw [show ((0 : Int)).toNat = 0 from rfl] at hx343_0); (try rw [Addr.add_zero'] at hx343_0); replace p343 := eq_true p343; replace q343 := eq_true q343; have p344 : 0 ≤ (0 : Int) := (by omega); have q344 : 0 < ((rd_L4 y338 x19_2).length : Int) := of_decide_eq_true za_; obtain ⟨ad344, e344, hx344_0⟩ := Kd.at_int HR342_0.out 0 p344 q344
                 cases e344
                 have qi344 : (0 < (rd_L4 y338 x19_2).length) = True := eq_true (by omega); (try rw [show ((0 : Int)).toNat = 0 from rfl] at hx344_0); (try rw [Addr.add_zero'] at hx344_0); replace p344 := eq_true p344; replace q344 := eq_true q344; have p345 : 0 ≤ (1 : Int) := (by omega); have q345 : 1 < ((rd_L4 l0 x10_1).length : Int) := of_decide_eq_true za_; obtain ⟨ad345, e345, hx345_0⟩ := Kd.at_int HR337_0.out 1 p345 q345; obtain rfl : ad343 = ad345 := (by injection e345); (try simp only [show (1 : Int).toNat = 1 from rfl, Nat.reduceMul, Nat.reduceEqDiff, Go.Addr.add, ↓reduceIte] at hx345_0); have qi345 : (1 < (rd_L4 l0 x10_1).length) = True := eq_true (by omega); (try rw [show ((1 : Int)).toNat = 1 from rfl] at hx345_0); replace p345 := eq_true p345; replace q345 := eq_true q345; have p346 : 0 ≤ (1 : Int) := (by omega); have q346 : 1 < ((rd_L4 y338 x19_2).length : Int) := of_decide_eq_true za_; obtain ⟨ad346, e346, hx346_0⟩ := Kd.at_int HR342_0.out 1 p346 q346; obtain rfl : ad344 = ad346 := (by injection e346); (try simp only [show (1 : Int).toNat = 1 from rfl, Nat.reduceMul, Nat.reduceEqDiff, Go.Addr.add, ↓reduceIte] at hx346_0); have qi346 : (1 < (rd_L4 y338 x19_2).length) = True := eq_true (by omega); (try rw [show ((1 : Int)).toNat = 1 from rfl] at hx346_0); replace p346 := eq_true p346; replace q346 := eq_true q346
                 go_wp2
                 repeat (go_quiet (fail); try go_wp2)
                 go_roundg k2
                 case measure => have := HK1.out; have := HK2.out; omega
                 case rel => exact ⟨(x3_2), (wrap64 (x19_2 + 1)), zc_, zc_, H', ⟨zbh_⟩, zg_⟩
               ·rw [if_neg c14] at H
                exact q3n_ H
              ·rw [if_neg c13] at H
               exact q3n_ H
             ·rw [if_neg c12] at H
              exact q3n_ H
            ·rw [if_neg c11] at H
             exact q3n_ H
           ·rw [if_neg c10] at H
            exact q3n_ H
          ·rw [if_neg c9] at H
           exact q3n_ H
         ·rw [if_neg c8] at H
          have c8b0 := decide_eq_false c8; clear c8; have H' := aM H; clear H
          go_wp2
          repeat (go_quiet (fail); try go_wp2)
          go_roundg k2
          case measure => have := HK1.out; have := HK2.out; omega
          case rel => exact ⟨(x3_2), (wrap64 (x10_1 + 1)), zc_, zc_, H', ⟨zbh_⟩, zg_⟩
      ·rw [if_neg c6] at H
       exact q3n_ H
     ·rw [if_neg c4] at H
      exact q3n_ H
    ·rw [if_neg c3] at H
     exact q3n_ H
   ·rw [if_neg c2] at H
    have c2b0 := decide_eq_false c2; clear c2; obtain rfl := Option.some.inj H
    go_wp2
    repeat (go_quiet (fail); try go_wp2)
    go_ret
    exact ⟨zc_, zg_⟩
def spec_CountCrossings.f (k : Nat) (l0 : List (List Int)) (a1 : Int) : Option (Int × Bool) := (spec_plWires.f k l0 a1).bind fun t347 => (if t347 = true then ((spec_plCount.f k l0).bind fun t348 => (some (t348, true))) else (some (0, false)))
theorem spec_CountCrossings.calls (k : Nat) (A0 : Option Addr) (c0 : Nat) (l0 : List (List Int)) (a1 : Int) (r1 : Int) (r2 : Bool) (w : World) (hr0 : Kd.C (Kd.slice 3 (Kd.int .i64)) w A0 l0.length l0) (hc0 : l0.length ≤ c0) (h : spec_CountCrossings.f k l0 a1 = some (r1, r2)) :
  Calls Try.prog 43 #[.slice A0 l0.length c0, .int .i64 a1] w fun e w' => e = .returned (.tuple #[.int .i64 r1, .bool r2]) ∧ Drawn0 w w' := by
 have HR0 := aM hr0
 have HC0 := aM hc0
 clear hr0 hc0
 have H : ((spec_plWires.f k l0 a1).bind fun t347 => (if t347 = true then ((spec_plCount.f k l0).bind fun t348 => (some (t348, true))) else (some (0, false)))) = some (r1, r2) := h
 clear h
 replace H := oB.mp H
 obtain ⟨t347, A30, H⟩ := H
 replace H : (if t347 = true then ((spec_plCount.f k l0).bind fun t348 => (some (t348, true))) else (some (0, false))) = some (r1, r2) := H
 have A3 := aM A30
 clear A30
 by_cases c4 : t347 = true
 ·subst c4
  have H1 : ((spec_plCount.f k l0).bind fun t348 => (some (t348, true))) = some (r1, r2) := by rw [if_pos rfl] at H; exact H
  clear H; have H := H1; clear H1; replace H := oB.mp H; obtain ⟨t348, A50, H⟩ := H; replace H : (some (t348, true)) = some (r1, r2) := H; have A5 := aM A50; clear A50
  simp only [Option.some.injEq, Prod.mk.injEq] at H
  obtain ⟨rfl, rfl⟩ := H
  go_enter Try.func43, Try.ntmps43
  go_wp2_with (first | ((with_reducible refine gate_callee (f := 91) rfl ?_); refine goesL_ (some 8) rfl rfl Try.func91 (by kernel_rfl) rfl #[.slice A0 l0.length c0, .int .i64 a1] rfl zf_ ?_; (with_reducible refine (spec_plWires.calls k _ _ l0 a1 true _ ?side1 ?side2 A3.out).mono ?_); (case side1 => exact zi_); (case side2 => exact HC0.out); rintro e w' ⟨rfl, ⟨nd, rfl⟩⟩; refine ⟨_, rfl, ?_⟩) | ((with_reducible refine gate_callee (f := 93) rfl ?_); refine goesL_ (some 11) rfl rfl Try.func93 (by kernel_rfl) rfl #[.slice A0 l0.length c0] rfl zf_ ?_; (with_reducible refine (spec_plCount.calls k _ _ l0 t348 _ ?side1 ?side2 A5.out).mono ?_); (case side1 => exact zi_); (case side2 => exact HC0.out); rintro e w' ⟨rfl, ⟨nd, rfl⟩⟩; refine ⟨_, rfl, ?_⟩))
  go_ret2
  exact ⟨zc_, zg_⟩
 ·replace c4 := Bool.eq_false_iff.mpr c4
  subst c4; have H1 : (some (0, false)) = some (r1, r2) := by rw [if_neg (show ¬ (false = true) by decide)] at H; exact H
  clear H; have H := H1; clear H1
  simp only [Option.some.injEq, Prod.mk.injEq] at H
  obtain ⟨rfl, rfl⟩ := H
  go_enter Try.func43, Try.ntmps43
  go_wp2_with (first | ((with_reducible refine gate_callee (f := 91) rfl ?_); refine goesL_ (some 8) rfl rfl Try.func91 (by kernel_rfl) rfl #[.slice A0 l0.length c0, .int .i64 a1] rfl zf_ ?_; (with_reducible refine (spec_plWires.calls k _ _ l0 a1 false _ ?side1 ?side2 A3.out).mono ?_); (case side1 => exact zi_); (case side2 => exact HC0.out); rintro e w' ⟨rfl, ⟨nd, rfl⟩⟩; refine ⟨_, rfl, ?_⟩))
  go_ret2
  exact ⟨zc_, zg_⟩
def impl_placesOf.l0 : Nat → List Int → List Int → Int → Int → Option (List Int)
 | 0, _, _, _, _ => none
 | k + 1, x3, x9, x10, x11 => if x11 < x10 then (if 0 ≤ x11 then (if x11 < (x9.length : Int) then (if 0 ≤ (rd x9 x11) then (if (rd x9 x11) < (x3.length : Int) then (impl_placesOf.l0 k (x3.set ((rd x9 x11) : Int).toNat x11) x9 x10 (wrap64 (x11 + 1))) else (none)) else (none)) else (none)) else (none)) else (some x3)
def impl_placesOf.f (k : Nat) (l0 : List Int) : Option (List Int) := if 0 ≤ (l0.length : Int) then (if ((l0.length : Int) : Int).toNat ≤ 35184372088832 then (impl_placesOf.l0 k (List.replicate ((l0.length : Int) : Int).toNat 0) l0 (l0.length : Int) 0) else (none)) else (none)
theorem impl_placesOf.calls (k : Nat) (A0 : Option Addr) (c0 : Nat) (l0 : List Int) (r : List Int) (w : World) (hr0 : Kd.C (Kd.int .i64) w A0 l0.length l0) (hc0 : l0.length ≤ c0) (h : impl_placesOf.f k l0 = some r) :
  Calls Try.prog 94 #[.slice A0 l0.length c0] w fun e w' => ∃ v0_ : Value, e = .returned (v0_) ∧ Kd.R (Kd.int .i64) 3 w' w.heap.size (fun _ => True) v0_ r ∧ Below w.heap.size w w' := by
 have HR0 := aM hr0
 have HC0 := aM hc0
 clear hr0 hc0
 have HB := aM (Below.refl w.heap.size w)
 have H : (if 0 ≤ (l0.length : Int) then (if ((l0.length : Int) : Int).toNat ≤ 35184372088832 then (impl_placesOf.l0 k (List.replicate ((l0.length : Int) : Int).toNat 0) l0 (l0.length : Int) 0) else (none)) else (none)) = some r := h
 clear h
 by_cases c2 : 0 ≤ (l0.length : Int)
 ·rw [if_pos c2] at H
  have c2b0 := eq_true c2; have c2b1 := decide_eq_true c2; clear c2
  by_cases c3 : ((l0.length : Int) : Int).toNat ≤ 35184372088832
  ·rw [if_pos c3] at H
   have c3b0 := eq_true c3; have c3b1 := decide_eq_true c3; clear c3; obtain ⟨y349, hy349⟩ : ∃ y_ : List Int, y_ = (List.replicate ((l0.length : Int) : Int).toNat 0) := ⟨_, rfl⟩; replace H : (impl_placesOf.l0 k y349 l0 (l0.length : Int) 0) = some r := q3y_ hy349 H
   have Ny349 := aM hy349; clear hy349; have H' := aM H; clear H
   go_enter Try.func94, Try.ntmps94
   go_wp2_with (first | ((with_reducible refine gate_dst (N := 8) rfl ?_); refine Kd.R_make (Kd.int .i64) _ 3 rfl (N := 8) rfl 39 _ _ rfl (l0.length : Int) rfl rfl Try.underlying39 (.int .i64 0) 8 info3 rfl (by decide) (by omega) 0 (ok := fun _ => True) (okp := fun _ => True) rfl (fun _ hk => hk) trivial (of_decide_eq_true za_) (Nat.le_trans (Nat.mul_le_mul_right _ (of_decide_eq_true za_ : (l0.length : Int).toNat ≤ 35184372088832)) (by omega)) (Below.refl _ _) (Nat.le_refl _) ?_; intro v350 w4 ho5 hb hg_ hnew_; clear hg_ hnew_; (first | rw [← Ny349.out] at ho5 | (simp only [Int.reduceToNat] at ho5; rw [← Ny349.out] at ho5)); have n_ := z (Kd.R_lower ho5 (below_size zb_)) <| z1 (below_step zb_ hb); clear HB; obtain ⟨HO351, HB⟩ := n_; clear hb ho5))
   go_loopg [11] k (fun kq v11 w' => ∃ (x3_1 : List Int) (x11_1 : Int), v11 = .int .i64 x11_1 ∧ Aside0 (impl_placesOf.l0 kq x3_1 l0 (l0.length : Int) x11_1 = some r) ∧ Aside0 (kq ≤ k) ∧ Aside0 (Kd.R (Kd.int .i64) 3 w' w.heap.size (fun _ => True) v350 x3_1) ∧ Aside0 (Below w.heap.size w w'))
   case atStart => exact ⟨(y349), (0), zc_, H', ⟨Nat.le_refl _⟩, ⟨zr HO351.out⟩, ⟨zb_⟩⟩
   case round =>
    clear H'; (try clear c2b0); (try clear c2b1); (try clear c3b0); (try clear c3b1); obtain ⟨x3_1, x11_1, rfl, HA, HK1, HO_3, HB⟩ := hrel
    cases gk with
    | zero => exact absurd HA.out (by simp [impl_placesOf.l0])
    | succ k1 =>
     have H := HA.out; clear HA
     simp only [impl_placesOf.l0] at H
     by_cases c6 : x11_1 < (l0.length : Int)
     ·rw [if_pos c6] at H
      have c6b0 := decide_eq_true c6; clear c6
      by_cases c7 : 0 ≤ x11_1
      ·rw [if_pos c7] at H
       have c7b0 := decide_eq_true c7; clear c7
       by_cases c8 : x11_1 < (l0.length : Int)
       ·rw [if_pos c8] at H
        have c8b0 := decide_eq_true c8; clear c8
        by_cases c9 : 0 ≤ (rd l0 x11_1)
        ·rw [if_pos c9] at H
         have c9b0 := decide_eq_true c9; clear c9
         by_cases c10 : (rd l0 x11_1) < (x3_1.length : Int)
         ·rw [if_pos c10] at H
          have c10b0 := decide_eq_true c10; clear c10; obtain ⟨y353, hy353⟩ : ∃ y_ : List Int, y_ = (x3_1.set ((rd l0 x11_1) : Int).toNat x11_1) := ⟨_, rfl⟩; replace H : (impl_placesOf.l0 k1 y353 l0 (l0.length : Int) (wrap64 (x11_1 + 1))) = some r := q3y_ hy353 H
          have Ny353 := aM hy353; clear hy353; have H' := aM H; clear H; have p352 : 0 ≤ (x11_1 : Int) := of_decide_eq_true za_; have q352 : x11_1 < (l0.length : Int) := of_decide_eq_true za_; obtain ⟨ad352, e352, hx352_0⟩ := Kd.at_int HR0.out x11_1 p352 q352
          cases e352
          (try (replace hx352_0 := q3h_ HB.out hx352_0)); replace p352 := eq_true p352; replace q352 := eq_true q352; have p11 : 0 ≤ ((rd l0 x11_1) : Int) := of_decide_eq_true za_; have q11 : ((rd l0 x11_1) : Int) < ((x3_1.length : Int) : Int) := of_decide_eq_true za_; obtain ⟨go11, co11, eo11, gb11, gl11, cl11, HG11⟩ := Kd.R_form HO_3.out (by omega); (first | cases eo11 | (injection eo11 with ea_ en_ ec_; (first | subst ea_ | (injection ea_ with ea_; subst ea_)); subst ec_; clear en_)); have GB11 := aM gb11; have GG11 := aM HG11; clear gb11 gl11 HG11; obtain ⟨hx11_0, hf11_0⟩ := Kd.R_celln 0 HO_3.out ((rd l0 x11_1) : Int) p11 q11; replace p11 := eq_true p11; replace q11 := eq_true q11; have HP12 := Kd.R_putg HO_3.out ((rd l0 x11_1) : Int) x11_1
          go_wp2_with (first | ((with_reducible refine gate_store (t := 3) (p := 19) rfl ?_); refine store_event (t := 3) (p := 19) (v := ?vo_w13) (w1 := (wr.setCell ⟨go11, ((rd l0 x11_1) : Int).toNat, none⟩ (.int .i64 x11_1))) ?hg ?ho ?hn ?hr ?_; (case ho => rfl); (case hg => rfl); (case hn => rfl); (case hr => exact zd_); intro w13 hw; have hg : wr.grownBy w13 (some go11) := (by rw [hw]; exact HP12.2); have hp_ : Kd.R (Kd.int .i64) 3 w13 w.heap.size (fun _ => True) (.slice (some ⟨go11, 0, none⟩) x3_1.length co11) y353 := (by rw [hw, Ny353.out]; exact HP12.1); clear HP12; have n_ := z (hp_) <| z1 ((by rw [hw]; exact below_set (HB.out) GB11.out : Below w.heap.size w w13)); clear HO_3 HB; obtain ⟨HO_3, HB⟩ := n_; clear hg hw hp_))
          go_roundg k1
          case measure => have := HK1.out; omega
          case rel => exact ⟨(y353), (wrap64 (x11_1 + 1)), zc_, H', ⟨zbe_⟩, ⟨zr HO_3.out⟩, ⟨zb_⟩⟩
         ·rw [if_neg c10] at H
          exact q3n_ H
        ·rw [if_neg c9] at H
         exact q3n_ H
       ·rw [if_neg c8] at H
        exact q3n_ H
      ·rw [if_neg c7] at H
       exact q3n_ H
     ·rw [if_neg c6] at H
      have c6b0 := decide_eq_false c6; clear c6; obtain rfl := Option.some.inj H
      go_wp2
      go_ret
      exact ⟨_, zh_, by refine zr ?_; exact HO_3.out, zb_⟩
  ·rw [if_neg c3] at H
   exact q3n_ H
 ·rw [if_neg c2] at H
  exact q3n_ H
mutual
def impl_SwappedOrder.l0 : Nat → Int → List (List Int) → List Int → Int → Option (List Int × Bool)
 | 0, _, _, _, _ => none
 | k + 1, x1, x6, x7, x8 => if x8 < x1 then (if x7.length < 17592186044416 then (impl_SwappedOrder.l0 k x1 x6 (x7 ++ [x8]) (wrap64 (x8 + 1))) else (none)) else (impl_SwappedOrder.l1 k x1 x6 x7 true)
def impl_SwappedOrder.l1 : Nat → Int → List (List Int) → List Int → Bool → Option (List Int × Bool)
 | 0, _, _, _, _ => none
 | k + 1, x1, x6, x7, x9 => if x9 = true then (impl_SwappedOrder.l2 k x1 x6 x7 false 1) else ((impl_placesOf.f k x7).bind fun t364 => (some (t364, true)))
def impl_SwappedOrder.l2 : Nat → Int → List (List Int) → List Int → Bool → Int → Option (List Int × Bool)
 | 0, _, _, _, _, _ => none
 | k + 1, x1, x6, x7, x9, x10 => if x10 < x1 then (if 0 ≤ (wrap64 (x10 - 1)) then (if (wrap64 (x10 - 1)) < (x7.length : Int) then (if 0 ≤ x10 then (if x10 < (x7.length : Int) then (if 0 ≤ (rd x7 x10) then (if (rd x7 x10) < (x6.length : Int) then (if 0 ≤ (rd x7 (wrap64 (x10 - 1))) then (if (rd x7 (wrap64 (x10 - 1))) < ((rd_L4 x6 (rd x7 x10)).length : Int) then (if (rd x7 (wrap64 (x10 - 1))) < (x6.length : Int) then (if (rd x7 x10) < ((rd_L4 x6 (rd x7 (wrap64 (x10 - 1)))).length : Int) then (if (rd (rd_L4 x6 (rd x7 x10)) (rd x7 (wrap64 (x10 - 1)))) < (rd (rd_L4 x6 (rd x7 (wrap64 (x10 - 1)))) (rd x7 x10)) then (impl_SwappedOrder.l2 k x1 x6 ((x7.set ((wrap64 (x10 - 1)) : Int).toNat (rd x7 x10)).set (x10 : Int).toNat (rd x7 (wrap64 (x10 - 1)))) true (wrap64 (x10 + 1))) else (impl_SwappedOrder.l2 k x1 x6 x7 x9 (wrap64 (x10 + 1)))) else (none)) else (none)) else (none)) else (none)) else (none)) else (none)) else (none)) else (none)) else (none)) else (none)) else (impl_SwappedOrder.l1 k x1 x6 x7 x9)
end
def impl_SwappedOrder.f (k : Nat) (l0 : List (List Int)) (a1 : Int) : Option (List Int × Bool) := (impl_AreLevelWires.f k l0 a1).bind fun t354 => (if t354 = true then ((impl_crossingTable.f k l0 a1).bind fun t355 => (impl_SwappedOrder.l0 k a1 t355 (([] : List Int)) 0)) else (some (([] : List Int), false)))
theorem impl_SwappedOrder.calls (k : Nat) (A0 : Option Addr) (c0 : Nat) (l0 : List (List Int)) (a1 : Int) (r1 : List Int) (r2 : Bool) (w : World) (hr0 : Kd.C (Kd.slice 3 (Kd.int .i64)) w A0 l0.length l0) (hc0 : l0.length ≤ c0) (h : impl_SwappedOrder.f k l0 a1 = some (r1, r2)) :
  Calls Try.prog 44 #[.slice A0 l0.length c0, .int .i64 a1] w fun e w' => ∃ v0_ : Value, e = .returned (.tuple #[v0_, .bool r2]) ∧ Kd.R (Kd.int .i64) 3 w' w.heap.size (fun _ => True) v0_ r1 ∧ Below w.heap.size w w' := by
 have HR0 := aM hr0
 have HC0 := aM hc0
 clear hr0 hc0
 have HB := aM (Below.refl w.heap.size w)
 have H : ((impl_AreLevelWires.f k l0 a1).bind fun t354 => (if t354 = true then ((impl_crossingTable.f k l0 a1).bind fun t355 => (impl_SwappedOrder.l0 k a1 t355 (([] : List Int)) 0)) else (some (([] : List Int), false)))) = some (r1, r2) := h
 clear h
 replace H := oB.mp H
 obtain ⟨t354, A30, H⟩ := H
 replace H : (if t354 = true then ((impl_crossingTable.f k l0 a1).bind fun t355 => (impl_SwappedOrder.l0 k a1 t355 (([] : List Int)) 0)) else (some (([] : List Int), false))) = some (r1, r2) := H
 have A3 := aM A30
 clear A30
 by_cases c4 : t354 = true
 ·subst c4
  have H1 : ((impl_crossingTable.f k l0 a1).bind fun t355 => (impl_SwappedOrder.l0 k a1 t355 (([] : List Int)) 0)) = some (r1, r2) := by rw [if_pos rfl] at H; exact H
  clear H; have H := H1; clear H1; replace H := oB.mp H; obtain ⟨t355, A50, H⟩ := H; replace H : (impl_SwappedOrder.l0 k a1 t355 (([] : List Int)) 0) = some (r1, r2) := H; have A5 := aM A50; clear A50; obtain ⟨y358, hy358⟩ : ∃ y_ : List Int, y_ = (([] : List Int)) := ⟨_, rfl⟩; replace H : (impl_SwappedOrder.l0 k a1 t355 y358 0) = some (r1, r2) := q3y_ hy358 H
  have Ny358 := aM hy358; clear hy358; have H' := aM H; clear H
  go_enter Try.func44, Try.ntmps44
  go_wp2_with (first | (go_at_call 48; (with_reducible refine (impl_AreLevelWires.calls k _ _ l0 a1 true _ ?side1 ?side2 A3.out).mono ?_); (case side1 => exact zi_); (case side2 => exact HC0.out); rintro e w' ⟨rfl, ⟨nd, rfl⟩⟩; (try exact q3d_)) | (go_at_call 90; (with_reducible refine (impl_crossingTable.calls k _ _ l0 a1 t355 _ ?side1 ?side2 A5.out).mono ?_); (case side1 => exact zi_); (case side2 => exact HC0.out); rintro e w6 ⟨v356, rfl, ho0, hb⟩; have n_ := z (Kd.S_lower ho0 (below_size zb_)) <| z1 (below_step zb_ hb); clear HB; obtain ⟨HO357, HB⟩ := n_; clear hb; (try clear ho0)) | ((with_reducible refine gate_dst (N := 20) rfl ?_); refine Kd.R_lit (Kd.int .i64) _ 3 ?hg (N := 20) ?hd (xs := ([] : List Int)) (inner := []) (ok := fun _ => True) (okp := fun _ => True) ?hr ?hp (fun _ hk => hk) trivial (Below.refl _ _) (Nat.le_refl _) (by simp) ?_; (case hd => rfl); (case hg => rfl); (case hr => exact zd_); (case hp => exact (Reps.none _ _)); intro v359 w7 ho8 hb hg_ hnew_; clear hg_ hnew_; (first | rw [← Ny358.out] at ho8 | (simp only [Int.reduceToNat] at ho8; rw [← Ny358.out] at ho8)); have n_ := z (Kd.S_elder' (zs HO357.out) (Kd.R_base ho8) hb) <| z (Kd.R_lower ho8 (below_size zb_)) <| z1 (below_step zb_ hb); clear HO357 HB; obtain ⟨HO357, HO360, HB⟩ := n_; clear hb ho8))
  repeat (go_quiet (first | (go_at_call 48; (with_reducible refine (impl_AreLevelWires.calls k _ _ l0 a1 true _ ?side1 ?side2 A3.out).mono ?_); (case side1 => exact zi_); (case side2 => exact HC0.out); rintro e w' ⟨rfl, ⟨nd, rfl⟩⟩; (try exact q3d_)) | (go_at_call 90; (with_reducible refine (impl_crossingTable.calls k _ _ l0 a1 t355 _ ?side1 ?side2 A5.out).mono ?_); (case side1 => exact zi_); (case side2 => exact HC0.out); rintro e w6 ⟨v356, rfl, ho0, hb⟩; have n_ := z (Kd.S_lower ho0 (below_size zb_)) <| z1 (below_step zb_ hb); clear HB; obtain ⟨HO357, HB⟩ := n_; clear hb; (try clear ho0)) | ((with_reducible refine gate_dst (N := 20) rfl ?_); refine Kd.R_lit (Kd.int .i64) _ 3 ?hg (N := 20) ?hd (xs := ([] : List Int)) (inner := []) (ok := fun _ => True) (okp := fun _ => True) ?hr ?hp (fun _ hk => hk) trivial (Below.refl _ _) (Nat.le_refl _) (by simp) ?_; (case hd => rfl); (case hg => rfl); (case hr => exact zd_); (case hp => exact (Reps.none _ _)); intro v359 w7 ho8 hb hg_ hnew_; clear hg_ hnew_; (first | rw [← Ny358.out] at ho8 | (simp only [Int.reduceToNat] at ho8; rw [← Ny358.out] at ho8)); have n_ := z (Kd.S_elder' (zs HO357.out) (Kd.R_base ho8) hb) <| z (Kd.R_lower ho8 (below_size zb_)) <| z1 (below_step zb_ hb); clear HO357 HB; obtain ⟨HO357, HO360, HB⟩ := n_; clear hb ho8)); try go_wp2_with (first | (go_at_call 48; (with_reducible refine (impl_AreLevelWires.calls k _ _ l0 a1 true _ ?side1 ?side2 A3.out).mono ?_); (case side1 => exact zi_); (case side2 => exact HC0.out); rintro e w' ⟨rfl, ⟨nd, rfl⟩⟩; (try exact q3d_)) | (go_at_call 90; (with_reducible refine (impl_crossingTable.calls k _ _ l0 a1 t355 _ ?side1 ?side2 A5.out).mono ?_); (case side1 => exact zi_); (case side2 => exact HC0.out); rintro e w6 ⟨v356, rfl, ho0, hb⟩; have n_ := z (Kd.S_lower ho0 (below_size zb_)) <| z1 (below_step zb_ hb); clear HB; obtain ⟨HO357, HB⟩ := n_; clear hb; (try clear ho0)) | ((with_reducible refine gate_dst (N := 20) rfl ?_); refine Kd.R_lit (Kd.int .i64) _ 3 ?hg (N := 20) ?hd (xs := ([] : List Int)) (inner := []) (ok := fun _ => True) (okp := fun _ => True) ?hr ?hp (fun _ hk => hk) trivial (Below.refl _ _) (Nat.le_refl _) (by simp) ?_; (case hd => rfl); (case hg => rfl); (case hr => exact zd_); (case hp => exact (Reps.none _ _)); intro v359 w7 ho8 hb hg_ hnew_; clear hg_ hnew_; (first | rw [← Ny358.out] at ho8 | (simp only [Int.reduceToNat] at ho8; rw [← Ny358.out] at ho8)); have n_ := z (Kd.S_elder' (zs HO357.out) (Kd.R_base ho8) hb) <| z (Kd.R_lower ho8 (below_size zb_)) <| z1 (below_step zb_ hb); clear HO357 HB; obtain ⟨HO357, HO360, HB⟩ := n_; clear hb ho8)))
  go_loopg [7, 8] k (fun kq v7 v8 w' => ∃ (x7_1 : List Int) (x8_1 : Int), v8 = .int .i64 x8_1 ∧ Aside0 (impl_SwappedOrder.l0 kq a1 t355 x7_1 x8_1 = some (r1, r2)) ∧ Aside0 (kq ≤ k) ∧ Aside0 (Kd.S (Kd.slice 3 (Kd.int .i64)) 39 w' w.heap.size (fun k_ => some k_ ≠ (v7 : Value).ownBlock) v356 t355) ∧ Aside0 (Kd.R (Kd.int .i64) 3 w' w.heap.size (fun _ => True) v7 x7_1) ∧ Aside0 (Below w.heap.size w w'))
  case atStart => exact ⟨(y358), (0), zc_, H', ⟨Nat.le_refl _⟩, ⟨by refine zs ?_; exact Kd.S_mono HO357.out (fun _ hk => hk.2)⟩, ⟨zr HO360.out⟩, ⟨zb_⟩⟩
  case round =>
   clear H'; obtain ⟨x7_1, x8_1, rfl, HA, HK1, HO_6, HO_7, HB⟩ := hrel
   cases gk with
   | zero => exact absurd HA.out (by simp [impl_SwappedOrder.l0])
   | succ k1 =>
    have H := HA.out; clear HA
    simp only [impl_SwappedOrder.l0] at H
    by_cases c9 : x8_1 < a1
    ·rw [if_pos c9] at H
     have c9b0 := decide_eq_true c9; clear c9
     by_cases c10 : x7_1.length < 17592186044416
     ·rw [if_pos c10] at H
      have LMc10 := aM c10; clear c10; obtain ⟨y361, hy361⟩ : ∃ y_ : List Int, y_ = (x7_1 ++ [x8_1]) := ⟨_, rfl⟩; replace H : (impl_SwappedOrder.l0 k1 a1 t355 y361 (wrap64 (x8_1 + 1))) = some (r1, r2) := q3y_ hy361 H
      have Ny361 := aM hy361; clear hy361; have H' := aM H; clear H
      go_wp2_with (first | ((with_reducible refine gate_builtin (b := .append) (xs := #[.tmp 26, .tmp 28]) rfl ?_); at_builtin; refine Kd.R_append (Kd.int .i64) (w0 := w) w.heap.size rfl (.tmp 26) (.tmp 28) 39 3 (.int .i64 0) 8 rfl Try.underlying39 info3 rfl (by decide) (by omega) u7 x7_1 x8_1 [.int .i64 x8_1] (fun _ => True) (fun _ => False) rfl rfl ?aP (fun _ hk => hk.elim) ?aF ?aO ?aB ?aS ?aL ?_; (case aP => exact rfl); (case aB => exact zde_); (case aF => exact zcd_); (case aO => exact (zr HO_7.out)); (case aS => exact zdf_); (case aL => have := LMc10.out; omega); intro v362 w11 ho hb hg hat; rw [← Ny361.out] at ho; have n_ := z (Kd.S_after (ok := (fun _ => True)) zcj_ hg hat) <| z (hb) <| z1 (ho); clear HO_6 HB HO_7; obtain ⟨HO_6, HB, HO363⟩ := n_; clear ho hb hg hat))
      repeat (go_quiet (first | ((with_reducible refine gate_builtin (b := .append) (xs := #[.tmp 26, .tmp 28]) rfl ?_); at_builtin; refine Kd.R_append (Kd.int .i64) (w0 := w) w.heap.size rfl (.tmp 26) (.tmp 28) 39 3 (.int .i64 0) 8 rfl Try.underlying39 info3 rfl (by decide) (by omega) u7 x7_1 x8_1 [.int .i64 x8_1] (fun _ => True) (fun _ => False) rfl rfl ?aP (fun _ hk => hk.elim) ?aF ?aO ?aB ?aS ?aL ?_; (case aP => exact rfl); (case aB => exact zde_); (case aF => exact zcd_); (case aO => exact (zr HO_7.out)); (case aS => exact zdf_); (case aL => have := LMc10.out; omega); intro v362 w11 ho hb hg hat; rw [← Ny361.out] at ho; have n_ := z (Kd.S_after (ok := (fun _ => True)) zcj_ hg hat) <| z (hb) <| z1 (ho); clear HO_6 HB HO_7; obtain ⟨HO_6, HB, HO363⟩ := n_; clear ho hb hg hat)); try go_wp2_with (first | ((with_reducible refine gate_builtin (b := .append) (xs := #[.tmp 26, .tmp 28]) rfl ?_); at_builtin; refine Kd.R_append (Kd.int .i64) (w0 := w) w.heap.size rfl (.tmp 26) (.tmp 28) 39 3 (.int .i64 0) 8 rfl Try.underlying39 info3 rfl (by decide) (by omega) u7 x7_1 x8_1 [.int .i64 x8_1] (fun _ => True) (fun _ => False) rfl rfl ?aP (fun _ hk => hk.elim) ?aF ?aO ?aB ?aS ?aL ?_; (case aP => exact rfl); (case aB => exact zde_); (case aF => exact zcd_); (case aO => exact (zr HO_7.out)); (case aS => exact zdf_); (case aL => have := LMc10.out; omega); intro v362 w11 ho hb hg hat; rw [← Ny361.out] at ho; have n_ := z (Kd.S_after (ok := (fun _ => True)) zcj_ hg hat) <| z (hb) <| z1 (ho); clear HO_6 HB HO_7; obtain ⟨HO_6, HB, HO363⟩ := n_; clear ho hb hg hat)))
      go_roundg k1
      case measure => have := HK1.out; omega
      case rel => exact ⟨(y361), (wrap64 (x8_1 + 1)), zc_, H', ⟨zbe_⟩, ⟨zga_⟩, ⟨zr HO363.out⟩, ⟨zb_⟩⟩
     ·rw [if_neg c10] at H
      exact q3n_ H
    ·rw [if_neg c9] at H
     have c9b0 := decide_eq_false c9; clear c9; have H' := aM H; clear H
     go_wp2
     repeat (go_quiet (fail); try go_wp2)
     go_loopg [9] k1 (fun kq v9 w' => ∃ (x7_2 : List Int) (x9_2 : Bool), v9 = .bool x9_2 ∧ Aside0 (impl_SwappedOrder.l1 kq a1 t355 x7_2 x9_2 = some (r1, r2)) ∧ Aside0 (kq ≤ k1) ∧ Aside0 (Kd.S (Kd.slice 3 (Kd.int .i64)) 39 w' w.heap.size (fun k_ => some k_ ≠ (u7 : Value).ownBlock) v356 t355) ∧ Aside0 (Kd.R (Kd.int .i64) 3 w' w.heap.size (fun _ => True) u7 x7_2) ∧ Aside0 (Below w.heap.size w w'))
     case atStart => exact ⟨(x7_1), (true), zc_, H', ⟨Nat.le_refl _⟩, ⟨zs HO_6.out⟩, ⟨zr HO_7.out⟩, ⟨zb_⟩⟩
     case round =>
      clear H'; (try clear c9b0); obtain ⟨x7_2, x9_2, rfl, HA, HK2, HO_6, HO_7, HB⟩ := hrel
      cases gk with
      | zero => exact absurd HA.out (by simp [impl_SwappedOrder.l1])
      | succ k2 =>
       have H := HA.out; clear HA
       simp only [impl_SwappedOrder.l1] at H
       by_cases c12 : x9_2 = true
       ·subst c12
        have H1 : (impl_SwappedOrder.l2 k2 a1 t355 x7_2 false 1) = some (r1, r2) := by rw [if_pos rfl] at H; exact H
        clear H; have H := H1; clear H1; have H' := aM H; clear H
        go_wp2
        repeat (go_quiet (fail); try go_wp2)
        go_loopg [9, 10] k2 (fun kq v9 v10 w' => ∃ (x7_3 : List Int) (x9_3 : Bool) (x10_3 : Int), v9 = .bool x9_3 ∧ v10 = .int .i64 x10_3 ∧ Aside0 (impl_SwappedOrder.l2 kq a1 t355 x7_3 x9_3 x10_3 = some (r1, r2)) ∧ Aside0 (kq ≤ k2) ∧ Aside0 (Kd.S (Kd.slice 3 (Kd.int .i64)) 39 w' w.heap.size (fun k_ => some k_ ≠ (u7 : Value).ownBlock) v356 t355) ∧ Aside0 (Kd.R (Kd.int .i64) 3 w' w.heap.size (fun _ => True) u7 x7_3) ∧ Aside0 (Below w.heap.size w w'))
        case atStart => exact ⟨(x7_2), (false), (1), zc_, zc_, H', ⟨Nat.le_refl _⟩, ⟨zs HO_6.out⟩, ⟨zr HO_7.out⟩, ⟨zb_⟩⟩
        case round =>
         clear H'; obtain ⟨x7_3, x9_3, x10_3, rfl, rfl, HA, HK3, HO_6, HO_7, HB⟩ := hrel
         cases gk with
         | zero => exact absurd HA.out (by simp [impl_SwappedOrder.l2])
         | succ k3 =>
          have H := HA.out; clear HA
          simp only [impl_SwappedOrder.l2] at H
          by_cases c13 : x10_3 < a1
          ·rw [if_pos c13] at H
           have c13b0 := decide_eq_true c13; clear c13; obtain ⟨ji14, hji14⟩ : ∃ j_ : Int, (wrap64 (x10_3 - 1)) = j_ := ⟨_, rfl⟩; replace H : (if 0 ≤ (ji14) then (if (ji14) < (x7_3.length : Int) then (if 0 ≤ x10_3 then (if x10_3 < (x7_3.length : Int) then (if 0 ≤ (rd x7_3 x10_3) then (if (rd x7_3 x10_3) < (t355.length : Int) then (if 0 ≤ (rd x7_3 (ji14)) then (if (rd x7_3 (ji14)) < ((rd_L4 t355 (rd x7_3 x10_3)).length : Int) then (if (rd x7_3 (ji14)) < (t355.length : Int) then (if (rd x7_3 x10_3) < ((rd_L4 t355 (rd x7_3 (ji14))).length : Int) then (if (rd (rd_L4 t355 (rd x7_3 x10_3)) (rd x7_3 (ji14))) < (rd (rd_L4 t355 (rd x7_3 (ji14))) (rd x7_3 x10_3)) then (impl_SwappedOrder.l2 k3 a1 t355 ((x7_3.set ((ji14) : Int).toNat (rd x7_3 x10_3)).set (x10_3 : Int).toNat (rd x7_3 (ji14))) true (wrap64 (x10_3 + 1))) else (impl_SwappedOrder.l2 k3 a1 t355 x7_3 x9_3 (wrap64 (x10_3 + 1)))) else (none)) else (none)) else (none)) else (none)) else (none)) else (none)) else (none)) else (none)) else (none)) else (none)) = some (r1, r2) := by first | (rw [hji14] at H; exact H) | (simp only [hji14] at H ⊢; exact H)
           have hji14w : (IntKind.i64.wrap (x10_3 - 1)) = ji14 := (i64_w _).trans hji14
           by_cases c15 : 0 ≤ (ji14)
           ·rw [if_pos c15] at H
            have c15b0 := decide_eq_true c15; clear c15
            by_cases c16 : (ji14) < (x7_3.length : Int)
            ·rw [if_pos c16] at H
             have c16b0 := decide_eq_true c16; clear c16
             by_cases c17 : 0 ≤ x10_3
             ·rw [if_pos c17] at H
              have c17b0 := decide_eq_true c17; clear c17
              by_cases c18 : x10_3 < (x7_3.length : Int)
              ·rw [if_pos c18] at H
               have c18b0 := decide_eq_true c18; clear c18
               by_cases c19 : 0 ≤ (rd x7_3 x10_3)
               ·rw [if_pos c19] at H
                have c19b0 := decide_eq_true c19; clear c19
                by_cases c20 : (rd x7_3 x10_3) < (t355.length : Int)
                ·rw [if_pos c20] at H
                 have c20b0 := decide_eq_true c20; clear c20
                 by_cases c21 : 0 ≤ (rd x7_3 (ji14))
                 ·rw [if_pos c21] at H
                  have c21b0 := decide_eq_true c21; clear c21
                  by_cases c22 : (rd x7_3 (ji14)) < ((rd_L4 t355 (rd x7_3 x10_3)).length : Int)
                  ·rw [if_pos c22] at H
                   have c22b0 := decide_eq_true c22; clear c22
                   by_cases c23 : (rd x7_3 (ji14)) < (t355.length : Int)
                   ·rw [if_pos c23] at H
                    have c23b0 := decide_eq_true c23; clear c23
                    by_cases c24 : (rd x7_3 x10_3) < ((rd_L4 t355 (rd x7_3 (ji14))).length : Int)
                    ·rw [if_pos c24] at H
                     have c24b0 := decide_eq_true c24; clear c24
                     by_cases c25 : (rd (rd_L4 t355 (rd x7_3 x10_3)) (rd x7_3 (ji14))) < (rd (rd_L4 t355 (rd x7_3 (ji14))) (rd x7_3 x10_3))
                     ·rw [if_pos c25] at H
                      have c25b0 := decide_eq_true c25; clear c25; obtain ⟨y373, hy373⟩ : ∃ y_ : List Int, y_ = (x7_3.set ((ji14) : Int).toNat (rd x7_3 x10_3)) := ⟨_, rfl⟩; replace H : (impl_SwappedOrder.l2 k3 a1 t355 (y373.set (x10_3 : Int).toNat (rd x7_3 (ji14))) true (wrap64 (x10_3 + 1))) = some (r1, r2) := q3y_ hy373 H
                      have Ny373 := aM hy373; clear hy373; obtain ⟨y374, hy374⟩ : ∃ y_ : List Int, y_ = (y373.set (x10_3 : Int).toNat (rd x7_3 (ji14))) := ⟨_, rfl⟩; replace H : (impl_SwappedOrder.l2 k3 a1 t355 y374 true (wrap64 (x10_3 + 1))) = some (r1, r2) := q3y_ hy374 H
                      have Ny374 := aM hy374; clear hy374; have H' := aM H; clear H; obtain ⟨Ao28, co28, eo28⟩ := Kd.R_slice HO_7.out; subst eo28; have p367 : 0 ≤ ((ji14) : Int) := of_decide_eq_true za_; have q367 : (ji14) < (x7_3.length : Int) := of_decide_eq_true za_; obtain ⟨ad367, e367, hx367_0⟩ := Kd.at_int (Kd.R_reads' HO_7.out).2.2 (ji14) p367 q367
                      cases e367
                      replace p367 := eq_true p367; replace q367 := eq_true q367; have p368 : 0 ≤ (x10_3 : Int) := of_decide_eq_true za_; have q368 : x10_3 < (x7_3.length : Int) := of_decide_eq_true za_; obtain ⟨ad368, e368, hx368_0⟩ := Kd.at_int (Kd.R_reads' HO_7.out).2.2 x10_3 p368 q368; obtain rfl : ad367 = ad368 := (by injection e368); replace p368 := eq_true p368; replace q368 := eq_true q368; obtain ⟨Ao29, co29, eo29⟩ := Kd.S_slice HO_6.out; subst eo29; have p369 : 0 ≤ ((rd x7_3 x10_3) : Int) := of_decide_eq_true za_; have q369 : (rd x7_3 x10_3) < (t355.length : Int) := of_decide_eq_true za_; obtain ⟨ad369, A369_0, c369_0, e369, hx369_0, hl369_0, hi369_0⟩ := at_L4 (Kd.S_reads' HO_6.out).2.2 (rd x7_3 x10_3) p369 q369
                      cases e369
                      obtain ⟨ce369, hce369, hMe369, hcc369⟩ := Kd.S_get HO_6.out [] (rd x7_3 x10_3) p369 (by first | exact q369 | exact of_decide_eq_true za_ | (have e_ := (Kd.S_reads' HO_6.out).1; omega)); obtain ⟨ve369_0, rfl, ge369_0⟩ := hMe369; have hv369_0 := hcc369 0 _ rfl; rw [Nat.add_zero, show ((Kd.slice 3 (Kd.int .i64))).sz = 1 from rfl, Nat.mul_one] at hv369_0; replace hv369_0 := Option.some.inj (hv369_0.symm.trans hx369_0); rw [hv369_0] at ge369_0; have HL369_0 := aM (show Kd.R (Kd.int .i64) 3 _ _ _ _ (rd_L4 t355 (rd x7_3 x10_3)) from ge369_0); clear hv369_0 ge369_0 hcc369 hce369; have HR369_0 := aM hi369_0; have HC369_0 := aM hl369_0; clear hi369_0 hl369_0; replace p369 := eq_true p369; replace q369 := eq_true q369; have p370 : 0 ≤ ((rd x7_3 (ji14)) : Int) := of_decide_eq_true za_; have q370 : (rd x7_3 (ji14)) < ((rd_L4 t355 (rd x7_3 x10_3)).length : Int) := of_decide_eq_true za_; obtain ⟨ad370, e370, hx370_0⟩ := Kd.at_int (by repeat (first | (with_reducible exact HR369_0.out) | (with_reducible refine cA ?_ _) | (with_reducible refine cN ?_ _) | (with_reducible refine cD ?_) | exact HR369_0.out)) (rd x7_3 (ji14)) p370 q370
                      cases e370
                      replace p370 := eq_true p370; replace q370 := eq_true q370; have p371 : 0 ≤ ((rd x7_3 (ji14)) : Int) := of_decide_eq_true za_; have q371 : (rd x7_3 (ji14)) < (t355.length : Int) := of_decide_eq_true za_; obtain ⟨ad371, A371_0, c371_0, e371, hx371_0, hl371_0, hi371_0⟩ := at_L4 (Kd.S_reads' HO_6.out).2.2 (rd x7_3 (ji14)) p371 q371; obtain rfl : ad369 = ad371 := (by injection e371); obtain ⟨ce371, hce371, hMe371, hcc371⟩ := Kd.S_get HO_6.out [] (rd x7_3 (ji14)) p371 (by first | exact q371 | exact of_decide_eq_true za_ | (have e_ := (Kd.S_reads' HO_6.out).1; omega)); obtain ⟨ve371_0, rfl, ge371_0⟩ := hMe371; have hv371_0 := hcc371 0 _ rfl; rw [Nat.add_zero, show ((Kd.slice 3 (Kd.int .i64))).sz = 1 from rfl, Nat.mul_one] at hv371_0; replace hv371_0 := Option.some.inj (hv371_0.symm.trans hx371_0); rw [hv371_0] at ge371_0; have HL371_0 := aM (show Kd.R (Kd.int .i64) 3 _ _ _ _ (rd_L4 t355 (rd x7_3 (ji14))) from ge371_0); clear hv371_0 ge371_0 hcc371 hce371; have HR371_0 := aM hi371_0; have HC371_0 := aM hl371_0; clear hi371_0 hl371_0; replace p371 := eq_true p371; replace q371 := eq_true q371; have p372 : 0 ≤ ((rd x7_3 x10_3) : Int) := of_decide_eq_true za_; have q372 : (rd x7_3 x10_3) < ((rd_L4 t355 (rd x7_3 (ji14))).length : Int) := of_decide_eq_true za_; obtain ⟨ad372, e372, hx372_0⟩ := Kd.at_int (by repeat (first | (with_reducible exact HR371_0.out) | (with_reducible refine cA ?_ _) | (with_reducible refine cN ?_ _) | (with_reducible refine cD ?_) | exact HR371_0.out)) (rd x7_3 x10_3) p372 q372
                      cases e372
                      replace p372 := eq_true p372; replace q372 := eq_true q372; have p26 : 0 ≤ ((ji14) : Int) := of_decide_eq_true za_; have q26 : ((ji14) : Int) < ((x7_3.length : Int) : Int) := of_decide_eq_true za_; obtain ⟨go26, co26, eo26, gb26, gl26, cl26, HG26⟩ := Kd.R_form HO_7.out (by omega); (first | cases eo26 | (injection eo26 with ea_ en_ ec_; (first | subst ea_ | (injection ea_ with ea_; subst ea_)); subst ec_; clear en_)); have GB26 := aM gb26; have GG26 := aM HG26; clear gb26 gl26 HG26; (first | simp only [add_plain] at hx367_0 | skip); (first | simp only [add_plain] at hx368_0 | skip); obtain ⟨hx26_0, hf26_0⟩ := Kd.R_celln 0 HO_7.out ((ji14) : Int) p26 q26; replace p26 := eq_true p26; replace q26 := eq_true q26; have HP30 := Kd.R_putg HO_7.out ((ji14) : Int) (rd x7_3 x10_3)
                      go_wp2_with (first | ((with_reducible refine gate_store (t := 3) (p := 67) rfl ?_); (try (rw [drewN_self wr]; generalize hq_ : World.drewN wr _ = wr; have n_ := z (Kd.S_at hq_ HO_6.out) <| z (Kd.R_at hq_ HO_7.out) <| z (Kd.R_at hq_ HL369_0.out) <| z (Kd.R_at hq_ HL371_0.out) <| z1 (below_at hq_ HB.out); clear hq_ HO_6 HO_7 HL369_0 HL371_0 HB; obtain ⟨HO_6, HO_7, HL369_0, HL371_0, HB⟩ := n_; (try (obtain ⟨hx26_0z, hf26_0z⟩ := Kd.R_celln 0 HO_7.out ((ji14) : Int) (of_eq_true p26) (of_eq_true q26))); (try (have HP30 := Kd.R_putg HO_7.out ((ji14) : Int) (rd x7_3 x10_3))))); refine store_event (t := 3) (p := 67) (v := ?vo_w31) (w1 := (wr.setCell ⟨go26, ((ji14) : Int).toNat, none⟩ (.int .i64 (rd x7_3 x10_3)))) ?hg ?ho ?hn ?hr ?_; (case ho => rfl); (case hg => rfl); (case hn => rfl); (case hr => exact zd_); intro w31 hw; have hg : wr.grownBy w31 (some go26) := (by rw [hw]; exact HP30.2); have hp_ : Kd.R (Kd.int .i64) 3 w31 w.heap.size (fun _ => True) (.slice (some ⟨go26, 0, none⟩) x7_3.length co28) y373 := (by rw [hw, Ny373.out]; exact HP30.1); clear HP30; have n_ := z (Kd.S_after (v := (.slice (some ⟨go26, 0, none⟩) x7_3.length co28)) (v1 := (.slice (some ⟨go26, 0, none⟩) x7_3.length co28)) (ok := (fun _ => True)) zcj_ hg (.inl rfl)) <| z (hp_) <| z (Kd.R_after (v := (.slice (some ⟨go26, 0, none⟩) x7_3.length co28)) (v1 := (.slice (some ⟨go26, 0, none⟩) x7_3.length co28)) (ok := (fun k_ => some k_ ≠ (.slice (some ad369) t355.length co29 : Value).ownBlock)) (by refine zr ?_; exact Kd.R_mono HL369_0.out (fun _ hk => ⟨hk.2, hk.1⟩)) hg (.inl rfl)) <| z (Kd.R_after (v := (.slice (some ⟨go26, 0, none⟩) x7_3.length co28)) (v1 := (.slice (some ⟨go26, 0, none⟩) x7_3.length co28)) (ok := (fun k_ => some k_ ≠ (.slice (some ad369) t355.length co29 : Value).ownBlock)) (by refine zr ?_; exact Kd.R_mono HL371_0.out (fun _ hk => ⟨hk.2, hk.1⟩)) hg (.inl rfl)) <| z1 ((by rw [hw]; exact below_set (HB.out) GB26.out : Below w.heap.size w w31)); clear HO_6 HO_7 HL369_0 HL371_0 HB; obtain ⟨HO_6, HO_7, HL369_0, HL371_0, HB⟩ := n_; clear hg hw hp_; have p27 : 0 ≤ (x10_3 : Int) := of_decide_eq_true za_; have q27 : (x10_3 : Int) < ((x7_3.length : Int) : Int) := of_decide_eq_true za_; obtain ⟨hx27_0, hf27_0⟩ := Kd.R_celln 0 HO_7.out (x10_3 : Int) p27 q27; replace p27 := eq_true p27; replace q27 := eq_true q27; obtain ⟨hy32_, hz32_⟩ := Kd.R_celln 0 HO_7.out (x10_3 : Int) (of_decide_eq_true za_) (of_decide_eq_true za_); have HP32 := Kd.R_putg HO_7.out (x10_3 : Int) (rd x7_3 (ji14))) | ((with_reducible refine gate_store (t := 3) (p := 68) rfl ?_); (try (rw [drewN_self w31]; generalize hq_ : World.drewN w31 _ = w31; have n_ := z (Kd.S_at hq_ HO_6.out) <| z (Kd.R_at hq_ HO_7.out) <| z (Kd.R_at hq_ HL369_0.out) <| z (Kd.R_at hq_ HL371_0.out) <| z1 (below_at hq_ HB.out); clear hq_ HO_6 HO_7 HL369_0 HL371_0 HB; obtain ⟨HO_6, HO_7, HL369_0, HL371_0, HB⟩ := n_; (try (obtain ⟨hy32_, hz32_⟩ := Kd.R_celln 0 HO_7.out (x10_3 : Int) (of_decide_eq_true za_) (of_decide_eq_true za_))); (try (have HP32 := Kd.R_putg HO_7.out (x10_3 : Int) (rd x7_3 (ji14)))))); refine store_event (t := 3) (p := 68) (v := ?vo_w33) (w1 := (w31.setCell ⟨go26, (x10_3 : Int).toNat, none⟩ (.int .i64 (rd x7_3 (ji14))))) ?hg ?ho ?hn ?hr ?_; (case ho => rfl); (case hg => rfl); (case hn => rfl); (case hr => exact zd_); intro w33 hw; have hg : w31.grownBy w33 (some go26) := (by rw [hw]; exact HP32.2); have hp_ : Kd.R (Kd.int .i64) 3 w33 w.heap.size (fun _ => True) (.slice (some ⟨go26, 0, none⟩) x7_3.length co28) y374 := (by rw [hw, Ny374.out]; exact HP32.1); clear HP32; have n_ := z (Kd.S_after (v := (.slice (some ⟨go26, 0, none⟩) x7_3.length co28)) (v1 := (.slice (some ⟨go26, 0, none⟩) x7_3.length co28)) (ok := (fun _ => True)) (zs HO_6.out) hg (.inl rfl)) <| z (hp_) <| z (Kd.R_after (v := (.slice (some ⟨go26, 0, none⟩) x7_3.length co28)) (v1 := (.slice (some ⟨go26, 0, none⟩) x7_3.length co28)) (ok := (fun k_ => some k_ ≠ (.slice (some ad369) t355.length co29 : Value).ownBlock)) (zr HL369_0.out) hg (.inl rfl)) <| z (Kd.R_after (v := (.slice (some ⟨go26, 0, none⟩) x7_3.length co28)) (v1 := (.slice (some ⟨go26, 0, none⟩) x7_3.length co28)) (ok := (fun k_ => some k_ ≠ (.slice (some ad369) t355.length co29 : Value).ownBlock)) (zr HL371_0.out) hg (.inl rfl)) <| z1 ((by rw [hw]; exact below_set (HB.out) GB26.out : Below w.heap.size w w33)); clear HO_6 HO_7 HL369_0 HL371_0 HB; obtain ⟨HO_6, HO_7, HL369_0, HL371_0, HB⟩ := n_; clear hg hw hp_))
                      repeat (go_quiet (first | ((with_reducible refine gate_store (t := 3) (p := 67) rfl ?_); (try (rw [drewN_self wr]; generalize hq_ : World.drewN wr _ = wr; have n_ := z (Kd.S_at hq_ HO_6.out) <| z (Kd.R_at hq_ HO_7.out) <| z (Kd.R_at hq_ HL369_0.out) <| z (Kd.R_at hq_ HL371_0.out) <| z1 (below_at hq_ HB.out); clear hq_ HO_6 HO_7 HL369_0 HL371_0 HB; obtain ⟨HO_6, HO_7, HL369_0, HL371_0, HB⟩ := n_; (try (obtain ⟨hx26_0z, hf26_0z⟩ := Kd.R_celln 0 HO_7.out ((ji14) : Int) (of_eq_true p26) (of_eq_true q26))); (try (have HP30 := Kd.R_putg HO_7.out ((ji14) : Int) (rd x7_3 x10_3))))); refine store_event (t := 3) (p := 67) (v := ?vo_w31) (w1 := (wr.setCell ⟨go26, ((ji14) : Int).toNat, none⟩ (.int .i64 (rd x7_3 x10_3)))) ?hg ?ho ?hn ?hr ?_; (case ho => rfl); (case hg => rfl); (case hn => rfl); (case hr => exact zd_); intro w31 hw; have hg : wr.grownBy w31 (some go26) := (by rw [hw]; exact HP30.2); have hp_ : Kd.R (Kd.int .i64) 3 w31 w.heap.size (fun _ => True) (.slice (some ⟨go26, 0, none⟩) x7_3.length co28) y373 := (by rw [hw, Ny373.out]; exact HP30.1); clear HP30; have n_ := z (Kd.S_after (v := (.slice (some ⟨go26, 0, none⟩) x7_3.length co28)) (v1 := (.slice (some ⟨go26, 0, none⟩) x7_3.length co28)) (ok := (fun _ => True)) zcj_ hg (.inl rfl)) <| z (hp_) <| z (Kd.R_after (v := (.slice (some ⟨go26, 0, none⟩) x7_3.length co28)) (v1 := (.slice (some ⟨go26, 0, none⟩) x7_3.length co28)) (ok := (fun k_ => some k_ ≠ (.slice (some ad369) t355.length co29 : Value).ownBlock)) (by refine zr ?_; exact Kd.R_mono HL369_0.out (fun _ hk => ⟨hk.2, hk.1⟩)) hg (.inl rfl)) <| z (Kd.R_after (v := (.slice (some ⟨go26, 0, none⟩) x7_3.length co28)) (v1 := (.slice (some ⟨go26, 0, none⟩) x7_3.length co28)) (ok := (fun k_ => some k_ ≠ (.slice (some ad369) t355.length co29 : Value).ownBlock)) (by refine zr ?_; exact Kd.R_mono HL371_0.out (fun _ hk => ⟨hk.2, hk.1⟩)) hg (.inl rfl)) <| z1 ((by rw [hw]; exact below_set (HB.out) GB26.out : Below w.heap.size w w31)); clear HO_6 HO_7 HL369_0 HL371_0 HB; obtain ⟨HO_6, HO_7, HL369_0, HL371_0, HB⟩ := n_; clear hg hw hp_; have p27 : 0 ≤ (x10_3 : Int) := of_decide_eq_true za_; have q27 : (x10_3 : Int) < ((x7_3.length : Int) : Int) := of_decide_eq_true za_; obtain ⟨hx27_0, hf27_0⟩ := Kd.R_celln 0 HO_7.out (x10_3 : Int) p27 q27; replace p27 := eq_true p27; replace q27 := eq_true q27; obtain ⟨hy32_, hz32_⟩ := Kd.R_celln 0 HO_7.out (x10_3 : Int) (of_decide_eq_true za_) (of_decide_eq_true za_); have HP32 := Kd.R_putg HO_7.out (x10_3 : Int) (rd x7_3 (ji14))) | ((with_reducible refine gate_store (t := 3) (p := 68) rfl ?_); (try (rw [drewN_self w31]; generalize hq_ : World.drewN w31 _ = w31; have n_ := z (Kd.S_at hq_ HO_6.out) <| z (Kd.R_at hq_ HO_7.out) <| z (Kd.R_at hq_ HL369_0.out) <| z (Kd.R_at hq_ HL371_0.out) <| z1 (below_at hq_ HB.out); clear hq_ HO_6 HO_7 HL369_0 HL371_0 HB; obtain ⟨HO_6, HO_7, HL369_0, HL371_0, HB⟩ := n_; (try (obtain ⟨hy32_, hz32_⟩ := Kd.R_celln 0 HO_7.out (x10_3 : Int) (of_decide_eq_true za_) (of_decide_eq_true za_))); (try (have HP32 := Kd.R_putg HO_7.out (x10_3 : Int) (rd x7_3 (ji14)))))); refine store_event (t := 3) (p := 68) (v := ?vo_w33) (w1 := (w31.setCell ⟨go26, (x10_3 : Int).toNat, none⟩ (.int .i64 (rd x7_3 (ji14))))) ?hg ?ho ?hn ?hr ?_; (case ho => rfl); (case hg => rfl); (case hn => rfl); (case hr => exact zd_); intro w33 hw; have hg : w31.grownBy w33 (some go26) := (by rw [hw]; exact HP32.2); have hp_ : Kd.R (Kd.int .i64) 3 w33 w.heap.size (fun _ => True) (.slice (some ⟨go26, 0, none⟩) x7_3.length co28) y374 := (by rw [hw, Ny374.out]; exact HP32.1); clear HP32; have n_ := z (Kd.S_after (v := (.slice (some ⟨go26, 0, none⟩) x7_3.length co28)) (v1 := (.slice (some ⟨go26, 0, none⟩) x7_3.length co28)) (ok := (fun _ => True)) (zs HO_6.out) hg (.inl rfl)) <| z (hp_) <| z (Kd.R_after (v := (.slice (some ⟨go26, 0, none⟩) x7_3.length co28)) (v1 := (.slice (some ⟨go26, 0, none⟩) x7_3.length co28)) (ok := (fun k_ => some k_ ≠ (.slice (some ad369) t355.length co29 : Value).ownBlock)) (zr HL369_0.out) hg (.inl rfl)) <| z (Kd.R_after (v := (.slice (some ⟨go26, 0, none⟩) x7_3.length co28)) (v1 := (.slice (some ⟨go26, 0, none⟩) x7_3.length co28)) (ok := (fun k_ => some k_ ≠ (.slice (some ad369) t355.length co29 : Value).ownBlock)) (zr HL371_0.out) hg (.inl rfl)) <| z1 ((by rw [hw]; exact below_set (HB.out) GB26.out : Below w.heap.size w w33)); clear HO_6 HO_7 HL369_0 HL371_0 HB; obtain ⟨HO_6, HO_7, HL369_0, HL371_0, HB⟩ := n_; clear hg hw hp_)); try go_wp2_with (first | ((with_reducible refine gate_store (t := 3) (p := 67) rfl ?_); (try (rw [drewN_self wr]; generalize hq_ : World.drewN wr _ = wr; have n_ := z (Kd.S_at hq_ HO_6.out) <| z (Kd.R_at hq_ HO_7.out) <| z (Kd.R_at hq_ HL369_0.out) <| z (Kd.R_at hq_ HL371_0.out) <| z1 (below_at hq_ HB.out); clear hq_ HO_6 HO_7 HL369_0 HL371_0 HB; obtain ⟨HO_6, HO_7, HL369_0, HL371_0, HB⟩ := n_; (try (obtain ⟨hx26_0z, hf26_0z⟩ := Kd.R_celln 0 HO_7.out ((ji14) : Int) (of_eq_true p26) (of_eq_true q26))); (try (have HP30 := Kd.R_putg HO_7.out ((ji14) : Int) (rd x7_3 x10_3))))); refine store_event (t := 3) (p := 67) (v := ?vo_w31) (w1 := (wr.setCell ⟨go26, ((ji14) : Int).toNat, none⟩ (.int .i64 (rd x7_3 x10_3)))) ?hg ?ho ?hn ?hr ?_; (case ho => rfl); (case hg => rfl); (case hn => rfl); (case hr => exact zd_); intro w31 hw; have hg : wr.grownBy w31 (some go26) := (by rw [hw]; exact HP30.2); have hp_ : Kd.R (Kd.int .i64) 3 w31 w.heap.size (fun _ => True) (.slice (some ⟨go26, 0, none⟩) x7_3.length co28) y373 := (by rw [hw, Ny373.out]; exact HP30.1); clear HP30; have n_ := z (Kd.S_after (v := (.slice (some ⟨go26, 0, none⟩) x7_3.length co28)) (v1 := (.slice (some ⟨go26, 0, none⟩) x7_3.length co28)) (ok := (fun _ => True)) zcj_ hg (.inl rfl)) <| z (hp_) <| z (Kd.R_after (v := (.slice (some ⟨go26, 0, none⟩) x7_3.length co28)) (v1 := (.slice (some ⟨go26, 0, none⟩) x7_3.length co28)) (ok := (fun k_ => some k_ ≠ (.slice (some ad369) t355.length co29 : Value).ownBlock)) (by refine zr ?_; exact Kd.R_mono HL369_0.out (fun _ hk => ⟨hk.2, hk.1⟩)) hg (.inl rfl)) <| z (Kd.R_after (v := (.slice (some ⟨go26, 0, none⟩) x7_3.length co28)) (v1 := (.slice (some ⟨go26, 0, none⟩) x7_3.length co28)) (ok := (fun k_ => some k_ ≠ (.slice (some ad369) t355.length co29 : Value).ownBlock)) (by refine zr ?_; exact Kd.R_mono HL371_0.out (fun _ hk => ⟨hk.2, hk.1⟩)) hg (.inl rfl)) <| z1 ((by rw [hw]; exact below_set (HB.out) GB26.out : Below w.heap.size w w31)); clear HO_6 HO_7 HL369_0 HL371_0 HB; obtain ⟨HO_6, HO_7, HL369_0, HL371_0, HB⟩ := n_; clear hg hw hp_; have p27 : 0 ≤ (x10_3 : Int) := of_decide_eq_true za_; have q27 : (x10_3 : Int) < ((x7_3.length : Int) : Int) := of_decide_eq_true za_; obtain ⟨hx27_0, hf27_0⟩ := Kd.R_celln 0 HO_7.out (x10_3 : Int) p27 q27; replace p27 := eq_true p27; replace q27 := eq_true q27; obtain ⟨hy32_, hz32_⟩ := Kd.R_celln 0 HO_7.out (x10_3 : Int) (of_decide_eq_true za_) (of_decide_eq_true za_); have HP32 := Kd.R_putg HO_7.out (x10_3 : Int) (rd x7_3 (ji14))) | ((with_reducible refine gate_store (t := 3) (p := 68) rfl ?_); (try (rw [drewN_self w31]; generalize hq_ : World.drewN w31 _ = w31; have n_ := z (Kd.S_at hq_ HO_6.out) <| z (Kd.R_at hq_ HO_7.out) <| z (Kd.R_at hq_ HL369_0.out) <| z (Kd.R_at hq_ HL371_0.out) <| z1 (below_at hq_ HB.out); clear hq_ HO_6 HO_7 HL369_0 HL371_0 HB; obtain ⟨HO_6, HO_7, HL369_0, HL371_0, HB⟩ := n_; (try (obtain ⟨hy32_, hz32_⟩ := Kd.R_celln 0 HO_7.out (x10_3 : Int) (of_decide_eq_true za_) (of_decide_eq_true za_))); (try (have HP32 := Kd.R_putg HO_7.out (x10_3 : Int) (rd x7_3 (ji14)))))); refine store_event (t := 3) (p := 68) (v := ?vo_w33) (w1 := (w31.setCell ⟨go26, (x10_3 : Int).toNat, none⟩ (.int .i64 (rd x7_3 (ji14))))) ?hg ?ho ?hn ?hr ?_; (case ho => rfl); (case hg => rfl); (case hn => rfl); (case hr => exact zd_); intro w33 hw; have hg : w31.grownBy w33 (some go26) := (by rw [hw]; exact HP32.2); have hp_ : Kd.R (Kd.int .i64) 3 w33 w.heap.size (fun _ => True) (.slice (some ⟨go26, 0, none⟩) x7_3.length co28) y374 := (by rw [hw, Ny374.out]; exact HP32.1); clear HP32; have n_ := z (Kd.S_after (v := (.slice (some ⟨go26, 0, none⟩) x7_3.length co28)) (v1 := (.slice (some ⟨go26, 0, none⟩) x7_3.length co28)) (ok := (fun _ => True)) (zs HO_6.out) hg (.inl rfl)) <| z (hp_) <| z (Kd.R_after (v := (.slice (some ⟨go26, 0, none⟩) x7_3.length co28)) (v1 := (.slice (some ⟨go26, 0, none⟩) x7_3.length co28)) (ok := (fun k_ => some k_ ≠ (.slice (some ad369) t355.length co29 : Value).ownBlock)) (zr HL369_0.out) hg (.inl rfl)) <| z (Kd.R_after (v := (.slice (some ⟨go26, 0, none⟩) x7_3.length co28)) (v1 := (.slice (some ⟨go26, 0, none⟩) x7_3.length co28)) (ok := (fun k_ => some k_ ≠ (.slice (some ad369) t355.length co29 : Value).ownBlock)) (zr HL371_0.out) hg (.inl rfl)) <| z1 ((by rw [hw]; exact below_set (HB.out) GB26.out : Below w.heap.size w w33)); clear HO_6 HO_7 HL369_0 HL371_0 HB; obtain ⟨HO_6, HO_7, HL369_0, HL371_0, HB⟩ := n_; clear hg hw hp_)))
                      go_roundg k3
                      case measure => have := HK1.out; have := HK2.out; have := HK3.out; omega
                      case rel => exact ⟨(y374), (true), (wrap64 (x10_3 + 1)), zc_, zc_, H', ⟨zbd_⟩, ⟨zga_⟩, ⟨zr HO_7.out⟩, ⟨zb_⟩⟩
                     ·rw [if_neg c25] at H
                      have c25b0 := decide_eq_false c25; clear c25; have H' := aM H; clear H; obtain ⟨Ao34, co34, eo34⟩ := Kd.R_slice HO_7.out; subst eo34; have p367 : 0 ≤ ((ji14) : Int) := of_decide_eq_true za_; have q367 : (ji14) < (x7_3.length : Int) := of_decide_eq_true za_; obtain ⟨ad367, e367, hx367_0⟩ := Kd.at_int (Kd.R_reads' HO_7.out).2.2 (ji14) p367 q367
                      cases e367
                      replace p367 := eq_true p367; replace q367 := eq_true q367; have p368 : 0 ≤ (x10_3 : Int) := of_decide_eq_true za_; have q368 : x10_3 < (x7_3.length : Int) := of_decide_eq_true za_; obtain ⟨ad368, e368, hx368_0⟩ := Kd.at_int (Kd.R_reads' HO_7.out).2.2 x10_3 p368 q368; obtain rfl : ad367 = ad368 := (by injection e368); replace p368 := eq_true p368; replace q368 := eq_true q368; obtain ⟨Ao35, co35, eo35⟩ := Kd.S_slice HO_6.out; subst eo35; have p369 : 0 ≤ ((rd x7_3 x10_3) : Int) := of_decide_eq_true za_; have q369 : (rd x7_3 x10_3) < (t355.length : Int) := of_decide_eq_true za_; obtain ⟨ad369, A369_0, c369_0, e369, hx369_0, hl369_0, hi369_0⟩ := at_L4 (Kd.S_reads' HO_6.out).2.2 (rd x7_3 x10_3) p369 q369
                      cases e369
                      obtain ⟨ce369, hce369, hMe369, hcc369⟩ := Kd.S_get HO_6.out [] (rd x7_3 x10_3) p369 (by first | exact q369 | exact of_decide_eq_true za_ | (have e_ := (Kd.S_reads' HO_6.out).1; omega)); obtain ⟨ve369_0, rfl, ge369_0⟩ := hMe369; have hv369_0 := hcc369 0 _ rfl; rw [Nat.add_zero, show ((Kd.slice 3 (Kd.int .i64))).sz = 1 from rfl, Nat.mul_one] at hv369_0; replace hv369_0 := Option.some.inj (hv369_0.symm.trans hx369_0); rw [hv369_0] at ge369_0; have HL369_0 := aM (show Kd.R (Kd.int .i64) 3 _ _ _ _ (rd_L4 t355 (rd x7_3 x10_3)) from ge369_0); clear hv369_0 ge369_0 hcc369 hce369; have HR369_0 := aM hi369_0; have HC369_0 := aM hl369_0; clear hi369_0 hl369_0; replace p369 := eq_true p369; replace q369 := eq_true q369; have p370 : 0 ≤ ((rd x7_3 (ji14)) : Int) := of_decide_eq_true za_; have q370 : (rd x7_3 (ji14)) < ((rd_L4 t355 (rd x7_3 x10_3)).length : Int) := of_decide_eq_true za_; obtain ⟨ad370, e370, hx370_0⟩ := Kd.at_int (by repeat (first | (with_reducible exact HR369_0.out) | (with_reducible refine cA ?_ _) | (with_reducible refine cN ?_ _) | (with_reducible refine cD ?_) | exact HR369_0.out)) (rd x7_3 (ji14)) p370 q370
                      cases e370
                      replace p370 := eq_true p370; replace q370 := eq_true q370; have p371 : 0 ≤ ((rd x7_3 (ji14)) : Int) := of_decide_eq_true za_; have q371 : (rd x7_3 (ji14)) < (t355.length : Int) := of_decide_eq_true za_; obtain ⟨ad371, A371_0, c371_0, e371, hx371_0, hl371_0, hi371_0⟩ := at_L4 (Kd.S_reads' HO_6.out).2.2 (rd x7_3 (ji14)) p371 q371; obtain rfl : ad369 = ad371 := (by injection e371); obtain ⟨ce371, hce371, hMe371, hcc371⟩ := Kd.S_get HO_6.out [] (rd x7_3 (ji14)) p371 (by first | exact q371 | exact of_decide_eq_true za_ | (have e_ := (Kd.S_reads' HO_6.out).1; omega)); obtain ⟨ve371_0, rfl, ge371_0⟩ := hMe371; have hv371_0 := hcc371 0 _ rfl; rw [Nat.add_zero, show ((Kd.slice 3 (Kd.int .i64))).sz = 1 from rfl, Nat.mul_one] at hv371_0; replace hv371_0 := Option.some.inj (hv371_0.symm.trans hx371_0); rw [hv371_0] at ge371_0; have HL371_0 := aM (show Kd.R (Kd.int .i64) 3 _ _ _ _ (rd_L4 t355 (rd x7_3 (ji14))) from ge371_0); clear hv371_0 ge371_0 hcc371 hce371; have HR371_0 := aM hi371_0; have HC371_0 := aM hl371_0; clear hi371_0 hl371_0; replace p371 := eq_true p371; replace q371 := eq_true q371; have p372 : 0 ≤ ((rd x7_3 x10_3) : Int) := of_decide_eq_true za_; have q372 : (rd x7_3 x10_3) < ((rd_L4 t355 (rd x7_3 (ji14))).length : Int) := of_decide_eq_true za_; obtain ⟨ad372, e372, hx372_0⟩ := Kd.at_int (by repeat (first | (with_reducible exact HR371_0.out) | (with_reducible refine cA ?_ _) | (with_reducible refine cN ?_ _) | (with_reducible refine cD ?_) | exact HR371_0.out)) (rd x7_3 x10_3) p372 q372
                      cases e372
                      replace p372 := eq_true p372; replace q372 := eq_true q372
                      go_wp2
                      repeat (go_quiet (fail); try go_wp2)
                      go_roundg k3
                      case measure => have := HK1.out; have := HK2.out; have := HK3.out; omega
                      case rel => exact ⟨(x7_3), (x9_3), (wrap64 (x10_3 + 1)), zc_, zc_, H', ⟨zbd_⟩, ⟨zs HO_6.out⟩, ⟨zr HO_7.out⟩, ⟨zb_⟩⟩
                    ·rw [if_neg c24] at H
                     exact q3n_ H
                   ·rw [if_neg c23] at H
                    exact q3n_ H
                  ·rw [if_neg c22] at H
                   exact q3n_ H
                 ·rw [if_neg c21] at H
                  exact q3n_ H
                ·rw [if_neg c20] at H
                 exact q3n_ H
               ·rw [if_neg c19] at H
                exact q3n_ H
              ·rw [if_neg c18] at H
               exact q3n_ H
             ·rw [if_neg c17] at H
              exact q3n_ H
            ·rw [if_neg c16] at H
             exact q3n_ H
           ·rw [if_neg c15] at H
            exact q3n_ H
          ·rw [if_neg c13] at H
           have c13b0 := decide_eq_false c13; clear c13; have H' := aM H; clear H
           go_wp2
           repeat (go_quiet (fail); try go_wp2)
           go_roundg k3
           case measure => have := HK1.out; have := HK2.out; have := HK3.out; omega
           case rel => exact ⟨(x7_3), (x9_3), zc_, H', ⟨zbd_⟩, ⟨zs HO_6.out⟩, ⟨zr HO_7.out⟩, ⟨zb_⟩⟩
       ·replace c12 := Bool.eq_false_iff.mpr c12
        subst c12; have H1 : ((impl_placesOf.f k2 x7_2).bind fun t364 => (some (t364, true))) = some (r1, r2) := by rw [if_neg (show ¬ (false = true) by decide)] at H; exact H
        clear H; have H := H1; clear H1; replace H := oB.mp H; obtain ⟨t364, A360, H⟩ := H; replace H : (some (t364, true)) = some (r1, r2) := H; have A36 := aM A360; clear A360
        simp only [Option.some.injEq, Prod.mk.injEq] at H
        obtain ⟨rfl, rfl⟩ := H; obtain ⟨Ao37, co37, eo37⟩ := Kd.R_slice HO_7.out; subst eo37
        go_wp2_with (first | (go_at_call 94; (with_reducible refine (impl_placesOf.calls k2 _ _ x7_2 t364 _ ?side1 ?side2 A36.out).mono ?_); (case side1 => exact zfa_); (case side2 => exact zfb_); rintro e w38 ⟨v365, rfl, ho0, hb⟩; have n_ := z (Kd.S_elder' (zs HO_6.out) (Kd.R_base ho0) hb) <| z (Kd.R_elder' (zr HO_7.out) (Kd.R_base ho0) hb) <| z (Kd.R_lower (Kd.R_new' ho0 (Kd.R_lt (zr HO_7.out))) (below_size zb_)) <| z1 (below_step zb_ hb); clear HO_6 HO_7 HB; obtain ⟨HO_6, HO_7, HO366, HB⟩ := n_; clear hb; (try clear ho0)))
        repeat (go_quiet (first | (go_at_call 94; (with_reducible refine (impl_placesOf.calls k2 _ _ x7_2 t364 _ ?side1 ?side2 A36.out).mono ?_); (case side1 => exact zfa_); (case side2 => exact zfb_); rintro e w38 ⟨v365, rfl, ho0, hb⟩; have n_ := z (Kd.S_elder' (zs HO_6.out) (Kd.R_base ho0) hb) <| z (Kd.R_elder' (zr HO_7.out) (Kd.R_base ho0) hb) <| z (Kd.R_lower (Kd.R_new' ho0 (Kd.R_lt (zr HO_7.out))) (below_size zb_)) <| z1 (below_step zb_ hb); clear HO_6 HO_7 HB; obtain ⟨HO_6, HO_7, HO366, HB⟩ := n_; clear hb; (try clear ho0))); try go_wp2_with (first | (go_at_call 94; (with_reducible refine (impl_placesOf.calls k2 _ _ x7_2 t364 _ ?side1 ?side2 A36.out).mono ?_); (case side1 => exact zfa_); (case side2 => exact zfb_); rintro e w38 ⟨v365, rfl, ho0, hb⟩; have n_ := z (Kd.S_elder' (zs HO_6.out) (Kd.R_base ho0) hb) <| z (Kd.R_elder' (zr HO_7.out) (Kd.R_base ho0) hb) <| z (Kd.R_lower (Kd.R_new' ho0 (Kd.R_lt (zr HO_7.out))) (below_size zb_)) <| z1 (below_step zb_ hb); clear HO_6 HO_7 HB; obtain ⟨HO_6, HO_7, HO366, HB⟩ := n_; clear hb; (try clear ho0))))
        go_ret2
        exact ⟨_, zh_, by refine zr ?_; exact Kd.R_mono HO366.out (fun _ hk => trivial), zb_⟩
 ·replace c4 := Bool.eq_false_iff.mpr c4
  subst c4; have H1 : (some (([] : List Int), false)) = some (r1, r2) := by rw [if_neg (show ¬ (false = true) by decide)] at H; exact H
  clear H; have H := H1; clear H1
  simp only [Option.some.injEq, Prod.mk.injEq] at H
  obtain ⟨rfl, rfl⟩ := H
  go_enter Try.func44, Try.ntmps44
  go_wp2_with (first | (go_at_call 48; (with_reducible refine (impl_AreLevelWires.calls k _ _ l0 a1 false _ ?side1 ?side2 A3.out).mono ?_); (case side1 => exact zi_); (case side2 => exact HC0.out); rintro e w' ⟨rfl, ⟨nd, rfl⟩⟩; (try exact q3d_)))
  repeat (go_quiet (first | (go_at_call 48; (with_reducible refine (impl_AreLevelWires.calls k _ _ l0 a1 false _ ?side1 ?side2 A3.out).mono ?_); (case side1 => exact zi_); (case side2 => exact HC0.out); rintro e w' ⟨rfl, ⟨nd, rfl⟩⟩; (try exact q3d_))); try go_wp2_with (first | (go_at_call 48; (with_reducible refine (impl_AreLevelWires.calls k _ _ l0 a1 false _ ?side1 ?side2 A3.out).mono ?_); (case side1 => exact zi_); (case side2 => exact HC0.out); rintro e w' ⟨rfl, ⟨nd, rfl⟩⟩; (try exact q3d_))))
  go_ret2
  exact ⟨_, zh_, zed_, zb_⟩
def spec_plOrder.l0 : Nat → List Int → List Int → Int → Int → Option (List Int)
 | 0, _, _, _, _ => none
 | k + 1, x3, x9, x10, x11 => if x11 < x10 then (if 0 ≤ x11 then (if x11 < (x9.length : Int) then (if 0 ≤ (rd x9 x11) then (if (rd x9 x11) < (x3.length : Int) then (spec_plOrder.l0 k (x3.set ((rd x9 x11) : Int).toNat x11) x9 x10 (wrap64 (x11 + 1))) else (none)) else (none)) else (none)) else (none)) else (some x3)
def spec_plOrder.f (k : Nat) (l0 : List Int) : Option (List Int) := if 0 ≤ (l0.length : Int) then (if ((l0.length : Int) : Int).toNat ≤ 35184372088832 then (spec_plOrder.l0 k (List.replicate ((l0.length : Int) : Int).toNat 0) l0 (l0.length : Int) 0) else (none)) else (none)
theorem spec_plOrder.calls (k : Nat) (A0 : Option Addr) (c0 : Nat) (l0 : List Int) (r : List Int) (w : World) (hr0 : Kd.C (Kd.int .i64) w A0 l0.length l0) (hc0 : l0.length ≤ c0) (h : spec_plOrder.f k l0 = some r) :
  Calls Try.prog 95 #[.slice A0 l0.length c0] w fun e w' => ∃ v0_ : Value, e = .returned (v0_) ∧ Kd.R (Kd.int .i64) 3 w' w.heap.size (fun _ => True) v0_ r ∧ Below w.heap.size w w' := by
 have HR0 := aM hr0
 have HC0 := aM hc0
 clear hr0 hc0
 have HB := aM (Below.refl w.heap.size w)
 have H : (if 0 ≤ (l0.length : Int) then (if ((l0.length : Int) : Int).toNat ≤ 35184372088832 then (spec_plOrder.l0 k (List.replicate ((l0.length : Int) : Int).toNat 0) l0 (l0.length : Int) 0) else (none)) else (none)) = some r := h
 clear h
 by_cases c2 : 0 ≤ (l0.length : Int)
 ·rw [if_pos c2] at H
  have c2b0 := eq_true c2; have c2b1 := decide_eq_true c2; clear c2
  by_cases c3 : ((l0.length : Int) : Int).toNat ≤ 35184372088832
  ·rw [if_pos c3] at H
   have c3b0 := eq_true c3; have c3b1 := decide_eq_true c3; clear c3; obtain ⟨y375, hy375⟩ : ∃ y_ : List Int, y_ = (List.replicate ((l0.length : Int) : Int).toNat 0) := ⟨_, rfl⟩; replace H : (spec_plOrder.l0 k y375 l0 (l0.length : Int) 0) = some r := q3y_ hy375 H
   have Ny375 := aM hy375; clear hy375; have H' := aM H; clear H
   go_enter Try.func95, Try.ntmps95
   go_wp2_with (first | ((with_reducible refine gate_dst (N := 8) rfl ?_); refine Kd.R_make (Kd.int .i64) _ 3 rfl (N := 8) rfl 39 _ _ rfl (l0.length : Int) rfl rfl Try.underlying39 (.int .i64 0) 8 info3 rfl (by decide) (by omega) 0 (ok := fun _ => True) (okp := fun _ => True) rfl (fun _ hk => hk) trivial (of_decide_eq_true za_) (Nat.le_trans (Nat.mul_le_mul_right _ (of_decide_eq_true za_ : (l0.length : Int).toNat ≤ 35184372088832)) (by omega)) (Below.refl _ _) (Nat.le_refl _) ?_; intro v376 w4 ho5 hb hg_ hnew_; clear hg_ hnew_; (first | rw [← Ny375.out] at ho5 | (simp only [Int.reduceToNat] at ho5; rw [← Ny375.out] at ho5)); have n_ := z (Kd.R_lower ho5 (below_size zb_)) <| z1 (below_step zb_ hb); clear HB; obtain ⟨HO377, HB⟩ := n_; clear hb ho5))
   go_loopg [11] k (fun kq v11 w' => ∃ (x3_1 : List Int) (x11_1 : Int), v11 = .int .i64 x11_1 ∧ Aside0 (spec_plOrder.l0 kq x3_1 l0 (l0.length : Int) x11_1 = some r) ∧ Aside0 (kq ≤ k) ∧ Aside0 (Kd.R (Kd.int .i64) 3 w' w.heap.size (fun _ => True) v376 x3_1) ∧ Aside0 (Below w.heap.size w w'))
   case atStart => exact ⟨(y375), (0), zc_, H', ⟨Nat.le_refl _⟩, ⟨zr HO377.out⟩, ⟨zb_⟩⟩
   case round =>
    clear H'; (try clear c2b0); (try clear c2b1); (try clear c3b0); (try clear c3b1); obtain ⟨x3_1, x11_1, rfl, HA, HK1, HO_3, HB⟩ := hrel
    cases gk with
    | zero => exact absurd HA.out (by simp [spec_plOrder.l0])
    | succ k1 =>
     have H := HA.out; clear HA
     simp only [spec_plOrder.l0] at H
     by_cases c6 : x11_1 < (l0.length : Int)
     ·rw [if_pos c6] at H
      have c6b0 := decide_eq_true c6; clear c6
      by_cases c7 : 0 ≤ x11_1
      ·rw [if_pos c7] at H
       have c7b0 := decide_eq_true c7; clear c7
       by_cases c8 : x11_1 < (l0.length : Int)
       ·rw [if_pos c8] at H
        have c8b0 := decide_eq_true c8; clear c8
        by_cases c9 : 0 ≤ (rd l0 x11_1)
        ·rw [if_pos c9] at H
         have c9b0 := decide_eq_true c9; clear c9
         by_cases c10 : (rd l0 x11_1) < (x3_1.length : Int)
         ·rw [if_pos c10] at H
          have c10b0 := decide_eq_true c10; clear c10; obtain ⟨y379, hy379⟩ : ∃ y_ : List Int, y_ = (x3_1.set ((rd l0 x11_1) : Int).toNat x11_1) := ⟨_, rfl⟩; replace H : (spec_plOrder.l0 k1 y379 l0 (l0.length : Int) (wrap64 (x11_1 + 1))) = some r := q3y_ hy379 H
          have Ny379 := aM hy379; clear hy379; have H' := aM H; clear H; have p378 : 0 ≤ (x11_1 : Int) := of_decide_eq_true za_; have q378 : x11_1 < (l0.length : Int) := of_decide_eq_true za_; obtain ⟨ad378, e378, hx378_0⟩ := Kd.at_int HR0.out x11_1 p378 q378
          cases e378
          (try (replace hx378_0 := q3h_ HB.out hx378_0)); replace p378 := eq_true p378; replace q378 := eq_true q378; have p11 : 0 ≤ ((rd l0 x11_1) : Int) := of_decide_eq_true za_; have q11 : ((rd l0 x11_1) : Int) < ((x3_1.length : Int) : Int) := of_decide_eq_true za_; obtain ⟨go11, co11, eo11, gb11, gl11, cl11, HG11⟩ := Kd.R_form HO_3.out (by omega); (first | cases eo11 | (injection eo11 with ea_ en_ ec_; (first | subst ea_ | (injection ea_ with ea_; subst ea_)); subst ec_; clear en_)); have GB11 := aM gb11; have GG11 := aM HG11; clear gb11 gl11 HG11; obtain ⟨hx11_0, hf11_0⟩ := Kd.R_celln 0 HO_3.out ((rd l0 x11_1) : Int) p11 q11; replace p11 := eq_true p11; replace q11 := eq_true q11; have HP12 := Kd.R_putg HO_3.out ((rd l0 x11_1) : Int) x11_1
          go_wp2_with (first | ((with_reducible refine gate_store (t := 3) (p := 19) rfl ?_); refine store_event (t := 3) (p := 19) (v := ?vo_w13) (w1 := (wr.setCell ⟨go11, ((rd l0 x11_1) : Int).toNat, none⟩ (.int .i64 x11_1))) ?hg ?ho ?hn ?hr ?_; (case ho => rfl); (case hg => rfl); (case hn => rfl); (case hr => exact zd_); intro w13 hw; have hg : wr.grownBy w13 (some go11) := (by rw [hw]; exact HP12.2); have hp_ : Kd.R (Kd.int .i64) 3 w13 w.heap.size (fun _ => True) (.slice (some ⟨go11, 0, none⟩) x3_1.length co11) y379 := (by rw [hw, Ny379.out]; exact HP12.1); clear HP12; have n_ := z (hp_) <| z1 ((by rw [hw]; exact below_set (HB.out) GB11.out : Below w.heap.size w w13)); clear HO_3 HB; obtain ⟨HO_3, HB⟩ := n_; clear hg hw hp_))
          go_roundg k1
          case measure => have := HK1.out; omega
          case rel => exact ⟨(y379), (wrap64 (x11_1 + 1)), zc_, H', ⟨zbe_⟩, ⟨zr HO_3.out⟩, ⟨zb_⟩⟩
         ·rw [if_neg c10] at H
          exact q3n_ H
        ·rw [if_neg c9] at H
         exact q3n_ H
       ·rw [if_neg c8] at H
        exact q3n_ H
      ·rw [if_neg c7] at H
       exact q3n_ H
     ·rw [if_neg c6] at H
      have c6b0 := decide_eq_false c6; clear c6; obtain rfl := Option.some.inj H
      go_wp2
      go_ret
      exact ⟨_, zh_, by refine zr ?_; exact HO_3.out, zb_⟩
  ·rw [if_neg c3] at H
   exact q3n_ H
 ·rw [if_neg c2] at H
  exact q3n_ H
end Go.Proofs.Ytlnhpkjioppbiaa.QFnLevels
