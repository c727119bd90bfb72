/- Functions of FnCrossings, each as a Lean function, with the proof that the Go code comes to its answers. -/
import Derived.Test.YtbkighlfgaifeaaSFnCrossingsx0
import Derived.Test.YtbkighlfgaifeaaSFnCrossingsx3
import Derived.Test.YtbkighlfgaifeaaSFnCrossingsx5
namespace Go.Proofs.Ytbkighlfgaifeaa.QFnCrossings
open Go.RowKit Go.Proofs.YtbkighlfgaifeaaW.PrintWords Go.Proofs.YtbkighlfgaifeaaW.PrintLast Go.Proofs.YtbkighlfgaifeaaW.PrintMore
open Go.Proofs.YtbkighlfgaifeaaW.PrintWords renaming pw_below_drewN → pN, below_drew1 → p1, below_alloc → pA
open Go.Proofs.YtbkighlfgaifeaaW.PrintWords.Kd renaming R_alloc → kA, R_drewN → kN, R_drew → kD, Q_alloc → qA, Q_drewN → qN, Q_drew → qD, C_alloc → cA, C_drewN → cN, C_drew → cD
open Go.Proofs.YtbkighlfgaifeaaW.PrintWords.Aside0 renaming mk → aM
open List renaming setIfInBounds_toArray → sI, set_cons_zero → s0, set_cons_succ → sS, map_toArray → mT, length_take → lT, length_drop → lD, map_cons → mC, map_nil → mN
open Option renaming bind_eq_some_iff → oB, bind_some → oS
attribute [local go_sem] max2_int min2_int max_two min_two max_three min_three max_four min_four
set_option maxHeartbeats 8000000
set_option maxRecDepth 100000
set_option linter.unusedVariables false
set_option linter.unusedSimpArgs false
def spec_CrossingTable.f (k : Nat) (l0 : List (List Int)) (a1 : Int) : Option ((List (List Int)) × Bool) := (spec_plWires.f k l0 a1).bind fun t181 => (if t181 = true then ((spec_plTable.f k l0 a1).bind fun t182 => (some (t182, true))) else (some (([] : List (List Int)), false)))
theorem spec_CrossingTable.calls (k : Nat) (A0 : Option Addr) (c0 : Nat) (l0 : List (List Int)) (a1 : Int) (r1 : List (List Int)) (r2 : Bool) (w : World) (hr0 : Kd.C (Kd.slice 3 (Kd.int .i64)) w A0 l0.length l0) (hc0 : l0.length ≤ c0) (h : spec_CrossingTable.f k l0 a1 = some (r1, r2)) :
  Calls Try.prog 63 #[.slice A0 l0.length c0, .int .i64 a1] w fun e w' => ∃ v0_ : Value, e = .returned (.tuple #[v0_, .bool r2]) ∧ Kd.S (Kd.slice 3 (Kd.int .i64)) 24 w' w.heap.size (fun _ => True) v0_ r1 ∧ Below w.heap.size w w' := by
 have HR0 := aM hr0
 have HC0 := aM hc0
 clear hr0 hc0
 have HB := aM (Below.refl w.heap.size w)
 have H : ((spec_plWires.f k l0 a1).bind fun t181 => (if t181 = true then ((spec_plTable.f k l0 a1).bind fun t182 => (some (t182, true))) else (some (([] : List (List Int)), false)))) = some (r1, r2) := h
 clear h
 replace H := oB.mp H
 obtain ⟨t181, A30, H⟩ := H
 replace H : (if t181 = true then ((spec_plTable.f k l0 a1).bind fun t182 => (some (t182, true))) else (some (([] : List (List Int)), false))) = some (r1, r2) := H
 have A3 := aM A30
 clear A30
 by_cases c4 : t181 = true
 ·subst c4
  have H1 : ((spec_plTable.f k l0 a1).bind fun t182 => (some (t182, true))) = some (r1, r2) := by rw [if_pos rfl] at H; exact H
  clear H; have H := H1; clear H1; replace H := oB.mp H; obtain ⟨t182, A50, H⟩ := H; replace H : (some (t182, true)) = some (r1, r2) := H; have A5 := aM A50; clear A50
  simp only [Option.some.injEq, Prod.mk.injEq] at H
  obtain ⟨rfl, rfl⟩ := H
  go_enter Try.func63, Try.ntmps63
  go_wp2_with (first | ((with_reducible refine gate_callee (f := 147) rfl ?_); refine goesL_ (some 8) rfl rfl Try.func147 (by kernel_rfl) rfl #[.slice A0 l0.length c0, .int .i64 a1] rfl zd_ ?_; (with_reducible refine (spec_plWires.calls k _ _ l0 a1 true _ ?side1 ?side2 A3.out).mono ?_); (case side1 => exact zba_); (case side2 => exact HC0.out); rintro e w' ⟨rfl, ⟨nd, rfl⟩⟩; refine ⟨_, rfl, ?_⟩) | ((with_reducible refine gate_callee (f := 148) rfl ?_); refine goesL_ (some 12) rfl rfl Try.func148 (by kernel_rfl) rfl #[.slice A0 l0.length c0, .int .i64 a1] rfl zd_ ?_; (with_reducible refine (spec_plTable.calls k _ _ l0 a1 t182 _ ?side1 ?side2 A5.out).mono ?_); (case side1 => exact zba_); (case side2 => exact HC0.out); rintro e w6 ⟨v183, rfl, ho0, hb⟩; refine ⟨_, rfl, ?_⟩; have n_ := z (Kd.S_lower ho0 (below_size zc_)) <| z1 (below_step zc_ hb); clear HB; obtain ⟨HO184, HB⟩ := n_; clear hb; (try clear ho0)))
  go_ret2
  exact ⟨_, zg_, by refine zs ?_; exact HO184.out, zc_⟩
 ·replace c4 := Bool.eq_false_iff.mpr c4
  subst c4; have H1 : (some (([] : List (List Int)), false)) = some (r1, r2) := by rw [if_neg (show ¬ (false = true) by decide)] at H; exact H
  clear H; have H := H1; clear H1
  simp only [Option.some.injEq, Prod.mk.injEq] at H
  obtain ⟨rfl, rfl⟩ := H
  go_enter Try.func63, Try.ntmps63
  go_wp2_with (first | ((with_reducible refine gate_callee (f := 147) rfl ?_); refine goesL_ (some 8) rfl rfl Try.func147 (by kernel_rfl) rfl #[.slice A0 l0.length c0, .int .i64 a1] rfl zd_ ?_; (with_reducible refine (spec_plWires.calls k _ _ l0 a1 false _ ?side1 ?side2 A3.out).mono ?_); (case side1 => exact zba_); (case side2 => exact HC0.out); rintro e w' ⟨rfl, ⟨nd, rfl⟩⟩; refine ⟨_, rfl, ?_⟩))
  go_ret2
  exact ⟨_, zg_, zcf_, zc_⟩
mutual
def impl_CountCrossings.l0 : Nat → List (List Int) → Int → List (List Int) → Int → Int → Option (Int × Bool)
 | 0, _, _, _, _, _ => none
 | k + 1, x0, x6, x15, x16, x17 => if x17 < x16 then (if 0 ≤ x17 then (if x17 < (x15.length : Int) then (if x17 ≤ (x0.length : Int) then ((some (x0.take (x17 : Int).toNat : List (List Int))).bind fun y187 => (impl_CountCrossings.l1 k x0 x6 (rd_L2 x15 x17) x15 x16 x17 y187 (y187.length : Int) 0)) else (none)) else (none)) else (none)) else (some (x6, true))
def impl_CountCrossings.l1 : Nat → List (List Int) → Int → List Int → List (List Int) → Int → Int → List (List Int) → Int → Int → Option (Int × Bool)
 | 0, _, _, _, _, _, _, _, _, _ => none
 | k + 1, x0, x6, x8, x15, x16, x17, x24, x25, x26 => if x26 < x25 then (if 0 ≤ x26 then (if x26 < (x24.length : Int) then (if 0 < (x8.length : Int) then (if 0 < ((rd_L2 x24 x26).length : Int) then (if 1 < (x8.length : Int) then (if 1 < ((rd_L2 x24 x26).length : Int) then (if (wrap64 ((wrap64 ((rd x8 0) - (rd (rd_L2 x24 x26) 0))) * (wrap64 ((rd x8 1) - (rd (rd_L2 x24 x26) 1))))) < 0 then (impl_CountCrossings.l1 k x0 (wrap64 (x6 + 1)) x8 x15 x16 x17 x24 x25 (wrap64 (x26 + 1))) else (impl_CountCrossings.l1 k x0 x6 x8 x15 x16 x17 x24 x25 (wrap64 (x26 + 1)))) else (none)) else (none)) else (none)) else (none)) else (none)) else (none)) else (impl_CountCrossings.l0 k x0 x6 x15 x16 (wrap64 (x17 + 1)))
end
def impl_CountCrossings.f (k : Nat) (l0 : List (List Int)) (a1 : Int) : Option (Int × Bool) := (impl_AreLevelWires.f k l0 a1).bind fun t185 => (if t185 = true then (impl_CountCrossings.l0 k l0 0 l0 (l0.length : Int) 0) else (some (0, false)))
theorem impl_CountCrossings.calls (k : Nat) (A0 : Option Addr) (c0 : Nat) (l0 : List (List Int)) (a1 : Int) (r1 : Int) (r2 : Bool) (w : World) (hr0 : Kd.C (Kd.slice 3 (Kd.int .i64)) w A0 l0.length l0) (hc0 : l0.length ≤ c0) (h : impl_CountCrossings.f k l0 a1 = some (r1, r2)) :
  Calls Try.prog 64 #[.slice A0 l0.length c0, .int .i64 a1] w fun e w' => e = .returned (.tuple #[.int .i64 r1, .bool r2]) ∧ Drawn0 w w' := by
 have HR0 := aM hr0
 have HC0 := aM hc0
 clear hr0 hc0
 have H : ((impl_AreLevelWires.f k l0 a1).bind fun t185 => (if t185 = true then (impl_CountCrossings.l0 k l0 0 l0 (l0.length : Int) 0) else (some (0, false)))) = some (r1, r2) := h
 clear h
 replace H := oB.mp H
 obtain ⟨t185, A30, H⟩ := H
 replace H : (if t185 = true then (impl_CountCrossings.l0 k l0 0 l0 (l0.length : Int) 0) else (some (0, false))) = some (r1, r2) := H
 have A3 := aM A30
 clear A30
 by_cases c4 : t185 = true
 ·subst c4
  have H1 : (impl_CountCrossings.l0 k l0 0 l0 (l0.length : Int) 0) = some (r1, r2) := by rw [if_pos rfl] at H; exact H
  clear H; have H := H1; clear H1; have H' := aM H; clear H
  go_enter Try.func64, Try.ntmps64
  go_wp2_with (first | (go_at_call 69; (with_reducible refine (impl_AreLevelWires.calls k _ _ l0 a1 true _ ?side1 ?side2 A3.out).mono ?_); (case side1 => exact zba_); (case side2 => exact HC0.out); rintro e w' ⟨rfl, ⟨nd, rfl⟩⟩; (try first | exact ⟨rfl, _, World.drewN_drewN _ _ _⟩ | exact ⟨rfl, _, Eq.trans (World.drewN_drewN _ _ _) (congrArg (World.drewN _) (Nat.add_assoc _ _ _))⟩)))
  repeat (go_quiet (first | (go_at_call 69; (with_reducible refine (impl_AreLevelWires.calls k _ _ l0 a1 true _ ?side1 ?side2 A3.out).mono ?_); (case side1 => exact zba_); (case side2 => exact HC0.out); rintro e w' ⟨rfl, ⟨nd, rfl⟩⟩; (try first | exact ⟨rfl, _, World.drewN_drewN _ _ _⟩ | exact ⟨rfl, _, Eq.trans (World.drewN_drewN _ _ _) (congrArg (World.drewN _) (Nat.add_assoc _ _ _))⟩))); try go_wp2_with (first | (go_at_call 69; (with_reducible refine (impl_AreLevelWires.calls k _ _ l0 a1 true _ ?side1 ?side2 A3.out).mono ?_); (case side1 => exact zba_); (case side2 => exact HC0.out); rintro e w' ⟨rfl, ⟨nd, rfl⟩⟩; (try first | exact ⟨rfl, _, World.drewN_drewN _ _ _⟩ | exact ⟨rfl, _, Eq.trans (World.drewN_drewN _ _ _) (congrArg (World.drewN _) (Nat.add_assoc _ _ _))⟩))))
  go_loopg [6, 17] k (fun kq v6 v17 w' => ∃ (x6_1 : Int) (x17_1 : Int), v6 = .int .i64 x6_1 ∧ v17 = .int .i64 x17_1 ∧ Aside0 (impl_CountCrossings.l0 kq l0 x6_1 l0 (l0.length : Int) x17_1 = some (r1, r2)) ∧ Aside0 (kq ≤ k) ∧ Drawn0 w w')
  case atStart => exact ⟨(0), (0), zb_, zb_, H', ⟨Nat.le_refl _⟩, zf_⟩
  case round =>
   clear H'; obtain ⟨x6_1, x17_1, rfl, rfl, HA, HK1, ⟨m1, rfl⟩⟩ := hrel
   cases gk with
   | zero => exact absurd HA.out (by simp [impl_CountCrossings.l0])
   | succ k1 =>
    have H := HA.out; clear HA
    simp only [impl_CountCrossings.l0] at H
    by_cases c5 : x17_1 < (l0.length : Int)
    ·rw [if_pos c5] at H
     have c5b0 := decide_eq_true c5; clear c5
     by_cases c6 : 0 ≤ x17_1
     ·rw [if_pos c6] at H
      have c6b0 := decide_eq_true c6; clear c6
      by_cases c7 : x17_1 < (l0.length : Int)
      ·rw [if_pos c7] at H
       have c7b0 := decide_eq_true c7; clear c7; have c8b0 := eq_true (of_decide_eq_true za_ : 0 ≤ x17_1)
       by_cases c9 : x17_1 ≤ (l0.length : Int)
       ·rw [if_pos c9] at H
        have c9b0 := eq_true c9; have c9b1 := decide_eq_true c9; clear c9; obtain ⟨y187, hy187⟩ : ∃ y_ : List (List Int), y_ = (l0.take (x17_1 : Int).toNat) := ⟨_, rfl⟩; replace H : (impl_CountCrossings.l1 k1 l0 x6_1 (rd_L2 l0 x17_1) l0 (l0.length : Int) x17_1 y187 (y187.length : Int) 0) = some (r1, r2) := by first | (rw [hy187]; with_reducible exact H) | (have H2_ := (oS _ _).symm.trans H; rw [hy187]; with_reducible exact H2_) | (have H2_ := (oS _ _).symm.trans H; with_reducible exact H2_) | with_reducible exact H | (rw [hy187]; exact H) | exact H
        have Ny187 := aM hy187; clear hy187; have H' := aM H; clear H; have p186 : 0 ≤ (x17_1 : Int) := of_decide_eq_true za_; have q186 : x17_1 < (l0.length : Int) := of_decide_eq_true za_; obtain ⟨ad186, A186_0, c186_0, e186, hx186_0, hl186_0, hi186_0⟩ := at_L2 HR0.out x17_1 p186 q186
        cases e186
        have HR186_0 := aM hi186_0; have HC186_0 := aM hl186_0; clear hi186_0 hl186_0; replace p186 := eq_true p186; replace q186 := eq_true q186; have q10 : (x17_1 : Int) ≤ ((l0.length : Int) : Int) := of_decide_eq_true za_; obtain ⟨i010, hi010, _, hsz10, _⟩ := info_parts info24; have hroom10 : l0.length ≤ c0 := HC0.out; have hC10 : Kd.C (Kd.slice 3 (Kd.int .i64)) _ (some ad186) l0.length l0 := HR0.out; have hcut10 := cut_to (P := Try.prog) 52 24 .i64 Try.underlying52 hi010 (some ad186) l0.length c0 x17_1 (of_decide_eq_true za_) q10 hroom10; have hr10 := Kd.C_take (m := (x17_1 : Int).toNat) hC10 (by omega); have hy10 : y187.length = (x17_1 : Int).toNat := (by rw [Ny187.out, lT]; omega); rw [← Ny187.out] at hr10; rw [← hy10] at hcut10; have HR190 := aM hr10; have HC190 := aM (show y187.length ≤ c0 from by omega); clear hr10 hC10 hroom10 hi010 hsz10; have KY10 := aM hy10; clear hy10; replace q10 := eq_true q10
        go_wp2
        repeat (go_quiet (fail); try go_wp2)
        go_loopg [6, 26] k1 (fun kq v6 v26 w' => ∃ (x6_2 : Int) (x26_2 : Int), v6 = .int .i64 x6_2 ∧ v26 = .int .i64 x26_2 ∧ Aside0 (impl_CountCrossings.l1 kq l0 x6_2 (rd_L2 l0 x17_1) l0 (l0.length : Int) x17_1 y187 (y187.length : Int) x26_2 = some (r1, r2)) ∧ Aside0 (kq ≤ k1) ∧ Drawn0 w w')
        case atStart => exact ⟨(x6_1), (0), zb_, zb_, H', ⟨Nat.le_refl _⟩, zf_⟩
        case round =>
         clear H'; (try clear c5b0); (try clear c6b0); (try clear c7b0); (try clear c8b0); (try clear c9b0); (try clear c9b1); (try clear q10); (try clear hx186_0); (try clear p186); (try clear q186); obtain ⟨x6_2, x26_2, rfl, rfl, HA, HK2, ⟨m2, rfl⟩⟩ := hrel
         cases gk with
         | zero => exact absurd HA.out (by simp [impl_CountCrossings.l1])
         | succ k2 =>
          have H := HA.out; clear HA
          simp only [impl_CountCrossings.l1] at H
          by_cases c11 : x26_2 < (y187.length : Int)
          ·rw [if_pos c11] at H
           have c11b0 := decide_eq_true c11; clear c11
           by_cases c12 : 0 ≤ x26_2
           ·rw [if_pos c12] at H
            have c12b0 := decide_eq_true c12; clear c12
            by_cases c13 : x26_2 < (y187.length : Int)
            ·rw [if_pos c13] at H
             have c13b0 := decide_eq_true c13; clear c13
             by_cases c14 : 0 < ((rd_L2 l0 x17_1).length : Int)
             ·rw [if_pos c14] at H
              have c14b0 := decide_eq_true c14; have c14b1 : decide (0 < (rd_L2 l0 x17_1).length) = true := decide_eq_true (by omega); clear c14
              by_cases c15 : 0 < ((rd_L2 y187 x26_2).length : Int)
              ·rw [if_pos c15] at H
               have c15b0 := decide_eq_true c15; have c15b1 : decide (0 < (rd_L2 y187 x26_2).length) = true := decide_eq_true (by omega); clear c15
               by_cases c16 : 1 < ((rd_L2 l0 x17_1).length : Int)
               ·rw [if_pos c16] at H
                have c16b0 := decide_eq_true c16; have c16b1 : decide (1 < (rd_L2 l0 x17_1).length) = true := decide_eq_true (by omega); clear c16
                by_cases c17 : 1 < ((rd_L2 y187 x26_2).length : Int)
                ·rw [if_pos c17] at H
                 have c17b0 := decide_eq_true c17; have c17b1 : decide (1 < (rd_L2 y187 x26_2).length) = true := decide_eq_true (by omega); clear c17
                 by_cases c18 : (wrap64 ((wrap64 ((rd (rd_L2 l0 x17_1) 0) - (rd (rd_L2 y187 x26_2) 0))) * (wrap64 ((rd (rd_L2 l0 x17_1) 1) - (rd (rd_L2 y187 x26_2) 1))))) < 0
                 ·rw [if_pos c18] at H
                  have c18b0 := decide_eq_true c18; clear c18; have H' := aM H; clear H; have p191 : 0 ≤ (x26_2 : Int) := of_decide_eq_true za_; have q191 : x26_2 < (y187.length : Int) := of_decide_eq_true za_; obtain ⟨ad191, A191_0, c191_0, e191, hx191_0, hl191_0, hi191_0⟩ := at_L2 HR190.out x26_2 p191 q191; obtain rfl : ad186 = ad191 := (by injection e191); have HR191_0 := aM hi191_0; have HC191_0 := aM hl191_0; clear hi191_0 hl191_0; replace p191 := eq_true p191; replace q191 := eq_true q191; have p192 : 0 ≤ (0 : Int) := (by omega); have q192 : 0 < ((rd_L2 l0 x17_1).length : Int) := of_decide_eq_true za_; obtain ⟨ad192, e192, hx192_0⟩ := Kd.at_int HR186_0.out 0 p192 q192
                  cases e192
                  have qi192 : (0 < (rd_L2 l0 x17_1).length) = True := eq_true (by omega); (try rw [show ((0 : Int)).toNat = 0 from rfl] at hx192_0); (try rw [Addr.add_zero'] at hx192_0); replace p192 := eq_true p192; replace q192 := eq_true q192; have p193 : 0 ≤ (0 : Int) := (by omega); have q193 : 0 < ((rd_L2 y187 x26_2).length : Int) := of_decide_eq_true za_; obtain ⟨ad193, e193, hx193_0⟩ := Kd.at_int HR191_0.out 0 p193 q193
                  cases e193
                  have qi193 : (0 < (rd_L2 y187 x26_2).length) = True := eq_true (by omega); (try rw [show ((0 : Int)).toNat = 0 from rfl] at hx193_0); (try rw [Addr.add_zero'] at hx193_0); replace p193 := eq_true p193; replace q193 := eq_true q193; have p194 : 0 ≤ (1 : Int) := (by omega); have q194 : 1 < ((rd_L2 l0 x17_1).length : Int) := of_decide_eq_true za_; obtain ⟨ad194, e194, hx194_0⟩ := Kd.at_int HR186_0.out 1 p194 q194; obtain rfl : ad192 = ad194 := (by injection e194); (try simp only [show (1 : Int).toNat = 1 from rfl, Nat.reduceMul, Nat.reduceEqDiff, Go.Addr.add, ↓reduceIte] at hx194_0); have qi194 : (1 < (rd_L2 l0 x17_1).length) = True := eq_true (by omega); (try rw [show ((1 : Int)).toNat = 1 from rfl] at hx194_0); replace p194 := eq_true p194; replace q194 := eq_true q194; have p195 : 0 ≤ (1 : Int) := (by omega); have q195 : 1 < ((rd_L2 y187 x26_2).length : Int) := of_decide_eq_true za_; obtain ⟨ad195, e195, hx195_0⟩ := Kd.at_int HR191_0.out 1 p195 q195; obtain rfl : ad193 = ad195 := (by injection e195); (try simp only [show (1 : Int).toNat = 1 from rfl, Nat.reduceMul, Nat.reduceEqDiff, Go.Addr.add, ↓reduceIte] at hx195_0); have qi195 : (1 < (rd_L2 y187 x26_2).length) = True := eq_true (by omega); (try rw [show ((1 : Int)).toNat = 1 from rfl] at hx195_0); replace p195 := eq_true p195; replace q195 := eq_true q195
                  go_wp2
                  repeat (go_quiet (fail); try go_wp2)
                  go_roundg k2
                  case measure => have := HK1.out; have := HK2.out; omega
                  case rel => exact ⟨(wrap64 (x6_2 + 1)), (wrap64 (x26_2 + 1)), zb_, zb_, H', ⟨zcg_⟩, zf_⟩
                 ·rw [if_neg c18] at H
                  have c18b0 := decide_eq_false c18; clear c18; have H' := aM H; clear H; have p191 : 0 ≤ (x26_2 : Int) := of_decide_eq_true za_; have q191 : x26_2 < (y187.length : Int) := of_decide_eq_true za_; obtain ⟨ad191, A191_0, c191_0, e191, hx191_0, hl191_0, hi191_0⟩ := at_L2 HR190.out x26_2 p191 q191; obtain rfl : ad186 = ad191 := (by injection e191); have HR191_0 := aM hi191_0; have HC191_0 := aM hl191_0; clear hi191_0 hl191_0; replace p191 := eq_true p191; replace q191 := eq_true q191; have p192 : 0 ≤ (0 : Int) := (by omega); have q192 : 0 < ((rd_L2 l0 x17_1).length : Int) := of_decide_eq_true za_; obtain ⟨ad192, e192, hx192_0⟩ := Kd.at_int HR186_0.out 0 p192 q192
                  cases e192
                  have qi192 : (0 < (rd_L2 l0 x17_1).length) = True := eq_true (by omega); (try rw [show ((0 : Int)).toNat = 0 from rfl] at hx192_0); (try rw [Addr.add_zero'] at hx192_0); replace p192 := eq_true p192; replace q192 := eq_true q192; have p193 : 0 ≤ (0 : Int) := (by omega); have q193 : 0 < ((rd_L2 y187 x26_2).length : Int) := of_decide_eq_true za_; obtain ⟨ad193, e193, hx193_0⟩ := Kd.at_int HR191_0.out 0 p193 q193
                  cases e193
                  have qi193 : (0 < (rd_L2 y187 x26_2).length) = True := eq_true (by omega); (try rw [show ((0 : Int)).toNat = 0 from rfl] at hx193_0); (try rw [Addr.add_zero'] at hx193_0); replace p193 := eq_true p193; replace q193 := eq_true q193; have p194 : 0 ≤ (1 : Int) := (by omega); have q194 : 1 < ((rd_L2 l0 x17_1).length : Int) := of_decide_eq_true za_; obtain ⟨ad194, e194, hx194_0⟩ := Kd.at_int HR186_0.out 1 p194 q194; obtain rfl : ad192 = ad194 := (by injection e194); (try simp only [show (1 : Int).toNat = 1 from rfl, Nat.reduceMul, Nat.reduceEqDiff, Go.Addr.add, ↓reduceIte] at hx194_0); have qi194 : (1 < (rd_L2 l0 x17_1).length) = True := eq_true (by omega); (try rw [show ((1 : Int)).toNat = 1 from rfl] at hx194_0); replace p194 := eq_true p194; replace q194 := eq_true q194; have p195 : 0 ≤ (1 : Int) := (by omega); have q195 : 1 < ((rd_L2 y187 x26_2).length : Int) := of_decide_eq_true za_; obtain ⟨ad195, e195, hx195_0⟩ := Kd.at_int HR191_0.out 1 p195 q195; obtain rfl : ad193 = ad195 := (by injection e195); (try simp only [show (1 : Int).toNat = 1 from rfl, Nat.reduceMul, Nat.reduceEqDiff, Go.Addr.add, ↓reduceIte] at hx195_0); have qi195 : (1 < (rd_L2 y187 x26_2).length) = True := eq_true (by omega); (try rw [show ((1 : Int)).toNat = 1 from rfl] at hx195_0); replace p195 := eq_true p195; replace q195 := eq_true q195
                  go_wp2
                  repeat (go_quiet (fail); try go_wp2)
                  go_roundg k2
                  case measure => have := HK1.out; have := HK2.out; omega
                  case rel => exact ⟨(x6_2), (wrap64 (x26_2 + 1)), zb_, zb_, H', ⟨zcg_⟩, zf_⟩
                ·rw [if_neg c17] at H
                 exact absurd H (by simp)
               ·rw [if_neg c16] at H
                exact absurd H (by simp)
              ·rw [if_neg c15] at H
               exact absurd H (by simp)
             ·rw [if_neg c14] at H
              exact absurd H (by simp)
            ·rw [if_neg c13] at H
             exact absurd H (by simp)
           ·rw [if_neg c12] at H
            exact absurd H (by simp)
          ·rw [if_neg c11] at H
           have c11b0 := decide_eq_false c11; clear c11; have H' := aM H; clear H
           go_wp2
           repeat (go_quiet (fail); try go_wp2)
           go_roundg k2
           case measure => have := HK1.out; have := HK2.out; omega
           case rel => exact ⟨(x6_2), (wrap64 (x17_1 + 1)), zb_, zb_, H', ⟨zcg_⟩, zf_⟩
       ·rw [if_neg c9] at H
        exact absurd H (by simp)
      ·rw [if_neg c7] at H
       exact absurd H (by simp)
     ·rw [if_neg c6] at H
      exact absurd H (by simp)
    ·rw [if_neg c5] at H
     have c5b0 := decide_eq_false c5; clear c5
     simp only [Option.some.injEq, Prod.mk.injEq] at H
     obtain ⟨rfl, rfl⟩ := H
     go_wp2
     repeat (go_quiet (fail); try go_wp2)
     go_ret2
     exact ⟨zb_, zf_⟩
 ·replace c4 := Bool.eq_false_iff.mpr c4
  subst c4; have H1 : (some (0, false)) = some (r1, r2) := by rw [if_neg (show ¬ (false = true) by decide)] at H; exact H
  clear H; have H := H1; clear H1
  simp only [Option.some.injEq, Prod.mk.injEq] at H
  obtain ⟨rfl, rfl⟩ := H
  go_enter Try.func64, Try.ntmps64
  go_wp2_with (first | (go_at_call 69; (with_reducible refine (impl_AreLevelWires.calls k _ _ l0 a1 false _ ?side1 ?side2 A3.out).mono ?_); (case side1 => exact zba_); (case side2 => exact HC0.out); rintro e w' ⟨rfl, ⟨nd, rfl⟩⟩; (try first | exact ⟨rfl, _, World.drewN_drewN _ _ _⟩ | exact ⟨rfl, _, Eq.trans (World.drewN_drewN _ _ _) (congrArg (World.drewN _) (Nat.add_assoc _ _ _))⟩)))
  repeat (go_quiet (first | (go_at_call 69; (with_reducible refine (impl_AreLevelWires.calls k _ _ l0 a1 false _ ?side1 ?side2 A3.out).mono ?_); (case side1 => exact zba_); (case side2 => exact HC0.out); rintro e w' ⟨rfl, ⟨nd, rfl⟩⟩; (try first | exact ⟨rfl, _, World.drewN_drewN _ _ _⟩ | exact ⟨rfl, _, Eq.trans (World.drewN_drewN _ _ _) (congrArg (World.drewN _) (Nat.add_assoc _ _ _))⟩))); try go_wp2_with (first | (go_at_call 69; (with_reducible refine (impl_AreLevelWires.calls k _ _ l0 a1 false _ ?side1 ?side2 A3.out).mono ?_); (case side1 => exact zba_); (case side2 => exact HC0.out); rintro e w' ⟨rfl, ⟨nd, rfl⟩⟩; (try first | exact ⟨rfl, _, World.drewN_drewN _ _ _⟩ | exact ⟨rfl, _, Eq.trans (World.drewN_drewN _ _ _) (congrArg (World.drewN _) (Nat.add_assoc _ _ _))⟩))))
  go_ret2
  exact ⟨zb_, zf_⟩
mutual
def spec_plCount.l0 : Nat → List (List Int) → Int → List (List Int) → Int → Int → Option (Int)
 | 0, _, _, _, _, _ => none
 | k + 1, x0, x3, x8, x9, x10 => if x10 < x9 then (if 0 ≤ x10 then (if x10 < (x8.length : Int) then (if x10 ≤ (x0.length : Int) then ((some (x0.take (x10 : Int).toNat : List (List Int))).bind fun y197 => (spec_plCount.l1 k x0 x3 (rd_L2 x8 x10) x8 x9 x10 y197 (y197.length : Int) 0)) else (none)) else (none)) else (none)) else (some x3)
def spec_plCount.l1 : Nat → List (List Int) → Int → List Int → List (List Int) → Int → Int → List (List Int) → Int → Int → Option (Int)
 | 0, _, _, _, _, _, _, _, _, _ => none
 | k + 1, x0, x3, x5, x8, x9, x10, x17, x18, x19 => if x19 < x18 then (if 0 ≤ x19 then (if x19 < (x17.length : Int) then (if 0 < (x5.length : Int) then (if 0 < ((rd_L2 x17 x19).length : Int) then (if 1 < (x5.length : Int) then (if 1 < ((rd_L2 x17 x19).length : Int) then (if (wrap64 ((wrap64 ((rd x5 0) - (rd (rd_L2 x17 x19) 0))) * (wrap64 ((rd x5 1) - (rd (rd_L2 x17 x19) 1))))) < 0 then (spec_plCount.l1 k x0 (wrap64 (x3 + 1)) x5 x8 x9 x10 x17 x18 (wrap64 (x19 + 1))) else (spec_plCount.l1 k x0 x3 x5 x8 x9 x10 x17 x18 (wrap64 (x19 + 1)))) else (none)) else (none)) else (none)) else (none)) else (none)) else (none)) else (spec_plCount.l0 k x0 x3 x8 x9 (wrap64 (x10 + 1)))
end
def spec_plCount.f (k : Nat) (l0 : List (List Int)) : Option (Int) := spec_plCount.l0 k l0 0 l0 (l0.length : Int) 0
theorem spec_plCount.calls (k : Nat) (A0 : Option Addr) (c0 : Nat) (l0 : List (List Int)) (r : Int) (w : World) (hr0 : Kd.C (Kd.slice 3 (Kd.int .i64)) w A0 l0.length l0) (hc0 : l0.length ≤ c0) (h : spec_plCount.f k l0 = some r) :
  Calls Try.prog 149 #[.slice A0 l0.length c0] w fun e w' => e = .returned (.int .i64 r) ∧ Drawn0 w w' := by
 have HR0 := aM hr0
 have HC0 := aM hc0
 clear hr0 hc0
 have H : (spec_plCount.l0 k l0 0 l0 (l0.length : Int) 0) = some r := h
 clear h
 have H' := aM H
 clear H
 go_enter Try.func149, Try.ntmps149
 go_wp2
 repeat (go_quiet (fail); try go_wp2)
 go_loopg [3, 10] k (fun kq v3 v10 w' => ∃ (x3_1 : Int) (x10_1 : Int), v3 = .int .i64 x3_1 ∧ v10 = .int .i64 x10_1 ∧ Aside0 (spec_plCount.l0 kq l0 x3_1 l0 (l0.length : Int) x10_1 = some r) ∧ Aside0 (kq ≤ k) ∧ Drawn0 w w')
 case atStart => exact ⟨(0), (0), zb_, zb_, H', ⟨Nat.le_refl _⟩, zf_⟩
 case round =>
  clear H'; obtain ⟨x3_1, x10_1, rfl, rfl, HA, HK1, ⟨m1, rfl⟩⟩ := hrel
  cases gk with
  | zero => exact absurd HA.out (by simp [spec_plCount.l0])
  | succ k1 =>
   have H := HA.out; clear HA
   simp only [spec_plCount.l0] at H
   by_cases c2 : x10_1 < (l0.length : Int)
   ·rw [if_pos c2] at H
    have c2b0 := decide_eq_true c2; clear c2
    by_cases c3 : 0 ≤ x10_1
    ·rw [if_pos c3] at H
     have c3b0 := decide_eq_true c3; clear c3
     by_cases c4 : x10_1 < (l0.length : Int)
     ·rw [if_pos c4] at H
      have c4b0 := decide_eq_true c4; clear c4; have c5b0 := eq_true (of_decide_eq_true za_ : 0 ≤ x10_1)
      by_cases c6 : x10_1 ≤ (l0.length : Int)
      ·rw [if_pos c6] at H
       have c6b0 := eq_true c6; have c6b1 := decide_eq_true c6; clear c6; obtain ⟨y197, hy197⟩ : ∃ y_ : List (List Int), y_ = (l0.take (x10_1 : Int).toNat) := ⟨_, rfl⟩; replace H : (spec_plCount.l1 k1 l0 x3_1 (rd_L2 l0 x10_1) l0 (l0.length : Int) x10_1 y197 (y197.length : Int) 0) = some r := by first | (rw [hy197]; with_reducible exact H) | (have H2_ := (oS _ _).symm.trans H; rw [hy197]; with_reducible exact H2_) | (have H2_ := (oS _ _).symm.trans H; with_reducible exact H2_) | with_reducible exact H | (rw [hy197]; exact H) | exact H
       have Ny197 := aM hy197; clear hy197; have H' := aM H; clear H; have p196 : 0 ≤ (x10_1 : Int) := of_decide_eq_true za_; have q196 : x10_1 < (l0.length : Int) := of_decide_eq_true za_; obtain ⟨ad196, A196_0, c196_0, e196, hx196_0, hl196_0, hi196_0⟩ := at_L2 HR0.out x10_1 p196 q196
       cases e196
       have HR196_0 := aM hi196_0; have HC196_0 := aM hl196_0; clear hi196_0 hl196_0; replace p196 := eq_true p196; replace q196 := eq_true q196; have q7 : (x10_1 : Int) ≤ ((l0.length : Int) : Int) := of_decide_eq_true za_; obtain ⟨i07, hi07, _, hsz7, _⟩ := info_parts info24; have hroom7 : l0.length ≤ c0 := HC0.out; have hC7 : Kd.C (Kd.slice 3 (Kd.int .i64)) _ (some ad196) l0.length l0 := HR0.out; have hcut7 := cut_to (P := Try.prog) 52 24 .i64 Try.underlying52 hi07 (some ad196) l0.length c0 x10_1 (of_decide_eq_true za_) q7 hroom7; have hr7 := Kd.C_take (m := (x10_1 : Int).toNat) hC7 (by omega); have hy7 : y197.length = (x10_1 : Int).toNat := (by rw [Ny197.out, lT]; omega); rw [← Ny197.out] at hr7; rw [← hy7] at hcut7; have HR200 := aM hr7; have HC200 := aM (show y197.length ≤ c0 from by omega); clear hr7 hC7 hroom7 hi07 hsz7; have KY7 := aM hy7; clear hy7; replace q7 := eq_true q7
       go_wp2
       repeat (go_quiet (fail); try go_wp2)
       go_loopg [3, 19] k1 (fun kq v3 v19 w' => ∃ (x3_2 : Int) (x19_2 : Int), v3 = .int .i64 x3_2 ∧ v19 = .int .i64 x19_2 ∧ Aside0 (spec_plCount.l1 kq l0 x3_2 (rd_L2 l0 x10_1) l0 (l0.length : Int) x10_1 y197 (y197.length : Int) x19_2 = some r) ∧ Aside0 (kq ≤ k1) ∧ Drawn0 w w')
       case atStart => exact ⟨(x3_1), (0), zb_, zb_, H', ⟨Nat.le_refl _⟩, zf_⟩
       case round =>
        clear H'; (try clear c2b0); (try clear c3b0); (try clear c4b0); (try clear c5b0); (try clear c6b0); (try clear c6b1); (try clear q7); (try clear hx196_0); (try clear p196); (try clear q196); obtain ⟨x3_2, x19_2, rfl, rfl, HA, HK2, ⟨m2, rfl⟩⟩ := hrel
        cases gk with
        | zero => exact absurd HA.out (by simp [spec_plCount.l1])
        | succ k2 =>
         have H := HA.out; clear HA
         simp only [spec_plCount.l1] at H
         by_cases c8 : x19_2 < (y197.length : Int)
         ·rw [if_pos c8] at H
          have c8b0 := decide_eq_true c8; clear c8
          by_cases c9 : 0 ≤ x19_2
          ·rw [if_pos c9] at H
           have c9b0 := decide_eq_true c9; clear c9
           by_cases c10 : x19_2 < (y197.length : Int)
           ·rw [if_pos c10] at H
            have c10b0 := decide_eq_true c10; clear c10
            by_cases c11 : 0 < ((rd_L2 l0 x10_1).length : Int)
            ·rw [if_pos c11] at H
             have c11b0 := decide_eq_true c11; have c11b1 : decide (0 < (rd_L2 l0 x10_1).length) = true := decide_eq_true (by omega); clear c11
             by_cases c12 : 0 < ((rd_L2 y197 x19_2).length : Int)
             ·rw [if_pos c12] at H
              have c12b0 := decide_eq_true c12; have c12b1 : decide (0 < (rd_L2 y197 x19_2).length) = true := decide_eq_true (by omega); clear c12
              by_cases c13 : 1 < ((rd_L2 l0 x10_1).length : Int)
              ·rw [if_pos c13] at H
               have c13b0 := decide_eq_true c13; have c13b1 : decide (1 < (rd_L2 l0 x10_1).length) = true := decide_eq_true (by omega); clear c13
               by_cases c14 : 1 < ((rd_L2 y197 x19_2).length : Int)
               ·rw [if_pos c14] at H
                have c14b0 := decide_eq_true c14; have c14b1 : decide (1 < (rd_L2 y197 x19_2).length) = true := decide_eq_true (by omega); clear c14
                by_cases c15 : (wrap64 ((wrap64 ((rd (rd_L2 l0 x10_1) 0) - (rd (rd_L2 y197 x19_2) 0))) * (wrap64 ((rd (rd_L2 l0 x10_1) 1) - (rd (rd_L2 y197 x19_2) 1))))) < 0
                ·rw [if_pos c15] at H
                 have c15b0 := decide_eq_true c15; clear c15; have H' := aM H; clear H; have p201 : 0 ≤ (x19_2 : Int) := of_decide_eq_true za_; have q201 : x19_2 < (y197.length : Int) := of_decide_eq_true za_; obtain ⟨ad201, A201_0, c201_0, e201, hx201_0, hl201_0, hi201_0⟩ := at_L2 HR200.out x19_2 p201 q201; obtain rfl : ad196 = ad201 := (by injection e201); have HR201_0 := aM hi201_0; have HC201_0 := aM hl201_0; clear hi201_0 hl201_0; replace p201 := eq_true p201; replace q201 := eq_true q201; have p202 : 0 ≤ (0 : Int) := (by omega); have q202 : 0 < ((rd_L2 l0 x10_1).length : Int) := of_decide_eq_true za_; obtain ⟨ad202, e202, hx202_0⟩ := Kd.at_int HR196_0.out 0 p202 q202
                 cases e202
                 have qi202 : (0 < (rd_L2 l0 x10_1).length) = True := eq_true (by omega); (try rw [show ((0 : Int)).toNat = 0 from rfl] at hx202_0); (try rw [Addr.add_zero'] at hx202_0); replace p202 := eq_true p202; replace q202 := eq_true q202; have p203 : 0 ≤ (0 : Int) := (by omega); have q203 : 0 < ((rd_L2 y197 x19_2).length : Int) := of_decide_eq_true za_; obtain ⟨ad203, e203, hx203_0⟩ := Kd.at_int HR201_0.out 0 p203 q203
                 cases e203
                 have qi203 : (0 < (rd_L2 y197 x19_2).length) = True := eq_true (by omega); (try rw [show ((0 : Int)).toNat = 0 from rfl] at hx203_0); (try rw [Addr.add_zero'] at hx203_0); replace p203 := eq_true p203; replace q203 := eq_true q203; have p204 : 0 ≤ (1 : Int) := (by omega); have q204 : 1 < ((rd_L2 l0 x10_1).length : Int) := of_decide_eq_true za_; obtain ⟨ad204, e204, hx204_0⟩ := Kd.at_int HR196_0.out 1 p204 q204; obtain rfl : ad202 = ad204 := (by injection e204); (try simp only [show (1 : Int).toNat = 1 from rfl, Nat.reduceMul, Nat.reduceEqDiff, Go.Addr.add, ↓reduceIte] at hx204_0); have qi204 : (1 < (rd_L2 l0 x10_1).length) = True := eq_true (by omega); (try rw [show ((1 : Int)).toNat = 1 from rfl] at hx204_0); replace p204 := eq_true p204; replace q204 := eq_true q204; have p205 : 0 ≤ (1 : Int) := (by omega); have q205 : 1 < ((rd_L2 y197 x19_2).length : Int) := of_decide_eq_true za_; obtain ⟨ad205, e205, hx205_0⟩ := Kd.at_int HR201_0.out 1 p205 q205; obtain rfl : ad203 = ad205 := (by injection e205); (try simp only [show (1 : Int).toNat = 1 from rfl, Nat.reduceMul, Nat.reduceEqDiff, Go.Addr.add, ↓reduceIte] at hx205_0); have qi205 : (1 < (rd_L2 y197 x19_2).length) = True := eq_true (by omega); (try rw [show ((1 : Int)).toNat = 1 from rfl] at hx205_0); replace p205 := eq_true p205; replace q205 := eq_true q205
                 go_wp2
                 repeat (go_quiet (fail); try go_wp2)
                 go_roundg k2
                 case measure => have := HK1.out; have := HK2.out; omega
                 case rel => exact ⟨(wrap64 (x3_2 + 1)), (wrap64 (x19_2 + 1)), zb_, zb_, H', ⟨zcg_⟩, zf_⟩
                ·rw [if_neg c15] at H
                 have c15b0 := decide_eq_false c15; clear c15; have H' := aM H; clear H; have p201 : 0 ≤ (x19_2 : Int) := of_decide_eq_true za_; have q201 : x19_2 < (y197.length : Int) := of_decide_eq_true za_; obtain ⟨ad201, A201_0, c201_0, e201, hx201_0, hl201_0, hi201_0⟩ := at_L2 HR200.out x19_2 p201 q201; obtain rfl : ad196 = ad201 := (by injection e201); have HR201_0 := aM hi201_0; have HC201_0 := aM hl201_0; clear hi201_0 hl201_0; replace p201 := eq_true p201; replace q201 := eq_true q201; have p202 : 0 ≤ (0 : Int) := (by omega); have q202 : 0 < ((rd_L2 l0 x10_1).length : Int) := of_decide_eq_true za_; obtain ⟨ad202, e202, hx202_0⟩ := Kd.at_int HR196_0.out 0 p202 q202
                 cases e202
                 have qi202 : (0 < (rd_L2 l0 x10_1).length) = True := eq_true (by omega); (try rw [show ((0 : Int)).toNat = 0 from rfl] at hx202_0); (try rw [Addr.add_zero'] at hx202_0); replace p202 := eq_true p202; replace q202 := eq_true q202; have p203 : 0 ≤ (0 : Int) := (by omega); have q203 : 0 < ((rd_L2 y197 x19_2).length : Int) := of_decide_eq_true za_; obtain ⟨ad203, e203, hx203_0⟩ := Kd.at_int HR201_0.out 0 p203 q203
                 cases e203
                 have qi203 : (0 < (rd_L2 y197 x19_2).length) = True := eq_true (by omega); (try rw [show ((0 : Int)).toNat = 0 from rfl] at hx203_0); (try rw [Addr.add_zero'] at hx203_0); replace p203 := eq_true p203; replace q203 := eq_true q203; have p204 : 0 ≤ (1 : Int) := (by omega); have q204 : 1 < ((rd_L2 l0 x10_1).length : Int) := of_decide_eq_true za_; obtain ⟨ad204, e204, hx204_0⟩ := Kd.at_int HR196_0.out 1 p204 q204; obtain rfl : ad202 = ad204 := (by injection e204); (try simp only [show (1 : Int).toNat = 1 from rfl, Nat.reduceMul, Nat.reduceEqDiff, Go.Addr.add, ↓reduceIte] at hx204_0); have qi204 : (1 < (rd_L2 l0 x10_1).length) = True := eq_true (by omega); (try rw [show ((1 : Int)).toNat = 1 from rfl] at hx204_0); replace p204 := eq_true p204; replace q204 := eq_true q204; have p205 : 0 ≤ (1 : Int) := (by omega); have q205 : 1 < ((rd_L2 y197 x19_2).length : Int) := of_decide_eq_true za_; obtain ⟨ad205, e205, hx205_0⟩ := Kd.at_int HR201_0.out 1 p205 q205; obtain rfl : ad203 = ad205 := (by injection e205); (try simp only [show (1 : Int).toNat = 1 from rfl, Nat.reduceMul, Nat.reduceEqDiff, Go.Addr.add, ↓reduceIte] at hx205_0); have qi205 : (1 < (rd_L2 y197 x19_2).length) = True := eq_true (by omega); (try rw [show ((1 : Int)).toNat = 1 from rfl] at hx205_0); replace p205 := eq_true p205; replace q205 := eq_true q205
                 go_wp2
                 repeat (go_quiet (fail); try go_wp2)
                 go_roundg k2
                 case measure => have := HK1.out; have := HK2.out; omega
                 case rel => exact ⟨(x3_2), (wrap64 (x19_2 + 1)), zb_, zb_, H', ⟨zcg_⟩, zf_⟩
               ·rw [if_neg c14] at H
                exact absurd H (by simp)
              ·rw [if_neg c13] at H
               exact absurd H (by simp)
             ·rw [if_neg c12] at H
              exact absurd H (by simp)
            ·rw [if_neg c11] at H
             exact absurd H (by simp)
           ·rw [if_neg c10] at H
            exact absurd H (by simp)
          ·rw [if_neg c9] at H
           exact absurd H (by simp)
         ·rw [if_neg c8] at H
          have c8b0 := decide_eq_false c8; clear c8; have H' := aM H; clear H
          go_wp2
          repeat (go_quiet (fail); try go_wp2)
          go_roundg k2
          case measure => have := HK1.out; have := HK2.out; omega
          case rel => exact ⟨(x3_2), (wrap64 (x10_1 + 1)), zb_, zb_, H', ⟨zcg_⟩, zf_⟩
      ·rw [if_neg c6] at H
       exact absurd H (by simp)
     ·rw [if_neg c4] at H
      exact absurd H (by simp)
    ·rw [if_neg c3] at H
     exact absurd H (by simp)
   ·rw [if_neg c2] at H
    have c2b0 := decide_eq_false c2; clear c2; obtain rfl := Option.some.inj H
    go_wp2
    repeat (go_quiet (fail); try go_wp2)
    go_ret
    exact ⟨zb_, zf_⟩
def spec_CountCrossings.f (k : Nat) (l0 : List (List Int)) (a1 : Int) : Option (Int × Bool) := (spec_plWires.f k l0 a1).bind fun t206 => (if t206 = true then ((spec_plCount.f k l0).bind fun t207 => (some (t207, true))) else (some (0, false)))
theorem spec_CountCrossings.calls (k : Nat) (A0 : Option Addr) (c0 : Nat) (l0 : List (List Int)) (a1 : Int) (r1 : Int) (r2 : Bool) (w : World) (hr0 : Kd.C (Kd.slice 3 (Kd.int .i64)) w A0 l0.length l0) (hc0 : l0.length ≤ c0) (h : spec_CountCrossings.f k l0 a1 = some (r1, r2)) :
  Calls Try.prog 65 #[.slice A0 l0.length c0, .int .i64 a1] w fun e w' => e = .returned (.tuple #[.int .i64 r1, .bool r2]) ∧ Drawn0 w w' := by
 have HR0 := aM hr0
 have HC0 := aM hc0
 clear hr0 hc0
 have H : ((spec_plWires.f k l0 a1).bind fun t206 => (if t206 = true then ((spec_plCount.f k l0).bind fun t207 => (some (t207, true))) else (some (0, false)))) = some (r1, r2) := h
 clear h
 replace H := oB.mp H
 obtain ⟨t206, A30, H⟩ := H
 replace H : (if t206 = true then ((spec_plCount.f k l0).bind fun t207 => (some (t207, true))) else (some (0, false))) = some (r1, r2) := H
 have A3 := aM A30
 clear A30
 by_cases c4 : t206 = true
 ·subst c4
  have H1 : ((spec_plCount.f k l0).bind fun t207 => (some (t207, true))) = some (r1, r2) := by rw [if_pos rfl] at H; exact H
  clear H; have H := H1; clear H1; replace H := oB.mp H; obtain ⟨t207, A50, H⟩ := H; replace H : (some (t207, true)) = some (r1, r2) := H; have A5 := aM A50; clear A50
  simp only [Option.some.injEq, Prod.mk.injEq] at H
  obtain ⟨rfl, rfl⟩ := H
  go_enter Try.func65, Try.ntmps65
  go_wp2_with (first | ((with_reducible refine gate_callee (f := 147) rfl ?_); refine goesL_ (some 8) rfl rfl Try.func147 (by kernel_rfl) rfl #[.slice A0 l0.length c0, .int .i64 a1] rfl zd_ ?_; (with_reducible refine (spec_plWires.calls k _ _ l0 a1 true _ ?side1 ?side2 A3.out).mono ?_); (case side1 => exact zba_); (case side2 => exact HC0.out); rintro e w' ⟨rfl, ⟨nd, rfl⟩⟩; refine ⟨_, rfl, ?_⟩) | ((with_reducible refine gate_callee (f := 149) rfl ?_); refine goesL_ (some 11) rfl rfl Try.func149 (by kernel_rfl) rfl #[.slice A0 l0.length c0] rfl zd_ ?_; (with_reducible refine (spec_plCount.calls k _ _ l0 t207 _ ?side1 ?side2 A5.out).mono ?_); (case side1 => exact zba_); (case side2 => exact HC0.out); rintro e w' ⟨rfl, ⟨nd, rfl⟩⟩; refine ⟨_, rfl, ?_⟩))
  go_ret2
  exact ⟨zb_, zf_⟩
 ·replace c4 := Bool.eq_false_iff.mpr c4
  subst c4; have H1 : (some (0, false)) = some (r1, r2) := by rw [if_neg (show ¬ (false = true) by decide)] at H; exact H
  clear H; have H := H1; clear H1
  simp only [Option.some.injEq, Prod.mk.injEq] at H
  obtain ⟨rfl, rfl⟩ := H
  go_enter Try.func65, Try.ntmps65
  go_wp2_with (first | ((with_reducible refine gate_callee (f := 147) rfl ?_); refine goesL_ (some 8) rfl rfl Try.func147 (by kernel_rfl) rfl #[.slice A0 l0.length c0, .int .i64 a1] rfl zd_ ?_; (with_reducible refine (spec_plWires.calls k _ _ l0 a1 false _ ?side1 ?side2 A3.out).mono ?_); (case side1 => exact zba_); (case side2 => exact HC0.out); rintro e w' ⟨rfl, ⟨nd, rfl⟩⟩; refine ⟨_, rfl, ?_⟩))
  go_ret2
  exact ⟨zb_, zf_⟩
def spec_l1Own.f (l0 : List Int) : Option (List Int) := (some (([] : List Int) : List Int)).bind fun y208 => (if y208.length + l0.length < 17592186044416 then (some (y208 ++ l0)) else (none))
theorem spec_l1Own.calls (A0 : Option Addr) (c0 : Nat) (l0 : List Int) (r : List Int) (w : World) (hr0 : Kd.C (Kd.int .i64) w A0 l0.length l0) (hc0 : l0.length ≤ c0) (h : spec_l1Own.f l0 = some r) :
  Calls Try.prog 151 #[.slice A0 l0.length c0] w fun e w' => ∃ v0_ : Value, e = .returned (v0_) ∧ Kd.R (Kd.int .i64) 3 w' w.heap.size (fun _ => True) v0_ r ∧ Below w.heap.size w w' := by
 have HR0 := aM hr0
 have HC0 := aM hc0
 clear hr0 hc0
 have HB := aM (Below.refl w.heap.size w)
 have H : ((some (([] : List Int) : List Int)).bind fun y208 => (if y208.length + l0.length < 17592186044416 then (some (y208 ++ l0)) else (none))) = some r := h
 clear h
 obtain ⟨y208, hy208⟩ : ∃ y_ : List Int, y_ = (([] : List Int)) := ⟨_, rfl⟩
 replace H : (if y208.length + l0.length < 17592186044416 then (some (y208 ++ l0)) else (none)) = some r := by first | (rw [hy208]; with_reducible exact H) | (have H2_ := (oS _ _).symm.trans H; rw [hy208]; with_reducible exact H2_) | (have H2_ := (oS _ _).symm.trans H; with_reducible exact H2_) | with_reducible exact H | (rw [hy208]; exact H) | exact H
 have Ny208 := aM hy208
 clear hy208
 by_cases c2 : y208.length + l0.length < 17592186044416
 ·rw [if_pos c2] at H
  have LMc2 := aM c2; clear c2; obtain ⟨y211, hy211⟩ : ∃ y_ : List Int, y_ = (y208 ++ l0) := ⟨_, rfl⟩; replace H : (some y211) = some r := by first | (rw [hy211]; with_reducible exact H) | (have H2_ := (oS _ _).symm.trans H; rw [hy211]; with_reducible exact H2_) | (have H2_ := (oS _ _).symm.trans H; with_reducible exact H2_) | with_reducible exact H | (rw [hy211]; exact H) | exact H
  have Ny211 := aM hy211; clear hy211; obtain rfl := Option.some.inj H
  go_enter Try.func151, Try.ntmps151
  go_wp2_with (first | ((with_reducible refine gate_dst (N := 3) rfl ?_); refine Kd.R_lit (Kd.int .i64) _ 3 ?hg (N := 3) ?hd (xs := ([] : List Int)) (inner := []) (ok := fun _ => True) (okp := fun _ => True) ?hr ?hp (fun _ hk => hk) trivial (Below.refl _ _) (Nat.le_refl _) (by simp) ?_; (case hd => rfl); (case hg => rfl); (case hr => exact ze_); (case hp => exact (Reps.none _ _)); intro v209 w3 ho4 hb hg_ hnew_; clear hg_ hnew_; (first | rw [← Ny208.out] at ho4 | (simp only [Int.reduceToNat] at ho4; rw [← Ny208.out] at ho4)); have n_ := z (Kd.R_lower ho4 (below_size zc_)) <| z1 (below_step zc_ hb); clear HB; obtain ⟨HO210, HB⟩ := n_; clear hb ho4) | ((with_reducible refine gate_builtin (b := .append) (xs := #[.tmp 3, .tmp 4]) rfl ?_); at_builtin; refine Kd.R_append_rows (Kd.int .i64) (w0 := w) w.heap.size rfl (.tmp 3) (.tmp 4) 24 3 (.int .i64 0) 8 rfl Try.underlying24 info3 rfl (by decide) (by omega) v209 y208 l0 _ _ _ (fun _ => True) (fun _ => False) rfl rfl ?aO ?aR (fun _ _ h => h) (fun _ h => h.elim) ?aF ?aB ?aS ?aL ?_; (case aR => exact zge_); (case aB => exact zdh_); (case aF => exact zda_); (case aO => exact (zr HO210.out)); (case aS => exact zdi_); (case aL => have := LMc2.out; omega); intro v212 w5 ho hb hg hat; rw [← Ny211.out] at ho; have n_ := z (hb) <| z1 (ho); clear HB HO210; obtain ⟨HB, HO213⟩ := n_; clear ho hb hg hat))
  go_ret
  exact ⟨_, zg_, by refine zr ?_; exact HO213.out, zc_⟩
 ·rw [if_neg c2] at H
  exact absurd H (by simp)
end Go.Proofs.Ytbkighlfgaifeaa.QFnCrossings
