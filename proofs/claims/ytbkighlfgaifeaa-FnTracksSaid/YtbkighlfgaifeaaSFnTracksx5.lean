/- Functions of the law FnTracks, each as a Lean function, and the proofs that the Go code comes to their answers. Made by wip/gen/slim.py. Conditions: those of each theorem. -/
import Derived.Test.YtbkighlfgaifeaaSFnTracksx0
import Derived.Test.YtbkighlfgaifeaaSFnTracksx1
import Derived.Test.YtbkighlfgaifeaaSFnTracksx2
import Derived.Test.YtbkighlfgaifeaaSFnTracksx3
import Derived.Test.YtbkighlfgaifeaaSFnTracksx4
namespace Go.Proofs.Ytbkighlfgaifeaa.QFnTracks
open Go.RowKit Go.Proofs.YtbkighlfgaifeaaW.PrintWords Go.Proofs.YtbkighlfgaifeaaW.PrintLast Go.Proofs.YtbkighlfgaifeaaW.PrintMore
open Go.Proofs.YtbkighlfgaifeaaW.PrintWords renaming pw_below_drewN → pN, below_drew1 → p1, below_alloc → pA
open Go.Proofs.YtbkighlfgaifeaaW.PrintWords.Kd renaming R_alloc → kA, R_drewN → kN, R_drew → kD, Q_alloc → qA, Q_drewN → qN, Q_drew → qD, C_alloc → cA, C_drewN → cN, C_drew → cD
open Go.Proofs.YtbkighlfgaifeaaW.PrintWords.Aside0 renaming mk → aM
open List renaming setIfInBounds_toArray → sI, set_cons_zero → s0, set_cons_succ → sS, map_toArray → mT, length_take → lT, length_drop → lD, map_cons → mC, map_nil → mN
open Option renaming bind_eq_some_iff → oB, bind_some → oS
attribute [local go_sem] max2_int min2_int max_two min_two max_three min_three max_four min_four
set_option maxHeartbeats 8000000
set_option maxRecDepth 100000
set_option linter.unusedVariables false
set_option linter.unusedSimpArgs false
def spec_l1Cur_routed.l0 : Nat → List (S32) → List Int → Int → Int → List Int → Int → Int → Option ((List (S32)) × List Int × Int × Int)
 | 0, _, _, _, _, _, _, _ => none
 | k + 1, x4, x5, x43, x44, x1000, x1001, x1002 => if x44 < x43 then (if 0 ≤ x44 then (if x44 < (x5.length : Int) then (spec_l1Cur_routed.l0 k x4 (x5.set (x44 : Int).toNat (wrap64 ((rd x5 x44) + 3))) x43 (wrap64 (x44 + 1)) x1000 x1001 x1002) else (none)) else (none)) else (some (x4, x5, x1001, x1002))
def spec_l1Cur_routed.f (k : Nat) (s0_0 : List Int) (s0_1 : Int) (s0_2 : Int) : Option ((List (S32)) × List Int × Int × Int) := (spec_l1Cur_channelWires.f s0_0 s0_1 s0_2).bind fun bt148 => ((spec_rtGood.f k bt148.1).bind fun t153 => (if t153 = true then ((spec_LeftEdge.f k bt148.1).bind fun bt157 => ((spec_l1Own.f bt157.1).bind fun t161 => (if (t161.length : Int) > 0 then ((spec_l1Cur_pick.f s0_0 bt148.2.1 bt148.2.2 8).bind fun bt164 => (if bt164.1 = 0 then ((spec_l1Cur_pick.f s0_0 bt164.2.1 bt164.2.2 (t161.length : Int)).bind fun bt167 => ((spec_l1Cur_among.f s0_0 bt167.2.1 bt167.2.2 (([0, 1, 19, 20, (-1)] : List Int))).bind fun bt173 => (if 0 ≤ bt167.1 then (if bt167.1 < (t161.length : Int) then (some (bt148.1, (t161.set (bt167.1 : Int).toNat bt173.1), bt173.2.1, bt173.2.2)) else (none)) else (none)))) else (if bt164.1 = 1 then (spec_l1Cur_routed.l0 k bt148.1 t161 (t161.length : Int) 0 s0_0 bt164.2.1 bt164.2.2) else (if bt164.1 = 2 then ((spec_l1Cur_one.f s0_0 bt164.2.1 bt164.2.2 3).bind fun bt179 => (if bt179.1 = true then (if 1 ≤ (t161.length : Int) then (some (bt148.1, (t161.drop (1 : Int).toNat), bt179.2.1, bt179.2.2)) else (none)) else (some (bt148.1, t161, bt179.2.1, bt179.2.2)))) else (some (bt148.1, t161, bt164.2.1, bt164.2.2)))))) else (some (bt148.1, t161, bt148.2.1, bt148.2.2))))) else (if 0 ≤ (bt148.1.length : Int) then (if ((bt148.1.length : Int) : Int).toNat ≤ 35184372088832 then (some (bt148.1, (List.replicate ((bt148.1.length : Int) : Int).toNat 0), bt148.2.1, bt148.2.2)) else (none)) else (none))))
theorem spec_l1Cur_routed.calls (k : Nat) (g : Nat) (s0_0 : List Int) (s0_1 : Int) (s0_2 : Int) (r1 : List (S32)) (r2 : List Int) (r3 : Int) (r4 : Int) (w0 w : World) (hI : IsS111 w0 w g s0_0 s0_1 s0_2) (hB : Below w0.heap.size w0 w) (h : spec_l1Cur_routed.f k s0_0 s0_1 s0_2 = some (r1, r2, r3, r4)) :
  Calls Try.prog 100 #[.pointer (some ⟨g, 0, none⟩)] w fun e w' => ∃ v0_ v1_ : Value, e = .returned (.tuple #[v0_, v1_]) ∧ Kd.R k32 32 w' w.heap.size (fun _ => True) v0_ r1 ∧ Kd.Q (Kd.int .i64) 3 w' w.heap.size (fun _ => True) v1_ r2 ∧ IsS111 w0 w' g s0_0 r3 r4 ∧ Below w0.heap.size w0 w' ∧ KeepBut w w' g none := by
 have HI0 := aM hI
 have HK := aM (KeepBut.refl w g none)
 have HL := aM hB.size
 clear hI
 have HW0 := aM hB.size
 have HB := aM hB
 clear hB
 have H : ((spec_l1Cur_channelWires.f s0_0 s0_1 s0_2).bind fun bt148 => ((spec_rtGood.f k bt148.1).bind fun t153 => (if t153 = true then ((spec_LeftEdge.f k bt148.1).bind fun bt157 => ((spec_l1Own.f bt157.1).bind fun t161 => (if (t161.length : Int) > 0 then ((spec_l1Cur_pick.f s0_0 bt148.2.1 bt148.2.2 8).bind fun bt164 => (if bt164.1 = 0 then ((spec_l1Cur_pick.f s0_0 bt164.2.1 bt164.2.2 (t161.length : Int)).bind fun bt167 => ((spec_l1Cur_among.f s0_0 bt167.2.1 bt167.2.2 (([0, 1, 19, 20, (-1)] : List Int))).bind fun bt173 => (if 0 ≤ bt167.1 then (if bt167.1 < (t161.length : Int) then (some (bt148.1, (t161.set (bt167.1 : Int).toNat bt173.1), bt173.2.1, bt173.2.2)) else (none)) else (none)))) else (if bt164.1 = 1 then (spec_l1Cur_routed.l0 k bt148.1 t161 (t161.length : Int) 0 s0_0 bt164.2.1 bt164.2.2) else (if bt164.1 = 2 then ((spec_l1Cur_one.f s0_0 bt164.2.1 bt164.2.2 3).bind fun bt179 => (if bt179.1 = true then (if 1 ≤ (t161.length : Int) then (some (bt148.1, (t161.drop (1 : Int).toNat), bt179.2.1, bt179.2.2)) else (none)) else (some (bt148.1, t161, bt179.2.1, bt179.2.2)))) else (some (bt148.1, t161, bt164.2.1, bt164.2.2)))))) else (some (bt148.1, t161, bt148.2.1, bt148.2.2))))) else (if 0 ≤ (bt148.1.length : Int) then (if ((bt148.1.length : Int) : Int).toNat ≤ 35184372088832 then (some (bt148.1, (List.replicate ((bt148.1.length : Int) : Int).toNat 0), bt148.2.1, bt148.2.2)) else (none)) else (none))))) = some (r1, r2, r3, r4) := h
 clear h
 replace H := oB.mp H
 obtain ⟨⟨t148, t151, t152⟩, A20, H⟩ := H
 replace H : ((spec_rtGood.f k t148).bind fun t153 => (if t153 = true then ((spec_LeftEdge.f k t148).bind fun bt157 => ((spec_l1Own.f bt157.1).bind fun t161 => (if (t161.length : Int) > 0 then ((spec_l1Cur_pick.f s0_0 t151 t152 8).bind fun bt164 => (if bt164.1 = 0 then ((spec_l1Cur_pick.f s0_0 bt164.2.1 bt164.2.2 (t161.length : Int)).bind fun bt167 => ((spec_l1Cur_among.f s0_0 bt167.2.1 bt167.2.2 (([0, 1, 19, 20, (-1)] : List Int))).bind fun bt173 => (if 0 ≤ bt167.1 then (if bt167.1 < (t161.length : Int) then (some (t148, (t161.set (bt167.1 : Int).toNat bt173.1), bt173.2.1, bt173.2.2)) else (none)) else (none)))) else (if bt164.1 = 1 then (spec_l1Cur_routed.l0 k t148 t161 (t161.length : Int) 0 s0_0 bt164.2.1 bt164.2.2) else (if bt164.1 = 2 then ((spec_l1Cur_one.f s0_0 bt164.2.1 bt164.2.2 3).bind fun bt179 => (if bt179.1 = true then (if 1 ≤ (t161.length : Int) then (some (t148, (t161.drop (1 : Int).toNat), bt179.2.1, bt179.2.2)) else (none)) else (some (t148, t161, bt179.2.1, bt179.2.2)))) else (some (t148, t161, bt164.2.1, bt164.2.2)))))) else (some (t148, t161, t151, t152))))) else (if 0 ≤ (t148.length : Int) then (if ((t148.length : Int) : Int).toNat ≤ 35184372088832 then (some (t148, (List.replicate ((t148.length : Int) : Int).toNat 0), t151, t152)) else (none)) else (none)))) = some (r1, r2, r3, r4) := H
 have A2 := aM A20
 clear A20
 replace H := oB.mp H
 obtain ⟨t153, A30, H⟩ := H
 replace H : (if t153 = true then ((spec_LeftEdge.f k t148).bind fun bt157 => ((spec_l1Own.f bt157.1).bind fun t161 => (if (t161.length : Int) > 0 then ((spec_l1Cur_pick.f s0_0 t151 t152 8).bind fun bt164 => (if bt164.1 = 0 then ((spec_l1Cur_pick.f s0_0 bt164.2.1 bt164.2.2 (t161.length : Int)).bind fun bt167 => ((spec_l1Cur_among.f s0_0 bt167.2.1 bt167.2.2 (([0, 1, 19, 20, (-1)] : List Int))).bind fun bt173 => (if 0 ≤ bt167.1 then (if bt167.1 < (t161.length : Int) then (some (t148, (t161.set (bt167.1 : Int).toNat bt173.1), bt173.2.1, bt173.2.2)) else (none)) else (none)))) else (if bt164.1 = 1 then (spec_l1Cur_routed.l0 k t148 t161 (t161.length : Int) 0 s0_0 bt164.2.1 bt164.2.2) else (if bt164.1 = 2 then ((spec_l1Cur_one.f s0_0 bt164.2.1 bt164.2.2 3).bind fun bt179 => (if bt179.1 = true then (if 1 ≤ (t161.length : Int) then (some (t148, (t161.drop (1 : Int).toNat), bt179.2.1, bt179.2.2)) else (none)) else (some (t148, t161, bt179.2.1, bt179.2.2)))) else (some (t148, t161, bt164.2.1, bt164.2.2)))))) else (some (t148, t161, t151, t152))))) else (if 0 ≤ (t148.length : Int) then (if ((t148.length : Int) : Int).toNat ≤ 35184372088832 then (some (t148, (List.replicate ((t148.length : Int) : Int).toNat 0), t151, t152)) else (none)) else (none))) = some (r1, r2, r3, r4) := H
 have A3 := aM A30
 clear A30
 by_cases c4 : t153 = true
 ·subst c4
  have H1 : ((spec_LeftEdge.f k t148).bind fun bt157 => ((spec_l1Own.f bt157.1).bind fun t161 => (if (t161.length : Int) > 0 then ((spec_l1Cur_pick.f s0_0 t151 t152 8).bind fun bt164 => (if bt164.1 = 0 then ((spec_l1Cur_pick.f s0_0 bt164.2.1 bt164.2.2 (t161.length : Int)).bind fun bt167 => ((spec_l1Cur_among.f s0_0 bt167.2.1 bt167.2.2 (([0, 1, 19, 20, (-1)] : List Int))).bind fun bt173 => (if 0 ≤ bt167.1 then (if bt167.1 < (t161.length : Int) then (some (t148, (t161.set (bt167.1 : Int).toNat bt173.1), bt173.2.1, bt173.2.2)) else (none)) else (none)))) else (if bt164.1 = 1 then (spec_l1Cur_routed.l0 k t148 t161 (t161.length : Int) 0 s0_0 bt164.2.1 bt164.2.2) else (if bt164.1 = 2 then ((spec_l1Cur_one.f s0_0 bt164.2.1 bt164.2.2 3).bind fun bt179 => (if bt179.1 = true then (if 1 ≤ (t161.length : Int) then (some (t148, (t161.drop (1 : Int).toNat), bt179.2.1, bt179.2.2)) else (none)) else (some (t148, t161, bt179.2.1, bt179.2.2)))) else (some (t148, t161, bt164.2.1, bt164.2.2)))))) else (some (t148, t161, t151, t152))))) = some (r1, r2, r3, r4) := by rw [if_pos rfl] at H; exact H
  clear H
  have H := H1
  clear H1
  replace H := oB.mp H
  obtain ⟨⟨t157, t158⟩, A50, H⟩ := H
  replace H : ((spec_l1Own.f t157).bind fun t161 => (if (t161.length : Int) > 0 then ((spec_l1Cur_pick.f s0_0 t151 t152 8).bind fun bt164 => (if bt164.1 = 0 then ((spec_l1Cur_pick.f s0_0 bt164.2.1 bt164.2.2 (t161.length : Int)).bind fun bt167 => ((spec_l1Cur_among.f s0_0 bt167.2.1 bt167.2.2 (([0, 1, 19, 20, (-1)] : List Int))).bind fun bt173 => (if 0 ≤ bt167.1 then (if bt167.1 < (t161.length : Int) then (some (t148, (t161.set (bt167.1 : Int).toNat bt173.1), bt173.2.1, bt173.2.2)) else (none)) else (none)))) else (if bt164.1 = 1 then (spec_l1Cur_routed.l0 k t148 t161 (t161.length : Int) 0 s0_0 bt164.2.1 bt164.2.2) else (if bt164.1 = 2 then ((spec_l1Cur_one.f s0_0 bt164.2.1 bt164.2.2 3).bind fun bt179 => (if bt179.1 = true then (if 1 ≤ (t161.length : Int) then (some (t148, (t161.drop (1 : Int).toNat), bt179.2.1, bt179.2.2)) else (none)) else (some (t148, t161, bt179.2.1, bt179.2.2)))) else (some (t148, t161, bt164.2.1, bt164.2.2)))))) else (some (t148, t161, t151, t152)))) = some (r1, r2, r3, r4) := H
  have A5 := aM A50
  clear A50
  replace H := oB.mp H
  obtain ⟨t161, A60, H⟩ := H
  replace H : (if (t161.length : Int) > 0 then ((spec_l1Cur_pick.f s0_0 t151 t152 8).bind fun bt164 => (if bt164.1 = 0 then ((spec_l1Cur_pick.f s0_0 bt164.2.1 bt164.2.2 (t161.length : Int)).bind fun bt167 => ((spec_l1Cur_among.f s0_0 bt167.2.1 bt167.2.2 (([0, 1, 19, 20, (-1)] : List Int))).bind fun bt173 => (if 0 ≤ bt167.1 then (if bt167.1 < (t161.length : Int) then (some (t148, (t161.set (bt167.1 : Int).toNat bt173.1), bt173.2.1, bt173.2.2)) else (none)) else (none)))) else (if bt164.1 = 1 then (spec_l1Cur_routed.l0 k t148 t161 (t161.length : Int) 0 s0_0 bt164.2.1 bt164.2.2) else (if bt164.1 = 2 then ((spec_l1Cur_one.f s0_0 bt164.2.1 bt164.2.2 3).bind fun bt179 => (if bt179.1 = true then (if 1 ≤ (t161.length : Int) then (some (t148, (t161.drop (1 : Int).toNat), bt179.2.1, bt179.2.2)) else (none)) else (some (t148, t161, bt179.2.1, bt179.2.2)))) else (some (t148, t161, bt164.2.1, bt164.2.2)))))) else (some (t148, t161, t151, t152))) = some (r1, r2, r3, r4) := H
  have A6 := aM A60
  clear A60
  by_cases c7 : (t161.length : Int) > 0
  ·rw [if_pos c7] at H
   have c7b0 : decide (0 < (t161.length : Int)) = true := decide_eq_true c7
   have c7b1 : decide (0 < t161.length) = true := decide_eq_true (by omega)
   clear c7
   replace H := oB.mp H
   obtain ⟨⟨t164, t165, t166⟩, A80, H⟩ := H
   replace H : (if t164 = 0 then ((spec_l1Cur_pick.f s0_0 t165 t166 (t161.length : Int)).bind fun bt167 => ((spec_l1Cur_among.f s0_0 bt167.2.1 bt167.2.2 (([0, 1, 19, 20, (-1)] : List Int))).bind fun bt173 => (if 0 ≤ bt167.1 then (if bt167.1 < (t161.length : Int) then (some (t148, (t161.set (bt167.1 : Int).toNat bt173.1), bt173.2.1, bt173.2.2)) else (none)) else (none)))) else (if t164 = 1 then (spec_l1Cur_routed.l0 k t148 t161 (t161.length : Int) 0 s0_0 t165 t166) else (if t164 = 2 then ((spec_l1Cur_one.f s0_0 t165 t166 3).bind fun bt179 => (if bt179.1 = true then (if 1 ≤ (t161.length : Int) then (some (t148, (t161.drop (1 : Int).toNat), bt179.2.1, bt179.2.2)) else (none)) else (some (t148, t161, bt179.2.1, bt179.2.2)))) else (some (t148, t161, t165, t166))))) = some (r1, r2, r3, r4) := H
   have A8 := aM A80
   clear A80
   by_cases c9 : t164 = 0
   ·rw [if_pos c9] at H
    have c9b0 : (t164 == 0) = true := beq_iff_eq.mpr c9
    have c9b1 : (t164 != 0) = false := bne_eq_false_iff_eq.mpr c9
    clear c9
    replace H := oB.mp H
    obtain ⟨⟨t167, t168, t169⟩, A100, H⟩ := H
    replace H : ((spec_l1Cur_among.f s0_0 t168 t169 (([0, 1, 19, 20, (-1)] : List Int))).bind fun bt173 => (if 0 ≤ t167 then (if t167 < (t161.length : Int) then (some (t148, (t161.set (t167 : Int).toNat bt173.1), bt173.2.1, bt173.2.2)) else (none)) else (none))) = some (r1, r2, r3, r4) := H
    have A10 := aM A100
    clear A100
    obtain ⟨y170, hy170⟩ : ∃ y_ : List Int, y_ = (([0, 1, 19, 20, (-1)] : List Int)) := ⟨_, rfl⟩
    replace H : ((spec_l1Cur_among.f s0_0 t168 t169 y170).bind fun bt173 => (if 0 ≤ t167 then (if t167 < (t161.length : Int) then (some (t148, (t161.set (t167 : Int).toNat bt173.1), bt173.2.1, bt173.2.2)) else (none)) else (none))) = some (r1, r2, r3, r4) := by first | (rw [hy170]; with_reducible exact H) | (have H2_ := (oS _ _).symm.trans H; rw [hy170]; with_reducible exact H2_) | (have H2_ := (oS _ _).symm.trans H; with_reducible exact H2_) | with_reducible exact H | (rw [hy170]; exact H) | exact H
    have Ny170 := aM hy170
    clear hy170
    replace H := oB.mp H
    obtain ⟨⟨t173, t174, t175⟩, A110, H⟩ := H
    replace H : (if 0 ≤ t167 then (if t167 < (t161.length : Int) then (some (t148, (t161.set (t167 : Int).toNat t173), t174, t175)) else (none)) else (none)) = some (r1, r2, r3, r4) := H
    have A11 := aM A110
    clear A110
    by_cases c12 : 0 ≤ t167
    ·rw [if_pos c12] at H
     have c12b0 : decide (0 ≤ t167) = true := decide_eq_true c12
     clear c12
     by_cases c13 : t167 < (t161.length : Int)
     ·rw [if_pos c13] at H
      have c13b0 : decide (t167 < (t161.length : Int)) = true := decide_eq_true c13
      clear c13
      obtain ⟨y176, hy176⟩ : ∃ y_ : List Int, y_ = (t161.set (t167 : Int).toNat t173) := ⟨_, rfl⟩
      replace H : (some (t148, y176, t174, t175)) = some (r1, r2, r3, r4) := by first | (rw [hy176]; with_reducible exact H) | (have H2_ := (oS _ _).symm.trans H; rw [hy176]; with_reducible exact H2_) | (have H2_ := (oS _ _).symm.trans H; with_reducible exact H2_) | with_reducible exact H | (rw [hy176]; exact H) | exact H
      have Ny176 := aM hy176
      clear hy176
      simp only [Option.some.injEq, Prod.mk.injEq] at H
      obtain ⟨rfl, rfl, rfl, rfl⟩ := H
      go_enter Try.func100, Try.ntmps100
      go_wp2_with (first | ((with_reducible refine gate_callee (f := 166) rfl ?_); refine goesL_ (some 9) rfl rfl Try.func166 (by kernel_rfl) rfl #[.pointer (some ⟨g, 0, none⟩)] rfl zd_ ?_; (with_reducible refine (spec_l1Cur_channelWires.calls g s0_0 s0_1 s0_2 t148 t151 t152 w0 _ ?side1 ?side2 A2.out).mono ?_); (case side1 => exact zi_); (case side2 => exact zj_); rintro e w15 ⟨v149, rfl, ho0, hi, hb, hk⟩; refine ⟨_, rfl, ?_⟩; have n_ := z (Kd.R_lower ho0 (keep_size (w := w) (g := g) (row := none) ze_)) <| z (KeepBut.trans ze_ hk (.inl rfl)) <| z (hb) <| z1 (hi); clear HK HB HI0; obtain ⟨HO150, HK, HB, HI0⟩ := n_; (try clear hb); (try clear hk); (try clear hi); (try clear ho0); obtain ⟨Ao16, co16, eo16⟩ := Kd.R_slice HO150.out; subst eo16) | ((with_reducible refine gate_callee (f := 162) rfl ?_); refine goesL_ (some 11) rfl rfl Try.func162 (by kernel_rfl) rfl #[.slice Ao16 t148.length co16] rfl zd_ ?_; (with_reducible refine (spec_rtGood.calls k _ _ t148 true _ ?side1 ?side2 A3.out).mono ?_); (case side1 => exact zbj_); (case side2 => exact zca_); rintro e w17 ⟨rfl, hb⟩; refine ⟨_, rfl, ?_⟩; have n_ := z (Kd.R_below (zr HO150.out) hb) <| z (IsS111.below zi_ hb) <| z (KeepBut.trans ze_ (KeepBut.of_below hb g none) (.inl rfl)) <| z1 (below_step zj_ hb); clear HO150 HI0 HK HB; obtain ⟨HO150, HI0, HK, HB⟩ := n_; (try clear hb)) | ((with_reducible refine gate_callee (f := 76) rfl ?_); refine goesL_ (some 19) rfl rfl Try.func76 (by kernel_rfl) rfl #[.slice Ao16 t148.length co16] rfl zd_ ?_; (with_reducible refine (spec_LeftEdge.calls k _ _ t148 t157 t158 _ ?side1 ?side2 A5.out).mono ?_); (case side1 => exact zbj_); (case side2 => exact zca_); rintro e w18 ⟨v159, rfl, ho0, hb⟩; refine ⟨_, rfl, ?_⟩; have n_ := z (Kd.R_below (zr HO150.out) hb) <| z (Kd.R_lower ho0 (keep_size (w := w) (g := g) (row := none) ze_)) <| z (IsS111.below zi_ hb) <| z (KeepBut.trans ze_ (KeepBut.of_below hb g none) (.inl rfl)) <| z1 (below_step zj_ hb); clear HO150 HI0 HK HB; obtain ⟨HO150, HO160, HI0, HK, HB⟩ := n_; (try clear hb); (try clear ho0); obtain ⟨Ao19, co19, eo19⟩ := Kd.R_slice HO160.out; subst eo19) | ((with_reducible refine gate_callee (f := 151) rfl ?_); refine goesL_ (some 23) rfl rfl Try.func151 (by kernel_rfl) rfl #[.slice Ao19 t157.length co19] rfl zd_ ?_; (with_reducible refine (spec_l1Own.calls _ _ t157 t161 _ ?side1 ?side2 A6.out).mono ?_); (case side1 => exact zdi_); (case side2 => exact zdj_); rintro e w20 ⟨v162, rfl, ho0, hb⟩; refine ⟨_, rfl, ?_⟩; have n_ := z (Kd.R_below (zr HO150.out) hb) <| z (Kd.R_elder' (zr HO160.out) (Kd.R_base ho0) hb) <| z (Kd.R_lower (Kd.R_new' ho0 (Kd.R_lt (zr HO160.out))) (keep_size (w := w) (g := g) (row := none) ze_)) <| z (IsS111.below zi_ hb) <| z (KeepBut.trans ze_ (KeepBut.of_below hb g none) (.inl rfl)) <| z1 (below_step zj_ hb); clear HO150 HO160 HI0 HK HB; obtain ⟨HO150, HO160, HO163, HI0, HK, HB⟩ := n_; (try clear hb); (try clear ho0); obtain ⟨Ao21, co21, eo21⟩ := Kd.R_slice HO163.out; subst eo21) | ((with_reducible refine gate_callee (f := 109) rfl ?_); refine goesL_ (some 28) rfl rfl Try.func109 (by kernel_rfl) rfl #[.pointer (some ⟨g, 0, none⟩), .int .i64 8] rfl zd_ ?_; (with_reducible refine (spec_l1Cur_pick.calls g s0_0 t151 t152 8 t164 t165 t166 w0 _ ?side1 ?side2 A8.out).mono ?_); (case side1 => exact zi_); (case side2 => exact zj_); rintro e w22 ⟨rfl, hi, hb, hk⟩; refine ⟨_, rfl, ?_⟩; have n_ := z (Kd.R_mono (Kd.R_keep (IsS111.apart (show IsS111 w0 _ g s0_0 t151 t152 from by repeat (first | (with_reducible first | exact HI0.out | apply IsS111.alloc | apply IsS111.drewN | apply IsS111.drew | apply IsS111.set_1 | apply IsS111.set_2) | exact HI0.out)) (zr HO150.out) (by decide)) hk (fun _ h => h.2)) (fun _ h => h.1)) <| z (Kd.R_mono (Kd.R_keep (IsS111.apart (show IsS111 w0 _ g s0_0 t151 t152 from by repeat (first | (with_reducible first | exact HI0.out | apply IsS111.alloc | apply IsS111.drewN | apply IsS111.drew | apply IsS111.set_1 | apply IsS111.set_2) | exact HI0.out)) (zr HO160.out) (by decide)) hk (fun _ h => h.2)) (fun _ h => h.1)) <| z (Kd.R_mono (Kd.R_keep (IsS111.apart (show IsS111 w0 _ g s0_0 t151 t152 from by repeat (first | (with_reducible first | exact HI0.out | apply IsS111.alloc | apply IsS111.drewN | apply IsS111.drew | apply IsS111.set_1 | apply IsS111.set_2) | exact HI0.out)) (zr HO163.out) (by decide)) hk (fun _ h => h.2)) (fun _ h => h.1)) <| z (KeepBut.trans ze_ hk (.inl rfl)) <| z (hb) <| z1 (hi); clear HO150 HO160 HO163 HK HB HI0; obtain ⟨HO150, HO160, HO163, HK, HB, HI0⟩ := n_; (try clear hb); (try clear hk); (try clear hi)) | ((with_reducible refine gate_callee (f := 109) rfl ?_); refine goesL_ (some 35) rfl rfl Try.func109 (by kernel_rfl) rfl #[.pointer (some ⟨g, 0, none⟩), .int .i64 (t161.length : Int)] rfl zd_ ?_; (with_reducible refine (spec_l1Cur_pick.calls g s0_0 t165 t166 (t161.length : Int) t167 t168 t169 w0 _ ?side1 ?side2 A10.out).mono ?_); (case side1 => exact zi_); (case side2 => exact zj_); rintro e w23 ⟨rfl, hi, hb, hk⟩; refine ⟨_, rfl, ?_⟩; have n_ := z (Kd.R_mono (Kd.R_keep (IsS111.apart (show IsS111 w0 _ g s0_0 t165 t166 from by repeat (first | (with_reducible first | exact HI0.out | apply IsS111.alloc | apply IsS111.drewN | apply IsS111.drew | apply IsS111.set_1 | apply IsS111.set_2) | exact HI0.out)) (zr HO150.out) (by decide)) hk (fun _ h => h.2)) (fun _ h => h.1)) <| z (Kd.R_mono (Kd.R_keep (IsS111.apart (show IsS111 w0 _ g s0_0 t165 t166 from by repeat (first | (with_reducible first | exact HI0.out | apply IsS111.alloc | apply IsS111.drewN | apply IsS111.drew | apply IsS111.set_1 | apply IsS111.set_2) | exact HI0.out)) (zr HO160.out) (by decide)) hk (fun _ h => h.2)) (fun _ h => h.1)) <| z (Kd.R_mono (Kd.R_keep (IsS111.apart (show IsS111 w0 _ g s0_0 t165 t166 from by repeat (first | (with_reducible first | exact HI0.out | apply IsS111.alloc | apply IsS111.drewN | apply IsS111.drew | apply IsS111.set_1 | apply IsS111.set_2) | exact HI0.out)) (zr HO163.out) (by decide)) hk (fun _ h => h.2)) (fun _ h => h.1)) <| z (KeepBut.trans ze_ hk (.inl rfl)) <| z (hb) <| z1 (hi); clear HO150 HO160 HO163 HK HB HI0; obtain ⟨HO150, HO160, HO163, HK, HB, HI0⟩ := n_; (try clear hb); (try clear hk); (try clear hi)) | ((with_reducible refine gate_dst (N := 37) rfl ?_); refine Kd.R_lit (Kd.int .i64) _ 3 ?hg (N := 37) ?hd (xs := ([0, 1, 19, 20, (-1)] : List Int)) (inner := [.int .i64 0, .int .i64 1, .int .i64 19, .int .i64 20, .int .i64 (-1)]) (ok := fun _ => True) (okp := fun _ => True) ?hr ?hp (fun _ hk => hk) trivial (Below.refl _ _) (Nat.le_refl _) (by simp) ?_; (case hd => rfl); (case hg => rfl); (case hr => exact zf_); (case hp => exact (Reps.one (show Kd.M (Kd.int .i64) _ _ _ 0 [.int .i64 0] from rfl) (Reps.one (show Kd.M (Kd.int .i64) _ _ _ 1 [.int .i64 1] from rfl) (Reps.one (show Kd.M (Kd.int .i64) _ _ _ 19 [.int .i64 19] from rfl) (Reps.one (show Kd.M (Kd.int .i64) _ _ _ 20 [.int .i64 20] from rfl) (Reps.one (show Kd.M (Kd.int .i64) _ _ _ (-1) [.int .i64 (-1)] from rfl) (Reps.none _ _))))))); intro v171 w24 ho25 hb hg_ hnew_; clear hg_ hnew_; (first | rw [← Ny170.out] at ho25 | (simp only [Int.reduceToNat] at ho25; rw [← Ny170.out] at ho25)); have n_ := z (Kd.R_below (zr HO150.out) hb) <| z (Kd.R_elder' (zr HO160.out) (Kd.R_base ho25) hb) <| z (Kd.R_elder' (zr HO163.out) (Kd.R_base ho25) hb) <| z (Kd.R_lower (Kd.R_new' (Kd.R_new' ho25 (Kd.R_lt (zr HO160.out))) (Kd.R_lt (zr HO163.out))) (keep_size (w := w) (g := g) (row := none) ze_)) <| z (IsS111.below zi_ hb) <| z (KeepBut.trans ze_ (KeepBut.of_below hb g none) (.inl rfl)) <| z1 (below_step zj_ hb); clear HO150 HO160 HO163 HI0 HK HB; obtain ⟨HO150, HO160, HO163, HO172, HI0, HK, HB⟩ := n_; clear hb ho25; obtain ⟨Ao26, co26, eo26⟩ := Kd.R_slice HO172.out; subst eo26) | ((with_reducible refine gate_callee (f := 110) rfl ?_); refine goesL_ (some 38) rfl rfl Try.func110 (by kernel_rfl) rfl #[.pointer (some ⟨g, 0, none⟩), .slice Ao26 y170.length co26] rfl zd_ ?_; (with_reducible refine (spec_l1Cur_among.calls g s0_0 t168 t169 _ _ y170 t173 t174 t175 w0 _ ?side1 ?side2 ?side3 ?side4 ?side5 A11.out).mono ?_); (case side1 => exact zi_); (case side2 => exact zj_); (case side3 => repeat (first | exact (Kd.R_reads' HO172.out).2.2 | (with_reducible refine cA ?_ _) | (with_reducible refine cN ?_ _) | (with_reducible refine cD ?_))); (case side4 => exact (Kd.R_reads' HO172.out).2.1); (case side5 => exact far_slice (IsS111.own_ne HI0.out HO172.out (by decide))); rintro e w27 ⟨rfl, hi, hb, hk⟩; refine ⟨_, rfl, ?_⟩; have n_ := z (Kd.R_mono (Kd.R_keep (IsS111.apart (show IsS111 w0 _ g s0_0 t168 t169 from by repeat (first | (with_reducible first | exact HI0.out | apply IsS111.alloc | apply IsS111.drewN | apply IsS111.drew | apply IsS111.set_1 | apply IsS111.set_2) | exact HI0.out)) (zr HO150.out) (by decide)) hk (fun _ h => h.2)) (fun _ h => h.1)) <| z (Kd.R_mono (Kd.R_keep (IsS111.apart (show IsS111 w0 _ g s0_0 t168 t169 from by repeat (first | (with_reducible first | exact HI0.out | apply IsS111.alloc | apply IsS111.drewN | apply IsS111.drew | apply IsS111.set_1 | apply IsS111.set_2) | exact HI0.out)) (zr HO160.out) (by decide)) hk (fun _ h => h.2)) (fun _ h => h.1)) <| z (Kd.R_mono (Kd.R_keep (IsS111.apart (show IsS111 w0 _ g s0_0 t168 t169 from by repeat (first | (with_reducible first | exact HI0.out | apply IsS111.alloc | apply IsS111.drewN | apply IsS111.drew | apply IsS111.set_1 | apply IsS111.set_2) | exact HI0.out)) (zr HO163.out) (by decide)) hk (fun _ h => h.2)) (fun _ h => h.1)) <| z (Kd.R_mono (Kd.R_keep (IsS111.apart (show IsS111 w0 _ g s0_0 t168 t169 from by repeat (first | (with_reducible first | exact HI0.out | apply IsS111.alloc | apply IsS111.drewN | apply IsS111.drew | apply IsS111.set_1 | apply IsS111.set_2) | exact HI0.out)) (zr HO172.out) (by decide)) hk (fun _ h => h.2)) (fun _ h => h.1)) <| z (KeepBut.trans ze_ hk (.inl rfl)) <| z (hb) <| z1 (hi); clear HO150 HO160 HO163 HO172 HK HB HI0; obtain ⟨HO150, HO160, HO163, HO172, HK, HB, HI0⟩ := n_; (try clear hb); (try clear hk); (try clear hi); have p14 : 0 ≤ (t167 : Int) := of_decide_eq_true zb_; have q14 : (t167 : Int) < ((t161.length : Int) : Int) := of_decide_eq_true zb_; obtain ⟨go14, co14, eo14, gb14, gl14, cl14, HG14⟩ := Kd.R_form HO163.out (by omega); (first | cases eo14 | (injection eo14 with ea_ en_ ec_; (first | subst ea_ | (injection ea_ with ea_; subst ea_)); subst ec_; clear en_)); have GB14 := aM gb14; have GG14 := aM HG14; clear gb14 gl14 HG14; obtain ⟨hx14_0, hf14_0⟩ := Kd.R_celln 0 HO163.out (t167 : Int) p14 q14; replace p14 := eq_true p14; replace q14 := eq_true q14; have n_ := aM (Kd.R_mono (ok' := (fun k_ => some k_ ≠ (.slice Ao19 t157.length co19 : Value).ownBlock ∧ some k_ ≠ (.slice Ao26 y170.length co26 : Value).ownBlock)) HO163.out (fun k_ hk => ⟨hk.1.2, hk.2⟩)); clear HO163; have HO163 := n_; clear n_; obtain ⟨hy28_, hz28_⟩ := Kd.R_celln 0 HO163.out (t167 : Int) (of_decide_eq_true zb_) (of_decide_eq_true zb_); have HP28 := Kd.R_putg HO163.out (t167 : Int) t173) | ((with_reducible refine gate_store (t := 3) (p := 39) rfl ?_); refine store_event (t := 3) (p := 39) (v := ?vo_w29) (w1 := (w27.setCell ⟨go14, (t167 : Int).toNat, none⟩ (.int .i64 t173))) ?hg ?ho ?hn ?hr ?_; (case ho => rfl); (case hg => rfl); (case hn => rfl); (case hr => exact zf_); intro w29 hw; have hg : w27.grownBy w29 (some go14) := (by rw [hw]; exact HP28.2); have hp_ : Kd.R (Kd.int .i64) 3 w29 w.heap.size (fun k_ => some k_ ≠ (.slice Ao19 t157.length co19 : Value).ownBlock ∧ some k_ ≠ (.slice Ao26 y170.length co26 : Value).ownBlock) (.slice (some ⟨go14, 0, none⟩) t161.length co21) y176 := (by rw [hw, Ny176.out]; exact HP28.1); clear HP28; have n_ := z (IsS111.grown zi_ hg (IsS111.own_ne HI0.out HO163.out (by decide))) <| z (Kd.R_over' (v := (.slice (some ⟨go14, 0, none⟩) t161.length co21)) (zr HO150.out) (Kd.R_typed HO163.out) (by decide) hg) <| z (Kd.R_after (v := (.slice (some ⟨go14, 0, none⟩) t161.length co21)) (v1 := (.slice (some ⟨go14, 0, none⟩) t161.length co21)) (ok := (fun k_ => some k_ ≠ (.slice Ao26 y170.length co26 : Value).ownBlock)) (by refine zr ?_; exact Kd.R_mono HO160.out (fun _ hk => ⟨hk.2, hk.1.2⟩)) hg (.inl rfl)) <| z (hp_) <| z (Kd.R_after (v := (.slice (some ⟨go14, 0, none⟩) t161.length co21)) (v1 := (.slice (some ⟨go14, 0, none⟩) t161.length co21)) (ok := (fun k_ => some k_ ≠ (.slice Ao19 t157.length co19 : Value).ownBlock)) (by refine zr ?_; exact Kd.R_mono HO172.out (fun _ hk => ⟨hk.1.2, hk.2⟩)) hg (.inl rfl)) <| z ((by rw [hw]; exact below_set (HB.out) (Nat.le_trans HL.out GB14.out) : Below w0.heap.size w0 w29)) <| z1 (KeepBut.trans ze_ (KeepBut.of_grown hg g) (Kd.R_base2 HO163.out)); clear HI0 HO150 HO160 HO163 HO172 HB HK; obtain ⟨HI0, HO150, HO160, HO163, HO172, HB, HK⟩ := n_; clear hg hw hp_))
      go_ret2
      exact ⟨_, _, zg_, zea_, Kd.Q_of_R zef_, zi_, zj_, ze_⟩
     ·rw [if_neg c13] at H
      exact absurd H (by simp)
    ·rw [if_neg c12] at H
     exact absurd H (by simp)
   ·rw [if_neg c9] at H
    have c9b0 : (t164 == 0) = false := beq_eq_false_iff_ne.mpr c9
    have c9b1 : (t164 != 0) = true := bne_iff_ne.mpr c9
    by_cases c30 : t164 = 1
    ·rw [if_pos c30] at H
     have c30b0 : (t164 == 1) = true := beq_iff_eq.mpr c30
     have c30b1 : (t164 != 1) = false := bne_eq_false_iff_eq.mpr c30
     clear c30
     have H' := aM H
     clear H
     go_enter Try.func100, Try.ntmps100
     go_wp2_with (first | ((with_reducible refine gate_callee (f := 166) rfl ?_); refine goesL_ (some 9) rfl rfl Try.func166 (by kernel_rfl) rfl #[.pointer (some ⟨g, 0, none⟩)] rfl zd_ ?_; (with_reducible refine (spec_l1Cur_channelWires.calls g s0_0 s0_1 s0_2 t148 t151 t152 w0 _ ?side1 ?side2 A2.out).mono ?_); (case side1 => exact zi_); (case side2 => exact zj_); rintro e w31 ⟨v149, rfl, ho0, hi, hb, hk⟩; refine ⟨_, rfl, ?_⟩; have n_ := z (Kd.R_lower ho0 (keep_size (w := w) (g := g) (row := none) ze_)) <| z (KeepBut.trans ze_ hk (.inl rfl)) <| z (hb) <| z1 (hi); clear HK HB HI0; obtain ⟨HO150, HK, HB, HI0⟩ := n_; (try clear hb); (try clear hk); (try clear hi); (try clear ho0); obtain ⟨Ao32, co32, eo32⟩ := Kd.R_slice HO150.out; subst eo32) | ((with_reducible refine gate_callee (f := 162) rfl ?_); refine goesL_ (some 11) rfl rfl Try.func162 (by kernel_rfl) rfl #[.slice Ao32 t148.length co32] rfl zd_ ?_; (with_reducible refine (spec_rtGood.calls k _ _ t148 true _ ?side1 ?side2 A3.out).mono ?_); (case side1 => exact zbj_); (case side2 => exact zca_); rintro e w33 ⟨rfl, hb⟩; refine ⟨_, rfl, ?_⟩; have n_ := z (Kd.R_below (zr HO150.out) hb) <| z (IsS111.below zi_ hb) <| z (KeepBut.trans ze_ (KeepBut.of_below hb g none) (.inl rfl)) <| z1 (below_step zj_ hb); clear HO150 HI0 HK HB; obtain ⟨HO150, HI0, HK, HB⟩ := n_; (try clear hb)) | ((with_reducible refine gate_callee (f := 76) rfl ?_); refine goesL_ (some 19) rfl rfl Try.func76 (by kernel_rfl) rfl #[.slice Ao32 t148.length co32] rfl zd_ ?_; (with_reducible refine (spec_LeftEdge.calls k _ _ t148 t157 t158 _ ?side1 ?side2 A5.out).mono ?_); (case side1 => exact zbj_); (case side2 => exact zca_); rintro e w34 ⟨v159, rfl, ho0, hb⟩; refine ⟨_, rfl, ?_⟩; have n_ := z (Kd.R_below (zr HO150.out) hb) <| z (Kd.R_lower ho0 (keep_size (w := w) (g := g) (row := none) ze_)) <| z (IsS111.below zi_ hb) <| z (KeepBut.trans ze_ (KeepBut.of_below hb g none) (.inl rfl)) <| z1 (below_step zj_ hb); clear HO150 HI0 HK HB; obtain ⟨HO150, HO160, HI0, HK, HB⟩ := n_; (try clear hb); (try clear ho0); obtain ⟨Ao35, co35, eo35⟩ := Kd.R_slice HO160.out; subst eo35) | ((with_reducible refine gate_callee (f := 151) rfl ?_); refine goesL_ (some 23) rfl rfl Try.func151 (by kernel_rfl) rfl #[.slice Ao35 t157.length co35] rfl zd_ ?_; (with_reducible refine (spec_l1Own.calls _ _ t157 t161 _ ?side1 ?side2 A6.out).mono ?_); (case side1 => exact zdi_); (case side2 => exact zdj_); rintro e w36 ⟨v162, rfl, ho0, hb⟩; refine ⟨_, rfl, ?_⟩; have n_ := z (Kd.R_below (zr HO150.out) hb) <| z (Kd.R_elder' (zr HO160.out) (Kd.R_base ho0) hb) <| z (Kd.R_lower (Kd.R_new' ho0 (Kd.R_lt (zr HO160.out))) (keep_size (w := w) (g := g) (row := none) ze_)) <| z (IsS111.below zi_ hb) <| z (KeepBut.trans ze_ (KeepBut.of_below hb g none) (.inl rfl)) <| z1 (below_step zj_ hb); clear HO150 HO160 HI0 HK HB; obtain ⟨HO150, HO160, HO163, HI0, HK, HB⟩ := n_; (try clear hb); (try clear ho0); obtain ⟨Ao37, co37, eo37⟩ := Kd.R_slice HO163.out; subst eo37) | ((with_reducible refine gate_callee (f := 109) rfl ?_); refine goesL_ (some 28) rfl rfl Try.func109 (by kernel_rfl) rfl #[.pointer (some ⟨g, 0, none⟩), .int .i64 8] rfl zd_ ?_; (with_reducible refine (spec_l1Cur_pick.calls g s0_0 t151 t152 8 t164 t165 t166 w0 _ ?side1 ?side2 A8.out).mono ?_); (case side1 => exact zi_); (case side2 => exact zj_); rintro e w38 ⟨rfl, hi, hb, hk⟩; refine ⟨_, rfl, ?_⟩; have n_ := z (Kd.R_mono (Kd.R_keep (IsS111.apart (show IsS111 w0 _ g s0_0 t151 t152 from by repeat (first | (with_reducible first | exact HI0.out | apply IsS111.alloc | apply IsS111.drewN | apply IsS111.drew | apply IsS111.set_1 | apply IsS111.set_2) | exact HI0.out)) (zr HO150.out) (by decide)) hk (fun _ h => h.2)) (fun _ h => h.1)) <| z (Kd.R_mono (Kd.R_keep (IsS111.apart (show IsS111 w0 _ g s0_0 t151 t152 from by repeat (first | (with_reducible first | exact HI0.out | apply IsS111.alloc | apply IsS111.drewN | apply IsS111.drew | apply IsS111.set_1 | apply IsS111.set_2) | exact HI0.out)) (zr HO160.out) (by decide)) hk (fun _ h => h.2)) (fun _ h => h.1)) <| z (Kd.R_mono (Kd.R_keep (IsS111.apart (show IsS111 w0 _ g s0_0 t151 t152 from by repeat (first | (with_reducible first | exact HI0.out | apply IsS111.alloc | apply IsS111.drewN | apply IsS111.drew | apply IsS111.set_1 | apply IsS111.set_2) | exact HI0.out)) (zr HO163.out) (by decide)) hk (fun _ h => h.2)) (fun _ h => h.1)) <| z (KeepBut.trans ze_ hk (.inl rfl)) <| z (hb) <| z1 (hi); clear HO150 HO160 HO163 HK HB HI0; obtain ⟨HO150, HO160, HO163, HK, HB, HI0⟩ := n_; (try clear hb); (try clear hk); (try clear hi)))
     go_loopg [44] k (fun kq v44 w' => ∃ (x5_1 : List Int) (x44_1 : Int), v44 = .int .i64 x44_1 ∧ Aside0 (spec_l1Cur_routed.l0 kq t148 x5_1 (t161.length : Int) x44_1 s0_0 t165 t166 = some (r1, r2, r3, r4)) ∧ Aside0 (kq ≤ k) ∧ Aside0 (Kd.R k32 32 w' w.heap.size (fun _ => True) (.slice Ao32 t148.length co32) t148) ∧ Aside0 (Kd.Q (Kd.int .i64) 3 w' w.heap.size (fun _ => True) (.slice Ao37 t161.length co37) x5_1) ∧ Aside0 (IsS111 w0 w' g s0_0 t165 t166) ∧ Aside0 (KeepBut w w' g none) ∧ Aside0 (Below w0.heap.size w0 w'))
     case atStart => exact ⟨(t161), (0), zc_, H', ⟨Nat.le_refl _⟩, ⟨zr HO150.out⟩, ⟨Kd.Q_of_R zef_⟩, ⟨zi_⟩, ⟨ze_⟩, ⟨zj_⟩⟩
     case round =>
      clear H'
      try clear c1
      try clear p1
      try clear q1
      try clear hx1
      try clear hf1
      try clear p2
      try clear c3
      try clear c4
      try clear c7
      try clear c7b0
      try clear c7b1
      try clear c9
      try clear c9b0
      try clear c9b1
      try clear c10
      try clear c11
      try clear c12
      try clear c12b0
      try clear c13
      try clear c13b0
      try clear p14
      try clear q14
      try clear hx14
      try clear hf14
      try clear c15
      try clear c16
      try clear c30
      try clear c30b0
      try clear c30b1
      try clear hx14_0
      try clear p14
      try clear q14
      obtain ⟨x5_1, x44_1, rfl, HA, HK1, HO_4, HO_5, HI0, HK, HB⟩ := hrel
      have hl5_1 := (Kd.Q_reads' HO_5.out).1
      rw [hl5_1] at HO_5
      (try simp only [hl5_1])
      (try simp only [hl5_1] at HO_4)
      cases gk with
      | zero => exact absurd HA.out (by simp [spec_l1Cur_routed.l0])
      | succ k1 =>
       have H := HA.out
       clear HA
       simp only [spec_l1Cur_routed.l0] at H
       by_cases c39 : x44_1 < (t161.length : Int)
       ·rw [if_pos c39] at H
        have c39b0 : decide (x44_1 < (t161.length : Int)) = true := decide_eq_true c39
        (try (have c39z0 := c39b0; rw [hl5_1] at c39z0))
        clear c39
        by_cases c40 : 0 ≤ x44_1
        ·rw [if_pos c40] at H
         have c40b0 : decide (0 ≤ x44_1) = true := decide_eq_true c40
         clear c40
         by_cases c41 : x44_1 < (x5_1.length : Int)
         ·rw [if_pos c41] at H
          have c41b0 : decide (x44_1 < (x5_1.length : Int)) = true := decide_eq_true c41
          (try (have c41z0 := c41b0; rw [hl5_1] at c41z0))
          clear c41
          obtain ⟨y178, hy178⟩ : ∃ y_ : List Int, y_ = (x5_1.set (x44_1 : Int).toNat (wrap64 ((rd x5_1 x44_1) + 3))) := ⟨_, rfl⟩
          replace H : (spec_l1Cur_routed.l0 k1 t148 y178 (t161.length : Int) (wrap64 (x44_1 + 1)) s0_0 t165 t166) = some (r1, r2, r3, r4) := by first | (rw [hy178]; with_reducible exact H) | (have H2_ := (oS _ _).symm.trans H; rw [hy178]; with_reducible exact H2_) | (have H2_ := (oS _ _).symm.trans H; with_reducible exact H2_) | with_reducible exact H | (rw [hy178]; exact H) | exact H
          have Ny178 := aM hy178
          clear hy178
          have H' := aM H
          clear H
          have p177 : 0 ≤ (x44_1 : Int) := of_decide_eq_true zb_
          have q177 : x44_1 < (x5_1.length : Int) := of_decide_eq_true zb_
          obtain ⟨ad177, e177, hx177_0⟩ := Kd.at_int (Kd.Q_reads' HO_5.out).2.2 x44_1 p177 q177
          cases e177
          replace p177 := eq_true p177
          replace q177 := eq_true q177
          have p42 : 0 ≤ (x44_1 : Int) := of_decide_eq_true zb_
          have q42 : (x44_1 : Int) < ((x5_1.length : Int) : Int) := of_decide_eq_true zb_
          obtain ⟨go42, oo42, co42, eo42, gb42, gl42, cl42, HG42⟩ := Kd.Q_form HO_5.out (by omega)
          (first | cases eo42 | (injection eo42 with ea_ en_ ec_; (first | subst ea_ | (injection ea_ with ea_; subst ea_)); subst ec_; clear en_))
          have GB42 := aM gb42
          have GG42 := aM HG42
          clear gb42 gl42 HG42
          (first | simp only [add_at] at hx177_0 | skip)
          obtain ⟨hx42_0, hf42_0⟩ := Kd.Q_cell 0 HO_5.out (x44_1 : Int) p42 q42
          replace p42 := eq_true p42
          replace q42 := eq_true q42
          have HP43 := Kd.Q_putg HO_5.out (x44_1 : Int) (of_decide_eq_true zb_) (by have h_ : (x44_1 : Int) < ((x5_1.length : Int) : Int) := of_decide_eq_true zb_; first | exact h_ | (have e_ := (Kd.Q_reads' HO_5.out).1; omega) | simpa using h_) (wrap64 ((rd x5_1 x44_1) + 3))
          go_wp2_with (first | ((with_reducible refine gate_store (t := 3) (p := 52) rfl ?_); refine store_event (t := 3) (p := 52) (v := ?vo_w44) (w1 := (wr.setCell ⟨go42, oo42 + (x44_1 : Int).toNat, none⟩ (.int .i64 (wrap64 ((rd x5_1 x44_1) + 3))))) ?hg ?ho ?hn ?hr ?_; (case ho => rfl); (case hg => rfl); (case hn => rfl); (case hr => exact zf_); intro w44 hw; have hg : wr.grownBy w44 (some go42) := (by rw [hw]; exact HP43.2); have hp_ : Kd.Q (Kd.int .i64) 3 w44 w.heap.size (fun _ => True) (.slice (some ⟨go42, oo42, none⟩) x5_1.length co37) y178 := (by rw [hw, Ny178.out]; exact HP43.1); clear HP43; have n_ := z (Kd.R_over' (v := (.slice (some ⟨go42, oo42, none⟩) x5_1.length co37)) (zr HO_4.out) (Kd.Q_typed HO_5.out) (by decide) hg) <| z (hp_) <| z (IsS111.grown zi_ hg (IsS111.own_neQ HI0.out HO_5.out (by decide))) <| z ((by rw [hw]; exact below_set (HB.out) (Nat.le_trans HL.out GB42.out) : Below w0.heap.size w0 w44)) <| z1 (KeepBut.trans ze_ (KeepBut.of_grown hg g) (Kd.Q_base2 HO_5.out)); clear HO_4 HO_5 HI0 HB HK; obtain ⟨HO_4, HO_5, HI0, HB, HK⟩ := n_; clear hg hw hp_))
          (try simp only [← hl5_1])
          go_roundg k1
          case measure => have := HK1.out; omega
          case rel => exact ⟨(y178), (wrap64 (x44_1 + 1)), zc_, H', ⟨zcc_⟩, ⟨by (try simp only [hl5_1]); refine zr ?_; exact HO_4.out⟩, ⟨by (try simp only [hl5_1]); refine zq ?_; exact HO_5.out⟩, ⟨zi_⟩, ⟨ze_⟩, ⟨zj_⟩⟩
         ·rw [if_neg c41] at H
          exact absurd H (by simp)
        ·rw [if_neg c40] at H
         exact absurd H (by simp)
       ·rw [if_neg c39] at H
        have c39b0 : decide (x44_1 < (t161.length : Int)) = false := decide_eq_false c39
        (try (have c39z0 := c39b0; rw [hl5_1] at c39z0))
        clear c39
        simp only [Option.some.injEq, Prod.mk.injEq] at H
        obtain ⟨rfl, rfl, rfl, rfl⟩ := H
        go_wp2
        go_ret2
        exact ⟨_, _, zg_, by refine zr ?_; exact HO_4.out, by refine zq ?_; exact HO_5.out, zi_, zj_, ze_⟩
    ·rw [if_neg c30] at H
     have c30b0 : (t164 == 1) = false := beq_eq_false_iff_ne.mpr c30
     have c30b1 : (t164 != 1) = true := bne_iff_ne.mpr c30
     by_cases c45 : t164 = 2
     ·rw [if_pos c45] at H
      have c45b0 : (t164 == 2) = true := beq_iff_eq.mpr c45
      have c45b1 : (t164 != 2) = false := bne_eq_false_iff_eq.mpr c45
      clear c45
      replace H := oB.mp H
      obtain ⟨⟨t179, t180, t181⟩, A460, H⟩ := H
      replace H : (if t179 = true then (if 1 ≤ (t161.length : Int) then (some (t148, (t161.drop (1 : Int).toNat), t180, t181)) else (none)) else (some (t148, t161, t180, t181))) = some (r1, r2, r3, r4) := H
      have A46 := aM A460
      clear A460
      by_cases c47 : t179 = true
      ·subst c47
       have H1 : (if 1 ≤ (t161.length : Int) then (some (t148, (t161.drop (1 : Int).toNat), t180, t181)) else (none)) = some (r1, r2, r3, r4) := by rw [if_pos rfl] at H; exact H
       clear H
       have H := H1
       clear H1
       by_cases c48 : 1 ≤ (t161.length : Int)
       ·rw [if_pos c48] at H
        have c48b0 := eq_true c48
        have c48b1 : decide (1 ≤ (t161.length : Int)) = true := decide_eq_true c48
        clear c48
        obtain ⟨y182, hy182⟩ : ∃ y_ : List Int, y_ = (t161.drop (1 : Int).toNat) := ⟨_, rfl⟩
        replace H : (some (t148, y182, t180, t181)) = some (r1, r2, r3, r4) := by first | (rw [hy182]; with_reducible exact H) | (have H2_ := (oS _ _).symm.trans H; rw [hy182]; with_reducible exact H2_) | (have H2_ := (oS _ _).symm.trans H; with_reducible exact H2_) | with_reducible exact H | (rw [hy182]; exact H) | exact H
        have Ny182 := aM hy182
        clear hy182
        simp only [Option.some.injEq, Prod.mk.injEq] at H
        obtain ⟨rfl, rfl, rfl, rfl⟩ := H
        go_enter Try.func100, Try.ntmps100
        go_wp2_with (first | ((with_reducible refine gate_callee (f := 166) rfl ?_); refine goesL_ (some 9) rfl rfl Try.func166 (by kernel_rfl) rfl #[.pointer (some ⟨g, 0, none⟩)] rfl zd_ ?_; (with_reducible refine (spec_l1Cur_channelWires.calls g s0_0 s0_1 s0_2 t148 t151 t152 w0 _ ?side1 ?side2 A2.out).mono ?_); (case side1 => exact zi_); (case side2 => exact zj_); rintro e w49 ⟨v149, rfl, ho0, hi, hb, hk⟩; refine ⟨_, rfl, ?_⟩; have n_ := z (Kd.R_lower ho0 (keep_size (w := w) (g := g) (row := none) ze_)) <| z (KeepBut.trans ze_ hk (.inl rfl)) <| z (hb) <| z1 (hi); clear HK HB HI0; obtain ⟨HO150, HK, HB, HI0⟩ := n_; (try clear hb); (try clear hk); (try clear hi); (try clear ho0); obtain ⟨Ao50, co50, eo50⟩ := Kd.R_slice HO150.out; subst eo50) | ((with_reducible refine gate_callee (f := 162) rfl ?_); refine goesL_ (some 11) rfl rfl Try.func162 (by kernel_rfl) rfl #[.slice Ao50 t148.length co50] rfl zd_ ?_; (with_reducible refine (spec_rtGood.calls k _ _ t148 true _ ?side1 ?side2 A3.out).mono ?_); (case side1 => exact zbj_); (case side2 => exact zca_); rintro e w51 ⟨rfl, hb⟩; refine ⟨_, rfl, ?_⟩; have n_ := z (Kd.R_below (zr HO150.out) hb) <| z (IsS111.below zi_ hb) <| z (KeepBut.trans ze_ (KeepBut.of_below hb g none) (.inl rfl)) <| z1 (below_step zj_ hb); clear HO150 HI0 HK HB; obtain ⟨HO150, HI0, HK, HB⟩ := n_; (try clear hb)) | ((with_reducible refine gate_callee (f := 76) rfl ?_); refine goesL_ (some 19) rfl rfl Try.func76 (by kernel_rfl) rfl #[.slice Ao50 t148.length co50] rfl zd_ ?_; (with_reducible refine (spec_LeftEdge.calls k _ _ t148 t157 t158 _ ?side1 ?side2 A5.out).mono ?_); (case side1 => exact zbj_); (case side2 => exact zca_); rintro e w52 ⟨v159, rfl, ho0, hb⟩; refine ⟨_, rfl, ?_⟩; have n_ := z (Kd.R_below (zr HO150.out) hb) <| z (Kd.R_lower ho0 (keep_size (w := w) (g := g) (row := none) ze_)) <| z (IsS111.below zi_ hb) <| z (KeepBut.trans ze_ (KeepBut.of_below hb g none) (.inl rfl)) <| z1 (below_step zj_ hb); clear HO150 HI0 HK HB; obtain ⟨HO150, HO160, HI0, HK, HB⟩ := n_; (try clear hb); (try clear ho0); obtain ⟨Ao53, co53, eo53⟩ := Kd.R_slice HO160.out; subst eo53) | ((with_reducible refine gate_callee (f := 151) rfl ?_); refine goesL_ (some 23) rfl rfl Try.func151 (by kernel_rfl) rfl #[.slice Ao53 t157.length co53] rfl zd_ ?_; (with_reducible refine (spec_l1Own.calls _ _ t157 t161 _ ?side1 ?side2 A6.out).mono ?_); (case side1 => exact zdi_); (case side2 => exact zdj_); rintro e w54 ⟨v162, rfl, ho0, hb⟩; refine ⟨_, rfl, ?_⟩; have n_ := z (Kd.R_below (zr HO150.out) hb) <| z (Kd.R_elder' (zr HO160.out) (Kd.R_base ho0) hb) <| z (Kd.R_lower (Kd.R_new' ho0 (Kd.R_lt (zr HO160.out))) (keep_size (w := w) (g := g) (row := none) ze_)) <| z (IsS111.below zi_ hb) <| z (KeepBut.trans ze_ (KeepBut.of_below hb g none) (.inl rfl)) <| z1 (below_step zj_ hb); clear HO150 HO160 HI0 HK HB; obtain ⟨HO150, HO160, HO163, HI0, HK, HB⟩ := n_; (try clear hb); (try clear ho0); obtain ⟨Ao55, co55, eo55⟩ := Kd.R_slice HO163.out; subst eo55) | ((with_reducible refine gate_callee (f := 109) rfl ?_); refine goesL_ (some 28) rfl rfl Try.func109 (by kernel_rfl) rfl #[.pointer (some ⟨g, 0, none⟩), .int .i64 8] rfl zd_ ?_; (with_reducible refine (spec_l1Cur_pick.calls g s0_0 t151 t152 8 t164 t165 t166 w0 _ ?side1 ?side2 A8.out).mono ?_); (case side1 => exact zi_); (case side2 => exact zj_); rintro e w56 ⟨rfl, hi, hb, hk⟩; refine ⟨_, rfl, ?_⟩; have n_ := z (Kd.R_mono (Kd.R_keep (IsS111.apart (show IsS111 w0 _ g s0_0 t151 t152 from by repeat (first | (with_reducible first | exact HI0.out | apply IsS111.alloc | apply IsS111.drewN | apply IsS111.drew | apply IsS111.set_1 | apply IsS111.set_2) | exact HI0.out)) (zr HO150.out) (by decide)) hk (fun _ h => h.2)) (fun _ h => h.1)) <| z (Kd.R_mono (Kd.R_keep (IsS111.apart (show IsS111 w0 _ g s0_0 t151 t152 from by repeat (first | (with_reducible first | exact HI0.out | apply IsS111.alloc | apply IsS111.drewN | apply IsS111.drew | apply IsS111.set_1 | apply IsS111.set_2) | exact HI0.out)) (zr HO160.out) (by decide)) hk (fun _ h => h.2)) (fun _ h => h.1)) <| z (Kd.R_mono (Kd.R_keep (IsS111.apart (show IsS111 w0 _ g s0_0 t151 t152 from by repeat (first | (with_reducible first | exact HI0.out | apply IsS111.alloc | apply IsS111.drewN | apply IsS111.drew | apply IsS111.set_1 | apply IsS111.set_2) | exact HI0.out)) (zr HO163.out) (by decide)) hk (fun _ h => h.2)) (fun _ h => h.1)) <| z (KeepBut.trans ze_ hk (.inl rfl)) <| z (hb) <| z1 (hi); clear HO150 HO160 HO163 HK HB HI0; obtain ⟨HO150, HO160, HO163, HK, HB, HI0⟩ := n_; (try clear hb); (try clear hk); (try clear hi)) | ((with_reducible refine gate_callee (f := 139) rfl ?_); refine goesL_ (some 57) rfl rfl Try.func139 (by kernel_rfl) rfl #[.pointer (some ⟨g, 0, none⟩), .int .i64 3] rfl zd_ ?_; (with_reducible refine (spec_l1Cur_one.calls g s0_0 t165 t166 3 true t180 t181 w0 _ ?side1 ?side2 A46.out).mono ?_); (case side1 => exact zi_); (case side2 => exact zj_); rintro e w57 ⟨rfl, hi, hb, hk⟩; refine ⟨_, rfl, ?_⟩; have n_ := z (Kd.R_mono (Kd.R_keep (IsS111.apart (show IsS111 w0 _ g s0_0 t165 t166 from by repeat (first | (with_reducible first | exact HI0.out | apply IsS111.alloc | apply IsS111.drewN | apply IsS111.drew | apply IsS111.set_1 | apply IsS111.set_2) | exact HI0.out)) (zr HO150.out) (by decide)) hk (fun _ h => h.2)) (fun _ h => h.1)) <| z (Kd.R_mono (Kd.R_keep (IsS111.apart (show IsS111 w0 _ g s0_0 t165 t166 from by repeat (first | (with_reducible first | exact HI0.out | apply IsS111.alloc | apply IsS111.drewN | apply IsS111.drew | apply IsS111.set_1 | apply IsS111.set_2) | exact HI0.out)) (zr HO160.out) (by decide)) hk (fun _ h => h.2)) (fun _ h => h.1)) <| z (Kd.R_mono (Kd.R_keep (IsS111.apart (show IsS111 w0 _ g s0_0 t165 t166 from by repeat (first | (with_reducible first | exact HI0.out | apply IsS111.alloc | apply IsS111.drewN | apply IsS111.drew | apply IsS111.set_1 | apply IsS111.set_2) | exact HI0.out)) (zr HO163.out) (by decide)) hk (fun _ h => h.2)) (fun _ h => h.1)) <| z (KeepBut.trans ze_ hk (.inl rfl)) <| z (hb) <| z1 (hi); clear HO150 HO160 HO163 HK HB HI0; obtain ⟨HO150, HO160, HO163, HK, HB, HI0⟩ := n_; (try clear hb); (try clear hk); (try clear hi); have n_ := aM (Kd.R_mono (ok' := (fun k_ => some k_ ≠ (.slice Ao53 t157.length co53 : Value).ownBlock)) HO163.out (fun k_ hk => hk.2)); clear HO163; have HO163 := n_; clear n_; have q58 : (1 : Int) ≤ ((t161.length : Int) : Int) := of_decide_eq_true zb_; obtain ⟨i058, hi058, _, hsz58, _⟩ := info_parts info3; have hcut58 := cut_from (P := Try.prog) 24 3 .i64 Try.underlying24 hi058 1 hsz58 Ao55 t161.length co55 1 (by omega) q58; have hr58 := Kd.Q_drop (k := (1 : Int).toNat) (Kd.Q_of_R HO163.out) (by omega); obtain ⟨A58, hA58⟩ : ∃ A1, A1 = (if co55 = (1 : Int).toNat then Ao55 else (Ao55 : Option Addr).map (·.add ((1 : Int).toNat * 1))) := ⟨_, rfl⟩; obtain ⟨c58, hc58⟩ : ∃ c1, c1 = co55 - (1 : Int).toNat := ⟨_, rfl⟩; have hy58 : y182.length = t161.length - (1 : Int).toNat := (by rw [Ny182.out, lD]); rw [← Ny182.out] at hr58; rw [← hy58, ← hA58, ← hc58] at hcut58; replace hr58 : Kd.Q (Kd.int .i64) 3 w57 w.heap.size (fun k_ => some k_ ≠ (.slice Ao53 t157.length co53 : Value).ownBlock) (.slice A58 y182.length c58) y182 := (by rw [hA58, hc58, hy58]; exact hr58); have HE58 : Aside0 ((Value.slice A58 y182.length c58).ownBlock = (.slice Ao55 t161.length co55 : Value).ownBlock) := ⟨by rw [hA58]; split <;> (cases (Ao55 : Option Addr) <;> first | rfl | (simp only [Value.ownBlock, Option.map, Go.Addr.add]; split <;> rfl))⟩; clear hy58 hi058 hsz58 HO163 hA58 hc58; have HO184 := aM hr58; clear hr58; replace q58 := eq_true q58; have n_ := aM (Kd.R_mono (ok' := fun k_ => (True ∧ some k_ ≠ (.slice A58 y182.length c58 : Value).ownBlock)) HO160.out (fun k_ hk => ⟨trivial, (by rw [HE58.out]; exact hk.2)⟩)); clear HO160; have HO160 := n_; clear n_))
        go_ret2
        exact ⟨_, _, zg_, zea_, by refine zq ?_; exact Kd.Q_mono HO184.out (fun _ hk => trivial), zi_, zj_, ze_⟩
       ·rw [if_neg c48] at H
        exact absurd H (by simp)
      ·replace c47 := Bool.eq_false_iff.mpr c47
       subst c47
       have H1 : (some (t148, t161, t180, t181)) = some (r1, r2, r3, r4) := by rw [if_neg (show ¬ (false = true) by decide)] at H; exact H
       clear H
       have H := H1
       clear H1
       simp only [Option.some.injEq, Prod.mk.injEq] at H
       obtain ⟨rfl, rfl, rfl, rfl⟩ := H
       go_enter Try.func100, Try.ntmps100
       go_wp2_with (first | ((with_reducible refine gate_callee (f := 166) rfl ?_); refine goesL_ (some 9) rfl rfl Try.func166 (by kernel_rfl) rfl #[.pointer (some ⟨g, 0, none⟩)] rfl zd_ ?_; (with_reducible refine (spec_l1Cur_channelWires.calls g s0_0 s0_1 s0_2 t148 t151 t152 w0 _ ?side1 ?side2 A2.out).mono ?_); (case side1 => exact zi_); (case side2 => exact zj_); rintro e w59 ⟨v149, rfl, ho0, hi, hb, hk⟩; refine ⟨_, rfl, ?_⟩; have n_ := z (Kd.R_lower ho0 (keep_size (w := w) (g := g) (row := none) ze_)) <| z (KeepBut.trans ze_ hk (.inl rfl)) <| z (hb) <| z1 (hi); clear HK HB HI0; obtain ⟨HO150, HK, HB, HI0⟩ := n_; (try clear hb); (try clear hk); (try clear hi); (try clear ho0); obtain ⟨Ao60, co60, eo60⟩ := Kd.R_slice HO150.out; subst eo60) | ((with_reducible refine gate_callee (f := 162) rfl ?_); refine goesL_ (some 11) rfl rfl Try.func162 (by kernel_rfl) rfl #[.slice Ao60 t148.length co60] rfl zd_ ?_; (with_reducible refine (spec_rtGood.calls k _ _ t148 true _ ?side1 ?side2 A3.out).mono ?_); (case side1 => exact zbj_); (case side2 => exact zca_); rintro e w61 ⟨rfl, hb⟩; refine ⟨_, rfl, ?_⟩; have n_ := z (Kd.R_below (zr HO150.out) hb) <| z (IsS111.below zi_ hb) <| z (KeepBut.trans ze_ (KeepBut.of_below hb g none) (.inl rfl)) <| z1 (below_step zj_ hb); clear HO150 HI0 HK HB; obtain ⟨HO150, HI0, HK, HB⟩ := n_; (try clear hb)) | ((with_reducible refine gate_callee (f := 76) rfl ?_); refine goesL_ (some 19) rfl rfl Try.func76 (by kernel_rfl) rfl #[.slice Ao60 t148.length co60] rfl zd_ ?_; (with_reducible refine (spec_LeftEdge.calls k _ _ t148 t157 t158 _ ?side1 ?side2 A5.out).mono ?_); (case side1 => exact zbj_); (case side2 => exact zca_); rintro e w62 ⟨v159, rfl, ho0, hb⟩; refine ⟨_, rfl, ?_⟩; have n_ := z (Kd.R_below (zr HO150.out) hb) <| z (Kd.R_lower ho0 (keep_size (w := w) (g := g) (row := none) ze_)) <| z (IsS111.below zi_ hb) <| z (KeepBut.trans ze_ (KeepBut.of_below hb g none) (.inl rfl)) <| z1 (below_step zj_ hb); clear HO150 HI0 HK HB; obtain ⟨HO150, HO160, HI0, HK, HB⟩ := n_; (try clear hb); (try clear ho0); obtain ⟨Ao63, co63, eo63⟩ := Kd.R_slice HO160.out; subst eo63) | ((with_reducible refine gate_callee (f := 151) rfl ?_); refine goesL_ (some 23) rfl rfl Try.func151 (by kernel_rfl) rfl #[.slice Ao63 t157.length co63] rfl zd_ ?_; (with_reducible refine (spec_l1Own.calls _ _ t157 t161 _ ?side1 ?side2 A6.out).mono ?_); (case side1 => exact zdi_); (case side2 => exact zdj_); rintro e w64 ⟨v162, rfl, ho0, hb⟩; refine ⟨_, rfl, ?_⟩; have n_ := z (Kd.R_below (zr HO150.out) hb) <| z (Kd.R_elder' (zr HO160.out) (Kd.R_base ho0) hb) <| z (Kd.R_lower (Kd.R_new' ho0 (Kd.R_lt (zr HO160.out))) (keep_size (w := w) (g := g) (row := none) ze_)) <| z (IsS111.below zi_ hb) <| z (KeepBut.trans ze_ (KeepBut.of_below hb g none) (.inl rfl)) <| z1 (below_step zj_ hb); clear HO150 HO160 HI0 HK HB; obtain ⟨HO150, HO160, HO163, HI0, HK, HB⟩ := n_; (try clear hb); (try clear ho0); obtain ⟨Ao65, co65, eo65⟩ := Kd.R_slice HO163.out; subst eo65) | ((with_reducible refine gate_callee (f := 109) rfl ?_); refine goesL_ (some 28) rfl rfl Try.func109 (by kernel_rfl) rfl #[.pointer (some ⟨g, 0, none⟩), .int .i64 8] rfl zd_ ?_; (with_reducible refine (spec_l1Cur_pick.calls g s0_0 t151 t152 8 t164 t165 t166 w0 _ ?side1 ?side2 A8.out).mono ?_); (case side1 => exact zi_); (case side2 => exact zj_); rintro e w66 ⟨rfl, hi, hb, hk⟩; refine ⟨_, rfl, ?_⟩; have n_ := z (Kd.R_mono (Kd.R_keep (IsS111.apart (show IsS111 w0 _ g s0_0 t151 t152 from by repeat (first | (with_reducible first | exact HI0.out | apply IsS111.alloc | apply IsS111.drewN | apply IsS111.drew | apply IsS111.set_1 | apply IsS111.set_2) | exact HI0.out)) (zr HO150.out) (by decide)) hk (fun _ h => h.2)) (fun _ h => h.1)) <| z (Kd.R_mono (Kd.R_keep (IsS111.apart (show IsS111 w0 _ g s0_0 t151 t152 from by repeat (first | (with_reducible first | exact HI0.out | apply IsS111.alloc | apply IsS111.drewN | apply IsS111.drew | apply IsS111.set_1 | apply IsS111.set_2) | exact HI0.out)) (zr HO160.out) (by decide)) hk (fun _ h => h.2)) (fun _ h => h.1)) <| z (Kd.R_mono (Kd.R_keep (IsS111.apart (show IsS111 w0 _ g s0_0 t151 t152 from by repeat (first | (with_reducible first | exact HI0.out | apply IsS111.alloc | apply IsS111.drewN | apply IsS111.drew | apply IsS111.set_1 | apply IsS111.set_2) | exact HI0.out)) (zr HO163.out) (by decide)) hk (fun _ h => h.2)) (fun _ h => h.1)) <| z (KeepBut.trans ze_ hk (.inl rfl)) <| z (hb) <| z1 (hi); clear HO150 HO160 HO163 HK HB HI0; obtain ⟨HO150, HO160, HO163, HK, HB, HI0⟩ := n_; (try clear hb); (try clear hk); (try clear hi)) | ((with_reducible refine gate_callee (f := 139) rfl ?_); refine goesL_ (some 57) rfl rfl Try.func139 (by kernel_rfl) rfl #[.pointer (some ⟨g, 0, none⟩), .int .i64 3] rfl zd_ ?_; (with_reducible refine (spec_l1Cur_one.calls g s0_0 t165 t166 3 false t180 t181 w0 _ ?side1 ?side2 A46.out).mono ?_); (case side1 => exact zi_); (case side2 => exact zj_); rintro e w67 ⟨rfl, hi, hb, hk⟩; refine ⟨_, rfl, ?_⟩; have n_ := z (Kd.R_mono (Kd.R_keep (IsS111.apart (show IsS111 w0 _ g s0_0 t165 t166 from by repeat (first | (with_reducible first | exact HI0.out | apply IsS111.alloc | apply IsS111.drewN | apply IsS111.drew | apply IsS111.set_1 | apply IsS111.set_2) | exact HI0.out)) (zr HO150.out) (by decide)) hk (fun _ h => h.2)) (fun _ h => h.1)) <| z (Kd.R_mono (Kd.R_keep (IsS111.apart (show IsS111 w0 _ g s0_0 t165 t166 from by repeat (first | (with_reducible first | exact HI0.out | apply IsS111.alloc | apply IsS111.drewN | apply IsS111.drew | apply IsS111.set_1 | apply IsS111.set_2) | exact HI0.out)) (zr HO160.out) (by decide)) hk (fun _ h => h.2)) (fun _ h => h.1)) <| z (Kd.R_mono (Kd.R_keep (IsS111.apart (show IsS111 w0 _ g s0_0 t165 t166 from by repeat (first | (with_reducible first | exact HI0.out | apply IsS111.alloc | apply IsS111.drewN | apply IsS111.drew | apply IsS111.set_1 | apply IsS111.set_2) | exact HI0.out)) (zr HO163.out) (by decide)) hk (fun _ h => h.2)) (fun _ h => h.1)) <| z (KeepBut.trans ze_ hk (.inl rfl)) <| z (hb) <| z1 (hi); clear HO150 HO160 HO163 HK HB HI0; obtain ⟨HO150, HO160, HO163, HK, HB, HI0⟩ := n_; (try clear hb); (try clear hk); (try clear hi)))
       go_ret2
       exact ⟨_, _, zg_, zea_, Kd.Q_of_R zef_, zi_, zj_, ze_⟩
     ·rw [if_neg c45] at H
      have c45b0 : (t164 == 2) = false := beq_eq_false_iff_ne.mpr c45
      have c45b1 : (t164 != 2) = true := bne_iff_ne.mpr c45
      simp only [Option.some.injEq, Prod.mk.injEq] at H
      obtain ⟨rfl, rfl, rfl, rfl⟩ := H
      go_enter Try.func100, Try.ntmps100
      go_wp2_with (first | ((with_reducible refine gate_callee (f := 166) rfl ?_); refine goesL_ (some 9) rfl rfl Try.func166 (by kernel_rfl) rfl #[.pointer (some ⟨g, 0, none⟩)] rfl zd_ ?_; (with_reducible refine (spec_l1Cur_channelWires.calls g s0_0 s0_1 s0_2 t148 t151 t152 w0 _ ?side1 ?side2 A2.out).mono ?_); (case side1 => exact zi_); (case side2 => exact zj_); rintro e w68 ⟨v149, rfl, ho0, hi, hb, hk⟩; refine ⟨_, rfl, ?_⟩; have n_ := z (Kd.R_lower ho0 (keep_size (w := w) (g := g) (row := none) ze_)) <| z (KeepBut.trans ze_ hk (.inl rfl)) <| z (hb) <| z1 (hi); clear HK HB HI0; obtain ⟨HO150, HK, HB, HI0⟩ := n_; (try clear hb); (try clear hk); (try clear hi); (try clear ho0); obtain ⟨Ao69, co69, eo69⟩ := Kd.R_slice HO150.out; subst eo69) | ((with_reducible refine gate_callee (f := 162) rfl ?_); refine goesL_ (some 11) rfl rfl Try.func162 (by kernel_rfl) rfl #[.slice Ao69 t148.length co69] rfl zd_ ?_; (with_reducible refine (spec_rtGood.calls k _ _ t148 true _ ?side1 ?side2 A3.out).mono ?_); (case side1 => exact zbj_); (case side2 => exact zca_); rintro e w70 ⟨rfl, hb⟩; refine ⟨_, rfl, ?_⟩; have n_ := z (Kd.R_below (zr HO150.out) hb) <| z (IsS111.below zi_ hb) <| z (KeepBut.trans ze_ (KeepBut.of_below hb g none) (.inl rfl)) <| z1 (below_step zj_ hb); clear HO150 HI0 HK HB; obtain ⟨HO150, HI0, HK, HB⟩ := n_; (try clear hb)) | ((with_reducible refine gate_callee (f := 76) rfl ?_); refine goesL_ (some 19) rfl rfl Try.func76 (by kernel_rfl) rfl #[.slice Ao69 t148.length co69] rfl zd_ ?_; (with_reducible refine (spec_LeftEdge.calls k _ _ t148 t157 t158 _ ?side1 ?side2 A5.out).mono ?_); (case side1 => exact zbj_); (case side2 => exact zca_); rintro e w71 ⟨v159, rfl, ho0, hb⟩; refine ⟨_, rfl, ?_⟩; have n_ := z (Kd.R_below (zr HO150.out) hb) <| z (Kd.R_lower ho0 (keep_size (w := w) (g := g) (row := none) ze_)) <| z (IsS111.below zi_ hb) <| z (KeepBut.trans ze_ (KeepBut.of_below hb g none) (.inl rfl)) <| z1 (below_step zj_ hb); clear HO150 HI0 HK HB; obtain ⟨HO150, HO160, HI0, HK, HB⟩ := n_; (try clear hb); (try clear ho0); obtain ⟨Ao72, co72, eo72⟩ := Kd.R_slice HO160.out; subst eo72) | ((with_reducible refine gate_callee (f := 151) rfl ?_); refine goesL_ (some 23) rfl rfl Try.func151 (by kernel_rfl) rfl #[.slice Ao72 t157.length co72] rfl zd_ ?_; (with_reducible refine (spec_l1Own.calls _ _ t157 t161 _ ?side1 ?side2 A6.out).mono ?_); (case side1 => exact zdi_); (case side2 => exact zdj_); rintro e w73 ⟨v162, rfl, ho0, hb⟩; refine ⟨_, rfl, ?_⟩; have n_ := z (Kd.R_below (zr HO150.out) hb) <| z (Kd.R_elder' (zr HO160.out) (Kd.R_base ho0) hb) <| z (Kd.R_lower (Kd.R_new' ho0 (Kd.R_lt (zr HO160.out))) (keep_size (w := w) (g := g) (row := none) ze_)) <| z (IsS111.below zi_ hb) <| z (KeepBut.trans ze_ (KeepBut.of_below hb g none) (.inl rfl)) <| z1 (below_step zj_ hb); clear HO150 HO160 HI0 HK HB; obtain ⟨HO150, HO160, HO163, HI0, HK, HB⟩ := n_; (try clear hb); (try clear ho0); obtain ⟨Ao74, co74, eo74⟩ := Kd.R_slice HO163.out; subst eo74) | ((with_reducible refine gate_callee (f := 109) rfl ?_); refine goesL_ (some 28) rfl rfl Try.func109 (by kernel_rfl) rfl #[.pointer (some ⟨g, 0, none⟩), .int .i64 8] rfl zd_ ?_; (with_reducible refine (spec_l1Cur_pick.calls g s0_0 t151 t152 8 t164 t165 t166 w0 _ ?side1 ?side2 A8.out).mono ?_); (case side1 => exact zi_); (case side2 => exact zj_); rintro e w75 ⟨rfl, hi, hb, hk⟩; refine ⟨_, rfl, ?_⟩; have n_ := z (Kd.R_mono (Kd.R_keep (IsS111.apart (show IsS111 w0 _ g s0_0 t151 t152 from by repeat (first | (with_reducible first | exact HI0.out | apply IsS111.alloc | apply IsS111.drewN | apply IsS111.drew | apply IsS111.set_1 | apply IsS111.set_2) | exact HI0.out)) (zr HO150.out) (by decide)) hk (fun _ h => h.2)) (fun _ h => h.1)) <| z (Kd.R_mono (Kd.R_keep (IsS111.apart (show IsS111 w0 _ g s0_0 t151 t152 from by repeat (first | (with_reducible first | exact HI0.out | apply IsS111.alloc | apply IsS111.drewN | apply IsS111.drew | apply IsS111.set_1 | apply IsS111.set_2) | exact HI0.out)) (zr HO160.out) (by decide)) hk (fun _ h => h.2)) (fun _ h => h.1)) <| z (Kd.R_mono (Kd.R_keep (IsS111.apart (show IsS111 w0 _ g s0_0 t151 t152 from by repeat (first | (with_reducible first | exact HI0.out | apply IsS111.alloc | apply IsS111.drewN | apply IsS111.drew | apply IsS111.set_1 | apply IsS111.set_2) | exact HI0.out)) (zr HO163.out) (by decide)) hk (fun _ h => h.2)) (fun _ h => h.1)) <| z (KeepBut.trans ze_ hk (.inl rfl)) <| z (hb) <| z1 (hi); clear HO150 HO160 HO163 HK HB HI0; obtain ⟨HO150, HO160, HO163, HK, HB, HI0⟩ := n_; (try clear hb); (try clear hk); (try clear hi)))
      go_ret2
      exact ⟨_, _, zg_, zea_, Kd.Q_of_R zef_, zi_, zj_, ze_⟩
  ·rw [if_neg c7] at H
   have c7b0 : decide (0 < (t161.length : Int)) = false := decide_eq_false c7
   have c7b1 : decide (0 < t161.length) = false := decide_eq_false (by omega)
   clear c7
   simp only [Option.some.injEq, Prod.mk.injEq] at H
   obtain ⟨rfl, rfl, rfl, rfl⟩ := H
   go_enter Try.func100, Try.ntmps100
   go_wp2_with (first | ((with_reducible refine gate_callee (f := 166) rfl ?_); refine goesL_ (some 9) rfl rfl Try.func166 (by kernel_rfl) rfl #[.pointer (some ⟨g, 0, none⟩)] rfl zd_ ?_; (with_reducible refine (spec_l1Cur_channelWires.calls g s0_0 s0_1 s0_2 t148 t151 t152 w0 _ ?side1 ?side2 A2.out).mono ?_); (case side1 => exact zi_); (case side2 => exact zj_); rintro e w76 ⟨v149, rfl, ho0, hi, hb, hk⟩; refine ⟨_, rfl, ?_⟩; have n_ := z (Kd.R_lower ho0 (keep_size (w := w) (g := g) (row := none) ze_)) <| z (KeepBut.trans ze_ hk (.inl rfl)) <| z (hb) <| z1 (hi); clear HK HB HI0; obtain ⟨HO150, HK, HB, HI0⟩ := n_; (try clear hb); (try clear hk); (try clear hi); (try clear ho0); obtain ⟨Ao77, co77, eo77⟩ := Kd.R_slice HO150.out; subst eo77) | ((with_reducible refine gate_callee (f := 162) rfl ?_); refine goesL_ (some 11) rfl rfl Try.func162 (by kernel_rfl) rfl #[.slice Ao77 t148.length co77] rfl zd_ ?_; (with_reducible refine (spec_rtGood.calls k _ _ t148 true _ ?side1 ?side2 A3.out).mono ?_); (case side1 => exact zbj_); (case side2 => exact zca_); rintro e w78 ⟨rfl, hb⟩; refine ⟨_, rfl, ?_⟩; have n_ := z (Kd.R_below (zr HO150.out) hb) <| z (IsS111.below zi_ hb) <| z (KeepBut.trans ze_ (KeepBut.of_below hb g none) (.inl rfl)) <| z1 (below_step zj_ hb); clear HO150 HI0 HK HB; obtain ⟨HO150, HI0, HK, HB⟩ := n_; (try clear hb)) | ((with_reducible refine gate_callee (f := 76) rfl ?_); refine goesL_ (some 19) rfl rfl Try.func76 (by kernel_rfl) rfl #[.slice Ao77 t148.length co77] rfl zd_ ?_; (with_reducible refine (spec_LeftEdge.calls k _ _ t148 t157 t158 _ ?side1 ?side2 A5.out).mono ?_); (case side1 => exact zbj_); (case side2 => exact zca_); rintro e w79 ⟨v159, rfl, ho0, hb⟩; refine ⟨_, rfl, ?_⟩; have n_ := z (Kd.R_below (zr HO150.out) hb) <| z (Kd.R_lower ho0 (keep_size (w := w) (g := g) (row := none) ze_)) <| z (IsS111.below zi_ hb) <| z (KeepBut.trans ze_ (KeepBut.of_below hb g none) (.inl rfl)) <| z1 (below_step zj_ hb); clear HO150 HI0 HK HB; obtain ⟨HO150, HO160, HI0, HK, HB⟩ := n_; (try clear hb); (try clear ho0); obtain ⟨Ao80, co80, eo80⟩ := Kd.R_slice HO160.out; subst eo80) | ((with_reducible refine gate_callee (f := 151) rfl ?_); refine goesL_ (some 23) rfl rfl Try.func151 (by kernel_rfl) rfl #[.slice Ao80 t157.length co80] rfl zd_ ?_; (with_reducible refine (spec_l1Own.calls _ _ t157 t161 _ ?side1 ?side2 A6.out).mono ?_); (case side1 => exact zdi_); (case side2 => exact zdj_); rintro e w81 ⟨v162, rfl, ho0, hb⟩; refine ⟨_, rfl, ?_⟩; have n_ := z (Kd.R_below (zr HO150.out) hb) <| z (Kd.R_elder' (zr HO160.out) (Kd.R_base ho0) hb) <| z (Kd.R_lower (Kd.R_new' ho0 (Kd.R_lt (zr HO160.out))) (keep_size (w := w) (g := g) (row := none) ze_)) <| z (IsS111.below zi_ hb) <| z (KeepBut.trans ze_ (KeepBut.of_below hb g none) (.inl rfl)) <| z1 (below_step zj_ hb); clear HO150 HO160 HI0 HK HB; obtain ⟨HO150, HO160, HO163, HI0, HK, HB⟩ := n_; (try clear hb); (try clear ho0); obtain ⟨Ao82, co82, eo82⟩ := Kd.R_slice HO163.out; subst eo82))
   go_ret2
   exact ⟨_, _, zg_, zea_, Kd.Q_of_R zef_, zi_, zj_, ze_⟩
 ·replace c4 := Bool.eq_false_iff.mpr c4
  subst c4
  have H1 : (if 0 ≤ (t148.length : Int) then (if ((t148.length : Int) : Int).toNat ≤ 35184372088832 then (some (t148, (List.replicate ((t148.length : Int) : Int).toNat 0), t151, t152)) else (none)) else (none)) = some (r1, r2, r3, r4) := by rw [if_neg (show ¬ (false = true) by decide)] at H; exact H
  clear H
  have H := H1
  clear H1
  by_cases c83 : 0 ≤ (t148.length : Int)
  ·rw [if_pos c83] at H
   have c83b0 := eq_true c83
   have c83b1 : decide (0 ≤ (t148.length : Int)) = true := decide_eq_true c83
   clear c83
   by_cases c84 : ((t148.length : Int) : Int).toNat ≤ 35184372088832
   ·rw [if_pos c84] at H
    have c84b0 := eq_true c84
    have c84b1 : decide (((t148.length : Int) : Int).toNat ≤ 35184372088832) = true := decide_eq_true c84
    clear c84
    obtain ⟨y154, hy154⟩ : ∃ y_ : List Int, y_ = (List.replicate ((t148.length : Int) : Int).toNat 0) := ⟨_, rfl⟩
    replace H : (some (t148, y154, t151, t152)) = some (r1, r2, r3, r4) := by first | (rw [hy154]; with_reducible exact H) | (have H2_ := (oS _ _).symm.trans H; rw [hy154]; with_reducible exact H2_) | (have H2_ := (oS _ _).symm.trans H; with_reducible exact H2_) | with_reducible exact H | (rw [hy154]; exact H) | exact H
    have Ny154 := aM hy154
    clear hy154
    simp only [Option.some.injEq, Prod.mk.injEq] at H
    obtain ⟨rfl, rfl, rfl, rfl⟩ := H
    go_enter Try.func100, Try.ntmps100
    try go_wp2_with (first | ((with_reducible refine gate_callee (f := 166) rfl ?_); refine goesL_ (some 9) rfl rfl Try.func166 (by kernel_rfl) rfl #[.pointer (some ⟨g, 0, none⟩)] rfl zd_ ?_; (with_reducible refine (spec_l1Cur_channelWires.calls g s0_0 s0_1 s0_2 t148 t151 t152 w0 _ ?side1 ?side2 A2.out).mono ?_); (case side1 => exact zi_); (case side2 => exact zj_); rintro e w85 ⟨v149, rfl, ho0, hi, hb, hk⟩; refine ⟨_, rfl, ?_⟩; have n_ := z (Kd.R_lower ho0 (keep_size (w := w) (g := g) (row := none) ze_)) <| z (KeepBut.trans ze_ hk (.inl rfl)) <| z (hb) <| z1 (hi); clear HK HB HI0; obtain ⟨HO150, HK, HB, HI0⟩ := n_; (try clear hb); (try clear hk); (try clear hi); (try clear ho0); obtain ⟨Ao86, co86, eo86⟩ := Kd.R_slice HO150.out; subst eo86) | ((with_reducible refine gate_callee (f := 162) rfl ?_); refine goesL_ (some 11) rfl rfl Try.func162 (by kernel_rfl) rfl #[.slice Ao86 t148.length co86] rfl zd_ ?_; (with_reducible refine (spec_rtGood.calls k _ _ t148 false _ ?side1 ?side2 A3.out).mono ?_); (case side1 => exact zbj_); (case side2 => exact zca_); rintro e w87 ⟨rfl, hb⟩; refine ⟨_, rfl, ?_⟩; have n_ := z (Kd.R_below (zr HO150.out) hb) <| z (IsS111.below zi_ hb) <| z (KeepBut.trans ze_ (KeepBut.of_below hb g none) (.inl rfl)) <| z1 (below_step zj_ hb); clear HO150 HI0 HK HB; obtain ⟨HO150, HI0, HK, HB⟩ := n_; (try clear hb)))
    have n_ := z (kD HO150.out) <| z (IsS111.drew HI0.out) <| z (keep_drew HK.out) <| z1 (p1 HB.out)
    clear HO150 HI0 HK HB
    obtain ⟨HO150, HI0, HK, HB⟩ := n_
    refine start_ (n := 6) (S := fun w' => True) (ds := []) #[fi,fi,fi,fi,fi,fi] (by kernel_rfl) rfl rfl trivial (fun hHeld => ?_)
    generalize w87.drew = w88 at HO150 HI0 HK HB hHeld ⊢
    refine pure_ (i := 0) (N := some 13) (v := ?_) (a' := ?_) #[ti,fi,fi,fi,fi,fi] rfl rfl (by kernel_rfl) (fun _ _ _ h => h) (Or.inl ⟨by rfl, ?_⟩) ?_ ?_; rotate_left; (· (intro w'; go_simp; with_reducible rfl)); rotate_left; (· (simp only [Act.put, sI, s0, sS, i64_w, i32_w]; rfl))
    refine pure_ (i := 1) (N := some 14) (v := ?_) (a' := ?_) #[ti,ti,fi,fi,fi,fi] rfl rfl (by kernel_rfl) (fun _ _ _ h => h) (Or.inl ⟨by rfl, ?_⟩) ?_ ?_; rotate_left; (· (intro w'; go_simp; with_reducible rfl)); rotate_left; (· (simp only [Act.put, sI, s0, sS, i64_w, i32_w]; rfl))
    refine pure_ (i := 2) (N := some 15) (v := ?_) (a' := ?_) #[ti,ti,ti,fi,fi,fi] rfl rfl (by kernel_rfl) (fun _ _ _ h => h) (Or.inl ⟨by rfl, ?_⟩) ?_ ?_; rotate_left; (· (intro w'; go_simp; with_reducible rfl)); rotate_left; (· (simp only [Act.put, sI, s0, sS, i64_w, i32_w]; rfl))
    refine pure_ (i := 4) (N := some 2) (v := ?_) (a' := ?_) #[ti,ti,ti,fi,ti,fi] rfl rfl (by kernel_rfl) (fun _ _ _ h => h) (Or.inl ⟨by rfl, ?_⟩) ?_ ?_; rotate_left; (· (intro w'; go_simp; with_reducible rfl)); rotate_left; (· (simp only [Act.put, sI, s0, sS, i64_w, i32_w]; rfl))
    refine one_ (i := 3) (N := some 16) #[ti,ti,ti,ti,ti,fi] rfl rfl (by kernel_rfl) (by decide) (fun K hK => ?_)
    refine Kd.R_make_step (Kd.int .i64) _ 3 (by rfl) (N := 16) rfl 24 _ _ rfl (t148.length : Int) rfl rfl Try.underlying24 (.int .i64 0) 8 info3 rfl (by decide) (by omega) 0 (ok := fun _ => True) (okp := fun _ => True) rfl (fun _ hk => hk) trivial (of_decide_eq_true zb_) (Nat.le_trans (Nat.mul_le_mul_right _ (of_decide_eq_true zb_ : (t148.length : Int).toNat ≤ 35184372088832)) (by omega)) (Below.refl _ _) (Nat.le_refl _) ?_
    intro v155 w89 ho90 hb hg_ hnew_
    clear hg_ hnew_
    (first | rw [← Ny154.out] at ho90 | (simp only [Int.reduceToNat] at ho90; rw [← Ny154.out] at ho90))
    have n_ := z (Kd.R_below (zr HO150.out) hb) <| z (Kd.R_lower ho90 (keep_size (w := w) (g := g) (row := none) ze_)) <| z (IsS111.below zi_ hb) <| z (KeepBut.trans ze_ (KeepBut.of_below hb g none) (.inl rfl)) <| z1 (below_step zj_ hb)
    clear HO150 HI0 HK HB
    obtain ⟨HO150, HO156, HI0, HK, HB⟩ := n_
    clear hb ho90
    refine hK.out _ _ trivial (fun hHeld => ?_)
    clear hK K
    refine norm_ (a' := ?_) ?_ ?_
    rotate_left
    ·show Act.put _ (some 16) _ = _
     simp only [Act.put, sI, s0, sS, i64_w, i32_w]
     rfl
    refine pure_ (i := 5) (N := some 3) (v := ?_) (a' := ?_) #[ti,ti,ti,ti,ti,ti] rfl rfl (by kernel_rfl) (fun _ _ _ h => h) (Or.inl ⟨by rfl, ?_⟩) ?_ ?_; rotate_left; (· (intro w'; go_simp; with_reducible rfl)); rotate_left; (· (simp only [Act.put, sI, s0, sS, i64_w, i32_w]; rfl))
    refine done_ (by kernel_rfl) ?_
    try go_wp2
    go_ret2
    exact ⟨_, _, zg_, zea_, Kd.Q_of_R (zr HO156.out), zi_, zj_, ze_⟩
   ·rw [if_neg c84] at H
    exact absurd H (by simp)
  ·rw [if_neg c83] at H
   exact absurd H (by simp)
def spec_DrawIsRouting.f (k : Nat) (l0 : List Int) : Option ((List (S32)) × List Int) := (spec_l1Cur_routed.f k l0 0 0).bind fun bt186 => (some (bt186.1, bt186.2.1))
theorem spec_DrawIsRouting.calls (k : Nat) (A0 : Option Addr) (c0 : Nat) (l0 : List Int) (r1 : List (S32)) (r2 : List Int) (w : World) (hr0 : Kd.C (Kd.int .u8) w A0 l0.length l0) (hc0 : l0.length ≤ c0) (h : spec_DrawIsRouting.f k l0 = some (r1, r2)) :
  Calls Try.prog 9 #[.slice A0 l0.length c0] w fun e w' => ∃ v0_ v1_ : Value, e = .returned (.tuple #[v0_, v1_]) ∧ Kd.R k32 32 w' w.heap.size (fun _ => True) v0_ r1 ∧ Kd.Q (Kd.int .i64) 3 w' w.heap.size (fun _ => True) v1_ r2 ∧ Below w.heap.size w w' := by
 have hu111 := Try.underlying111
 have HR0 := aM hr0
 have HC0 := aM hc0
 clear hr0 hc0
 have HB := aM (Below.refl w.heap.size w)
 have H : ((spec_l1Cur_routed.f k l0 0 0).bind fun bt186 => (some (bt186.1, bt186.2.1))) = some (r1, r2) := h
 clear h
 replace H := oB.mp H
 obtain ⟨⟨t186, t189, t192, t193⟩, A20, H⟩ := H
 replace H : (some (t186, t189)) = some (r1, r2) := H
 have A2 := aM A20
 clear A20
 simp only [Option.some.injEq, Prod.mk.injEq] at H
 obtain ⟨rfl, rfl⟩ := H
 go_enter Try.func9, Try.ntmps9
 go_wp2_with (first | ((with_reducible refine gate_dst (N := 7) rfl ?_); refine box_event ?hg (N := 7) ?hd (cs := #[.slice A0 l0.length c0, .int .i64 0, .int .u64 0]) (t := 111) ?hr ?_; (case hd => rfl); (case hg => rfl); (case hr => exact zf_); intro gb185 hg w3 hbox hb; have n_ := z (below_step za_ hb) <| z ((by rw [hg]; exact (below_size za_) : w.heap.size ≤ gb185)) <| z ((by rw [hg]; exact (below_size za_) : w.heap.size ≤ gb185)) <| z1 ((⟨_, _, hbox, (by rw [hg]; exact (below_size za_) : w.heap.size ≤ gb185), HR0.out⟩ : IsS111 w w3 gb185 l0 0 0)); clear HB; obtain ⟨HB, GW185, GE185, HI185⟩ := n_; clear hb hbox hg) | ((with_reducible refine gate_callee (f := 100) rfl ?_); refine goesL_ (some 9) rfl rfl Try.func100 (by kernel_rfl) rfl #[.pointer (some ⟨gb185, 0, none⟩)] rfl zd_ ?_; (with_reducible refine (spec_l1Cur_routed.calls k gb185 l0 0 0 t186 t189 t192 t193 w _ ?side1 ?side2 A2.out).mono ?_); (case side1 => repeat (first | (with_reducible first | exact HI185.out | apply IsS111.alloc | apply IsS111.drewN | apply IsS111.drew | apply IsS111.set_1 | apply IsS111.set_2) | exact HI185.out)); (case side2 => exact zfb_); rintro e w4 ⟨v187, v190, rfl, ho0, ho1, hi, hb, hk⟩; refine ⟨_, rfl, ?_⟩; have n_ := z (Kd.R_lower ho0 (below_size zfb_)) <| z (Kd.Q_lower ho1 (below_size zfb_)) <| z (hb) <| z1 (hi); clear HB HI185; obtain ⟨HO188, HO191, HB, HI185⟩ := n_; (try clear hb); (try clear hk); (try clear hi); (try clear ho0); (try clear ho1)))
 go_ret2
 exact ⟨_, _, zg_, by refine zr ?_; exact HO188.out, by refine zq ?_; exact HO191.out, zfb_⟩
def impl_isWire.f (a0_0 : Int) (a0_1 : Int) : Option (Bool) := if a0_0 ≥ 0 then (if a0_0 ≤ a0_1 then (some (decide (a0_1 ≤ 50))) else (some false)) else (some false)
theorem impl_isWire.calls (a0_0 : Int) (a0_1 : Int) (r : Bool) (w : World) (h : impl_isWire.f a0_0 a0_1 = some r) :
  Calls Try.prog 111 #[.agg #[.int .i64 a0_0, .int .i64 a0_1]] w fun e w' => e = .returned (.bool r) ∧ Below w.heap.size w w' := by
 have hu32 := Try.underlying32
 have HB := aM (Below.refl w.heap.size w)
 have H : (if a0_0 ≥ 0 then (if a0_0 ≤ a0_1 then (some (decide (a0_1 ≤ 50))) else (some false)) else (some false)) = some r := h
 clear h
 by_cases c2 : a0_0 ≥ 0
 ·rw [if_pos c2] at H
  have c2b0 : decide (0 ≤ a0_0) = true := decide_eq_true c2
  clear c2
  by_cases c3 : a0_0 ≤ a0_1
  ·rw [if_pos c3] at H
   have c3b0 : decide (a0_0 ≤ a0_1) = true := decide_eq_true c3
   clear c3
   obtain rfl := Option.some.inj H
   go_enter Try.func111, Try.ntmps111
   go_wp2_with (first | ((with_reducible refine gate_dst (N := 1) rfl ?_); refine box_event ?hg (N := 1) ?hd (cs := #[.int .i64 a0_0, .int .i64 a0_1]) (t := 32) ?hr ?_; (case hd => rfl); (case hg => rfl); (case hr => exact zf_); intro gb194 hg w4 hbox hb; have n_ := z (below_step za_ hb) <| z (hbox) <| z ((by rw [hg]; exact (below_size za_) : w.heap.size ≤ gb194)) <| z1 ((by rw [hg]; exact (below_size za_) : w.heap.size ≤ gb194)); clear HB; obtain ⟨HB, BK194, GW194, GE194⟩ := n_; clear hb hbox hg; have hcz5_0 : w4.cell? ⟨gb194, 0, none⟩ = some (.int .i64 a0_0) := (blk_cell BK194.out 0).trans rfl; have hcz5_1 : w4.cell? ⟨gb194, 1, none⟩ = some (.int .i64 a0_1) := (blk_cell BK194.out 1).trans rfl; have hfz5_0 := blk_frozen BK194.out 0; have hfz5_1 := blk_frozen BK194.out 1))
   go_ret
   exact ⟨zg_, zgd_⟩
  ·rw [if_neg c3] at H
   have c3b0 : decide (a0_0 ≤ a0_1) = false := decide_eq_false c3
   clear c3
   obtain rfl := Option.some.inj H
   go_enter Try.func111, Try.ntmps111
   go_wp2_with (first | ((with_reducible refine gate_dst (N := 1) rfl ?_); refine box_event ?hg (N := 1) ?hd (cs := #[.int .i64 a0_0, .int .i64 a0_1]) (t := 32) ?hr ?_; (case hd => rfl); (case hg => rfl); (case hr => exact zf_); intro gb194 hg w6 hbox hb; have n_ := z (below_step za_ hb) <| z (hbox) <| z ((by rw [hg]; exact (below_size za_) : w.heap.size ≤ gb194)) <| z1 ((by rw [hg]; exact (below_size za_) : w.heap.size ≤ gb194)); clear HB; obtain ⟨HB, BK194, GW194, GE194⟩ := n_; clear hb hbox hg; have hcz7_0 : w6.cell? ⟨gb194, 0, none⟩ = some (.int .i64 a0_0) := (blk_cell BK194.out 0).trans rfl; have hcz7_1 : w6.cell? ⟨gb194, 1, none⟩ = some (.int .i64 a0_1) := (blk_cell BK194.out 1).trans rfl; have hfz7_0 := blk_frozen BK194.out 0; have hfz7_1 := blk_frozen BK194.out 1))
   go_ret
   exact ⟨zg_, zgd_⟩
 ·rw [if_neg c2] at H
  have c2b0 : decide (0 ≤ a0_0) = false := decide_eq_false c2
  clear c2
  obtain rfl := Option.some.inj H
  go_enter Try.func111, Try.ntmps111
  go_wp2_with (first | ((with_reducible refine gate_dst (N := 1) rfl ?_); refine box_event ?hg (N := 1) ?hd (cs := #[.int .i64 a0_0, .int .i64 a0_1]) (t := 32) ?hr ?_; (case hd => rfl); (case hg => rfl); (case hr => exact zf_); intro gb194 hg w8 hbox hb; have n_ := z (below_step za_ hb) <| z (hbox) <| z ((by rw [hg]; exact (below_size za_) : w.heap.size ≤ gb194)) <| z1 ((by rw [hg]; exact (below_size za_) : w.heap.size ≤ gb194)); clear HB; obtain ⟨HB, BK194, GW194, GE194⟩ := n_; clear hb hbox hg; have hcz9_0 : w8.cell? ⟨gb194, 0, none⟩ = some (.int .i64 a0_0) := (blk_cell BK194.out 0).trans rfl; have hcz9_1 : w8.cell? ⟨gb194, 1, none⟩ = some (.int .i64 a0_1) := (blk_cell BK194.out 1).trans rfl; have hfz9_0 := blk_frozen BK194.out 0; have hfz9_1 := blk_frozen BK194.out 1))
  go_ret
  exact ⟨zg_, zgd_⟩
def impl_AreChannelWires.l0 : Nat → List (S32) → Int → Int → Option (Bool)
 | 0, _, _, _ => none
 | k + 1, x8, x9, x10 => if x10 < x9 then (if 0 ≤ x10 then (if x10 < (x8.length : Int) then ((impl_isWire.f ((rd_T32 x8 x10).f0) ((rd_T32 x8 x10).f1)).bind fun t197 => (if t197 = true then (impl_AreChannelWires.l0 k x8 x9 (wrap64 (x10 + 1))) else (some false))) else (none)) else (none)) else (some true)
def impl_AreChannelWires.f (k : Nat) (l0 : List (S32)) : Option (Bool) := if (l0.length : Int) > 20 then (some false) else (impl_AreChannelWires.l0 k l0 (l0.length : Int) 0)
theorem impl_AreChannelWires.calls (k : Nat) (A0 : Option Addr) (c0 : Nat) (l0 : List (S32)) (r : Bool) (w : World) (hr0 : Kd.C k32 w A0 l0.length l0) (hc0 : l0.length ≤ c0) (h : impl_AreChannelWires.f k l0 = some r) :
  Calls Try.prog 87 #[.slice A0 l0.length c0] w fun e w' => e = .returned (.bool r) ∧ Below w.heap.size w w' := by
 have hu32 := Try.underlying32
 have HR0 := aM hr0
 have HC0 := aM hc0
 clear hr0 hc0
 have HB := aM (Below.refl w.heap.size w)
 have H : (if (l0.length : Int) > 20 then (some false) else (impl_AreChannelWires.l0 k l0 (l0.length : Int) 0)) = some r := h
 clear h
 by_cases c2 : (l0.length : Int) > 20
 ·rw [if_pos c2] at H
  have c2b0 : decide (20 < (l0.length : Int)) = true := decide_eq_true c2
  have c2b1 : decide (20 < l0.length) = true := decide_eq_true (by omega)
  clear c2
  obtain rfl := Option.some.inj H
  go_enter Try.func87, Try.ntmps87
  go_wp2
  go_ret
  exact ⟨zg_, za_⟩
 ·rw [if_neg c2] at H
  have c2b0 : decide (20 < (l0.length : Int)) = false := decide_eq_false c2
  have c2b1 : decide (20 < l0.length) = false := decide_eq_false (by omega)
  clear c2
  have H' := aM H
  clear H
  go_enter Try.func87, Try.ntmps87
  go_wp2
  go_loopg [10] k (fun kq v10 w' => ∃ (x10_1 : Int), v10 = .int .i64 x10_1 ∧ Aside0 (impl_AreChannelWires.l0 kq l0 (l0.length : Int) x10_1 = some r) ∧ Aside0 (kq ≤ k) ∧ Aside0 (Below w.heap.size w w'))
  case atStart => exact ⟨(0), zc_, H', ⟨Nat.le_refl _⟩, ⟨za_⟩⟩
  case round =>
   clear H'
   try clear c2
   try clear c2b0
   try clear c2b1
   try clear p2
   obtain ⟨x10_1, rfl, HA, HK1, HB⟩ := hrel
   cases gk with
   | zero => exact absurd HA.out (by simp [impl_AreChannelWires.l0])
   | succ k1 =>
    have H := HA.out
    clear HA
    simp only [impl_AreChannelWires.l0] at H
    by_cases c3 : x10_1 < (l0.length : Int)
    ·rw [if_pos c3] at H
     have c3b0 : decide (x10_1 < (l0.length : Int)) = true := decide_eq_true c3
     clear c3
     by_cases c4 : 0 ≤ x10_1
     ·rw [if_pos c4] at H
      have c4b0 : decide (0 ≤ x10_1) = true := decide_eq_true c4
      clear c4
      by_cases c5 : x10_1 < (l0.length : Int)
      ·rw [if_pos c5] at H
       have c5b0 : decide (x10_1 < (l0.length : Int)) = true := decide_eq_true c5
       clear c5
       replace H := oB.mp H
       obtain ⟨t197, A60, H⟩ := H
       replace H : (if t197 = true then (impl_AreChannelWires.l0 k1 l0 (l0.length : Int) (wrap64 (x10_1 + 1))) else (some false)) = some r := H
       have A6 := aM A60
       clear A60
       by_cases c7 : t197 = true
       ·subst c7
        have H1 : (impl_AreChannelWires.l0 k1 l0 (l0.length : Int) (wrap64 (x10_1 + 1))) = some r := by rw [if_pos rfl] at H; exact H
        clear H
        have H := H1
        clear H1
        have H' := aM H
        clear H
        have p195 : 0 ≤ (x10_1 : Int) := of_decide_eq_true zb_
        have q195 : x10_1 < (l0.length : Int) := of_decide_eq_true zb_
        obtain ⟨ad195, e195, hx195_0, hx195_1⟩ := at_T32 HR0.out x10_1 p195 q195
        cases e195
        (try (replace hx195_0 := (HB.out.cell (World.block_lt_of_cell? w _ hx195_0)).trans hx195_0))
        (try (replace hx195_1 := (HB.out.cell (World.block_lt_of_cell? w _ hx195_1)).trans hx195_1))
        replace p195 := eq_true p195
        replace q195 := eq_true q195
        go_wp2_with (first | ((with_reducible refine gate_dst (N := 4) rfl ?_); refine box_event ?hg (N := 4) ?hd (cs := #[.int .i64 0, .int .i64 0]) (t := 32) ?hr ?_; (case hd => rfl); (case hg => rfl); (case hr => exact zf_); intro gb196 hg w8 hbox hb; have n_ := z (below_step za_ hb) <| z (hbox) <| z ((by rw [hg]; exact (below_size za_) : w.heap.size ≤ gb196)) <| z1 ((by rw [hg]; exact (below_size za_) : w.heap.size ≤ gb196)); clear HB; obtain ⟨HB, BK196, GW196, GE196⟩ := n_; clear hb hbox hg; have hcz9_0 : w8.cell? ⟨gb196, 0, none⟩ = some (.int .i64 0) := (blk_cell BK196.out 0).trans rfl; have hcz9_1 : w8.cell? ⟨gb196, 1, none⟩ = some (.int .i64 0) := (blk_cell BK196.out 1).trans rfl; have hfz9_0 := blk_frozen BK196.out 0; have hfz9_1 := blk_frozen BK196.out 1) | ((with_reducible refine gate_callee (f := 111) rfl ?_); refine goesL_ (some 15) rfl rfl Try.func111 (by kernel_rfl) rfl #[.agg #[.int .i64 ((rd_T32 l0 x10_1).f0), .int .i64 ((rd_T32 l0 x10_1).f1)]] rfl zd_ ?_; (with_reducible refine (impl_isWire.calls ((rd_T32 l0 x10_1).f0) ((rd_T32 l0 x10_1).f1) true _ A6.out).mono ?_); rintro e w10 ⟨rfl, hb⟩; refine ⟨_, rfl, ?_⟩; have n_ := z (blk_below (g := gb196) (o := .cells #[.int .i64 ((rd_T32 l0 x10_1).f0), .int .i64 ((rd_T32 l0 x10_1).f1)] 32 (0, 0)) (by refine zb ?_; refine blk_put (cs := #[.int .i64 ((rd_T32 l0 x10_1).f0), .int .i64 0]) ?_ 1 _ rfl; refine zb ?_; refine blk_put (cs := #[.int .i64 0, .int .i64 0]) ?_ 0 _ rfl; refine zb ?_; exact BK196.out) hb) <| z1 (below_step zfc_ hb); clear BK196 HB; obtain ⟨BK196, HB⟩ := n_; (try clear hb)))
        go_roundg k1
        case measure => have := HK1.out; omega
        case rel => exact ⟨(wrap64 (x10_1 + 1)), zc_, H', ⟨zcc_⟩, ⟨zfc_⟩⟩
       ·replace c7 := Bool.eq_false_iff.mpr c7
        subst c7
        have H1 : (some false) = some r := by rw [if_neg (show ¬ (false = true) by decide)] at H; exact H
        clear H
        have H := H1
        clear H1
        obtain rfl := Option.some.inj H
        have p195 : 0 ≤ (x10_1 : Int) := of_decide_eq_true zb_
        have q195 : x10_1 < (l0.length : Int) := of_decide_eq_true zb_
        obtain ⟨ad195, e195, hx195_0, hx195_1⟩ := at_T32 HR0.out x10_1 p195 q195
        cases e195
        (try (replace hx195_0 := (HB.out.cell (World.block_lt_of_cell? w _ hx195_0)).trans hx195_0))
        (try (replace hx195_1 := (HB.out.cell (World.block_lt_of_cell? w _ hx195_1)).trans hx195_1))
        replace p195 := eq_true p195
        replace q195 := eq_true q195
        go_wp2_with (first | ((with_reducible refine gate_dst (N := 4) rfl ?_); refine box_event ?hg (N := 4) ?hd (cs := #[.int .i64 0, .int .i64 0]) (t := 32) ?hr ?_; (case hd => rfl); (case hg => rfl); (case hr => exact zf_); intro gb196 hg w11 hbox hb; have n_ := z (below_step za_ hb) <| z (hbox) <| z ((by rw [hg]; exact (below_size za_) : w.heap.size ≤ gb196)) <| z1 ((by rw [hg]; exact (below_size za_) : w.heap.size ≤ gb196)); clear HB; obtain ⟨HB, BK196, GW196, GE196⟩ := n_; clear hb hbox hg; have hcz12_0 : w11.cell? ⟨gb196, 0, none⟩ = some (.int .i64 0) := (blk_cell BK196.out 0).trans rfl; have hcz12_1 : w11.cell? ⟨gb196, 1, none⟩ = some (.int .i64 0) := (blk_cell BK196.out 1).trans rfl; have hfz12_0 := blk_frozen BK196.out 0; have hfz12_1 := blk_frozen BK196.out 1) | ((with_reducible refine gate_callee (f := 111) rfl ?_); refine goesL_ (some 15) rfl rfl Try.func111 (by kernel_rfl) rfl #[.agg #[.int .i64 ((rd_T32 l0 x10_1).f0), .int .i64 ((rd_T32 l0 x10_1).f1)]] rfl zd_ ?_; (with_reducible refine (impl_isWire.calls ((rd_T32 l0 x10_1).f0) ((rd_T32 l0 x10_1).f1) false _ A6.out).mono ?_); rintro e w13 ⟨rfl, hb⟩; refine ⟨_, rfl, ?_⟩; have n_ := z (blk_below (g := gb196) (o := .cells #[.int .i64 ((rd_T32 l0 x10_1).f0), .int .i64 ((rd_T32 l0 x10_1).f1)] 32 (0, 0)) (by refine zb ?_; refine blk_put (cs := #[.int .i64 ((rd_T32 l0 x10_1).f0), .int .i64 0]) ?_ 1 _ rfl; refine zb ?_; refine blk_put (cs := #[.int .i64 0, .int .i64 0]) ?_ 0 _ rfl; refine zb ?_; exact BK196.out) hb) <| z1 (below_step zfc_ hb); clear BK196 HB; obtain ⟨BK196, HB⟩ := n_; (try clear hb)))
        go_ret
        exact ⟨zg_, zfc_⟩
      ·rw [if_neg c5] at H
       exact absurd H (by simp)
     ·rw [if_neg c4] at H
      exact absurd H (by simp)
    ·rw [if_neg c3] at H
     have c3b0 : decide (x10_1 < (l0.length : Int)) = false := decide_eq_false c3
     clear c3
     obtain rfl := Option.some.inj H
     go_wp2
     go_ret
     exact ⟨zg_, za_⟩
def impl_areTracks.l0 : Nat → List Int → Int → Int → Option (Bool)
 | 0, _, _, _ => none
 | k + 1, x8, x9, x10 => if x10 < x9 then (if 0 ≤ x10 then (if x10 < (x8.length : Int) then (if (rd x8 x10) < 0 then (some false) else (if (rd x8 x10) ≥ 20 then (some false) else (impl_areTracks.l0 k x8 x9 (wrap64 (x10 + 1))))) else (none)) else (none)) else (some true)
def impl_areTracks.f (k : Nat) (l0 : List Int) : Option (Bool) := if (l0.length : Int) > 20 then (some false) else (impl_areTracks.l0 k l0 (l0.length : Int) 0)
theorem impl_areTracks.calls (k : Nat) (A0 : Option Addr) (c0 : Nat) (l0 : List Int) (r : Bool) (w : World) (hr0 : Kd.C (Kd.int .i64) w A0 l0.length l0) (hc0 : l0.length ≤ c0) (h : impl_areTracks.f k l0 = some r) :
  Calls Try.prog 101 #[.slice A0 l0.length c0] w fun e w' => e = .returned (.bool r) ∧ Drawn0 w w' := by
 have HR0 := aM hr0
 have HC0 := aM hc0
 clear hr0 hc0
 have H : (if (l0.length : Int) > 20 then (some false) else (impl_areTracks.l0 k l0 (l0.length : Int) 0)) = some r := h
 clear h
 by_cases c2 : (l0.length : Int) > 20
 ·rw [if_pos c2] at H
  have c2b0 : decide (20 < (l0.length : Int)) = true := decide_eq_true c2
  have c2b1 : decide (20 < l0.length) = true := decide_eq_true (by omega)
  clear c2
  obtain rfl := Option.some.inj H
  go_enter Try.func101, Try.ntmps101
  go_wp2
  go_ret
  exact ⟨zc_, zbc_⟩
 ·rw [if_neg c2] at H
  have c2b0 : decide (20 < (l0.length : Int)) = false := decide_eq_false c2
  have c2b1 : decide (20 < l0.length) = false := decide_eq_false (by omega)
  clear c2
  have H' := aM H
  clear H
  go_enter Try.func101, Try.ntmps101
  go_wp2
  go_loopg [10] k (fun kq v10 w' => ∃ (x10_1 : Int), v10 = .int .i64 x10_1 ∧ Aside0 (impl_areTracks.l0 kq l0 (l0.length : Int) x10_1 = some r) ∧ Aside0 (kq ≤ k) ∧ Drawn0 w w')
  case atStart => exact ⟨(0), zc_, H', ⟨Nat.le_refl _⟩, zbc_⟩
  case round =>
   clear H'
   try clear c1
   try clear c2
   try clear c2b0
   try clear c2b1
   try clear p2
   obtain ⟨x10_1, rfl, HA, HK1, ⟨m1, rfl⟩⟩ := hrel
   cases gk with
   | zero => exact absurd HA.out (by simp [impl_areTracks.l0])
   | succ k1 =>
    have H := HA.out
    clear HA
    simp only [impl_areTracks.l0] at H
    by_cases c3 : x10_1 < (l0.length : Int)
    ·rw [if_pos c3] at H
     have c3b0 : decide (x10_1 < (l0.length : Int)) = true := decide_eq_true c3
     clear c3
     by_cases c4 : 0 ≤ x10_1
     ·rw [if_pos c4] at H
      have c4b0 : decide (0 ≤ x10_1) = true := decide_eq_true c4
      clear c4
      by_cases c5 : x10_1 < (l0.length : Int)
      ·rw [if_pos c5] at H
       have c5b0 : decide (x10_1 < (l0.length : Int)) = true := decide_eq_true c5
       clear c5
       by_cases c6 : (rd l0 x10_1) < 0
       ·rw [if_pos c6] at H
        have c6b0 : decide ((rd l0 x10_1) < 0) = true := decide_eq_true c6
        clear c6
        obtain rfl := Option.some.inj H
        have p198 : 0 ≤ (x10_1 : Int) := of_decide_eq_true zb_
        have q198 : x10_1 < (l0.length : Int) := of_decide_eq_true zb_
        obtain ⟨ad198, e198, hx198_0⟩ := Kd.at_int HR0.out x10_1 p198 q198
        cases e198
        replace p198 := eq_true p198
        replace q198 := eq_true q198
        go_wp2
        go_ret
        exact ⟨zc_, zbc_⟩
       ·rw [if_neg c6] at H
        have c6b0 : decide ((rd l0 x10_1) < 0) = false := decide_eq_false c6
        clear c6
        by_cases c7 : (rd l0 x10_1) ≥ 20
        ·rw [if_pos c7] at H
         have c7b0 : decide (20 ≤ (rd l0 x10_1)) = true := decide_eq_true c7
         clear c7
         obtain rfl := Option.some.inj H
         have p198 : 0 ≤ (x10_1 : Int) := of_decide_eq_true zb_
         have q198 : x10_1 < (l0.length : Int) := of_decide_eq_true zb_
         obtain ⟨ad198, e198, hx198_0⟩ := Kd.at_int HR0.out x10_1 p198 q198
         cases e198
         replace p198 := eq_true p198
         replace q198 := eq_true q198
         go_wp2
         go_ret
         exact ⟨zc_, zbc_⟩
        ·rw [if_neg c7] at H
         have c7b0 : decide (20 ≤ (rd l0 x10_1)) = false := decide_eq_false c7
         clear c7
         have H' := aM H
         clear H
         have p198 : 0 ≤ (x10_1 : Int) := of_decide_eq_true zb_
         have q198 : x10_1 < (l0.length : Int) := of_decide_eq_true zb_
         obtain ⟨ad198, e198, hx198_0⟩ := Kd.at_int HR0.out x10_1 p198 q198
         cases e198
         replace p198 := eq_true p198
         replace q198 := eq_true q198
         go_wp2
         go_roundg k1
         case measure => have := HK1.out; omega
         case rel => exact ⟨(wrap64 (x10_1 + 1)), zc_, H', ⟨zcc_⟩, zbc_⟩
      ·rw [if_neg c5] at H
       exact absurd H (by simp)
     ·rw [if_neg c4] at H
      exact absurd H (by simp)
    ·rw [if_neg c3] at H
     have c3b0 : decide (x10_1 < (l0.length : Int)) = false := decide_eq_false c3
     clear c3
     obtain rfl := Option.some.inj H
     go_wp2
     go_ret
     exact ⟨zc_, zbc_⟩
def impl_wiresMeet.f (a0_0 : Int) (a0_1 : Int) (a1_0 : Int) (a1_1 : Int) : Option (Bool) := if a0_0 ≤ a1_1 then (some (decide (a1_0 ≤ a0_1))) else (some false)
theorem impl_wiresMeet.calls (a0_0 : Int) (a0_1 : Int) (a1_0 : Int) (a1_1 : Int) (r : Bool) (w : World) (h : impl_wiresMeet.f a0_0 a0_1 a1_0 a1_1 = some r) :
  Calls Try.prog 112 #[.agg #[.int .i64 a0_0, .int .i64 a0_1], .agg #[.int .i64 a1_0, .int .i64 a1_1]] w fun e w' => e = .returned (.bool r) ∧ Below w.heap.size w w' := by
 have hu32 := Try.underlying32
 have HB := aM (Below.refl w.heap.size w)
 have H : (if a0_0 ≤ a1_1 then (some (decide (a1_0 ≤ a0_1))) else (some false)) = some r := h
 clear h
 by_cases c3 : a0_0 ≤ a1_1
 ·rw [if_pos c3] at H
  have c3b0 : decide (a0_0 ≤ a1_1) = true := decide_eq_true c3
  clear c3
  obtain rfl := Option.some.inj H
  go_enter Try.func112, Try.ntmps112
  go_wp2_with (first | ((with_reducible refine gate_dst (N := 2) rfl ?_); refine box_event ?hg (N := 2) ?hd (cs := #[.int .i64 a0_0, .int .i64 a0_1]) (t := 32) ?hr ?_; (case hd => rfl); (case hg => rfl); (case hr => exact zf_); intro gb199 hg w4 hbox hb; have n_ := z (below_step za_ hb) <| z (hbox) <| z ((by rw [hg]; exact (below_size za_) : w.heap.size ≤ gb199)) <| z1 ((by rw [hg]; exact (below_size za_) : w.heap.size ≤ gb199)); clear HB; obtain ⟨HB, BK199, GW199, GE199⟩ := n_; clear hb hbox hg) | ((with_reducible refine gate_dst (N := 3) rfl ?_); refine box_event ?hg (N := 3) ?hd (cs := #[.int .i64 a1_0, .int .i64 a1_1]) (t := 32) ?hr ?_; (case hd => rfl); (case hg => rfl); (case hr => exact zf_); intro gb200 hg w5 hbox hb; have n_ := z (blk_below (g := gb199) (o := .cells #[.int .i64 a0_0, .int .i64 a0_1] 32 (0, 0)) (zb BK199.out) hb) <| z (below_step zeb_ hb) <| z (hbox) <| z ((by rw [hg]; exact (below_size zeb_) : w.heap.size ≤ gb200)) <| z ((by rw [hg]; exact (below_size zeb_) : w.heap.size ≤ gb200)) <| z ((by rw [hg]; exact Nat.ne_of_lt (blk_lt (g := gb199) (o := .cells #[.int .i64 a0_0, .int .i64 a0_1] 32 (0, 0)) (zb BK199.out)) : gb199 ≠ gb200)) <| z1 ((by rw [hg]; exact Nat.ne_of_gt (blk_lt (g := gb199) (o := .cells #[.int .i64 a0_0, .int .i64 a0_1] 32 (0, 0)) (zb BK199.out)) : gb200 ≠ gb199)); clear BK199 HB; obtain ⟨BK199, HB, BK200, GW200, GE200, NB199_200, NB200_199⟩ := n_; clear hb hbox hg; have hnb6 := NB199_200.out; have hnc6 := NB200_199.out; have hcz7_0 : w5.cell? ⟨gb199, 0, none⟩ = some (.int .i64 a0_0) := (blk_cell BK199.out 0).trans rfl; have hcz7_1 : w5.cell? ⟨gb199, 1, none⟩ = some (.int .i64 a0_1) := (blk_cell BK199.out 1).trans rfl; have hfz7_0 := blk_frozen BK199.out 0; have hfz7_1 := blk_frozen BK199.out 1; have hcz8_0 : w5.cell? ⟨gb200, 0, none⟩ = some (.int .i64 a1_0) := (blk_cell BK200.out 0).trans rfl; have hcz8_1 : w5.cell? ⟨gb200, 1, none⟩ = some (.int .i64 a1_1) := (blk_cell BK200.out 1).trans rfl; have hfz8_0 := blk_frozen BK200.out 0; have hfz8_1 := blk_frozen BK200.out 1))
  go_ret
  exact ⟨zg_, by repeat (first | (with_reducible first | exact HB.out | apply pA | apply pN | apply p1 | refine below_set ?_ GE199.out | refine below_set ?_ GE200.out) | exact HB.out)⟩
 ·rw [if_neg c3] at H
  have c3b0 : decide (a0_0 ≤ a1_1) = false := decide_eq_false c3
  clear c3
  obtain rfl := Option.some.inj H
  go_enter Try.func112, Try.ntmps112
  go_wp2_with (first | ((with_reducible refine gate_dst (N := 2) rfl ?_); refine box_event ?hg (N := 2) ?hd (cs := #[.int .i64 a0_0, .int .i64 a0_1]) (t := 32) ?hr ?_; (case hd => rfl); (case hg => rfl); (case hr => exact zf_); intro gb199 hg w9 hbox hb; have n_ := z (below_step za_ hb) <| z (hbox) <| z ((by rw [hg]; exact (below_size za_) : w.heap.size ≤ gb199)) <| z1 ((by rw [hg]; exact (below_size za_) : w.heap.size ≤ gb199)); clear HB; obtain ⟨HB, BK199, GW199, GE199⟩ := n_; clear hb hbox hg) | ((with_reducible refine gate_dst (N := 3) rfl ?_); refine box_event ?hg (N := 3) ?hd (cs := #[.int .i64 a1_0, .int .i64 a1_1]) (t := 32) ?hr ?_; (case hd => rfl); (case hg => rfl); (case hr => exact zf_); intro gb200 hg w10 hbox hb; have n_ := z (blk_below (g := gb199) (o := .cells #[.int .i64 a0_0, .int .i64 a0_1] 32 (0, 0)) (zb BK199.out) hb) <| z (below_step zeb_ hb) <| z (hbox) <| z ((by rw [hg]; exact (below_size zeb_) : w.heap.size ≤ gb200)) <| z ((by rw [hg]; exact (below_size zeb_) : w.heap.size ≤ gb200)) <| z ((by rw [hg]; exact Nat.ne_of_lt (blk_lt (g := gb199) (o := .cells #[.int .i64 a0_0, .int .i64 a0_1] 32 (0, 0)) (zb BK199.out)) : gb199 ≠ gb200)) <| z1 ((by rw [hg]; exact Nat.ne_of_gt (blk_lt (g := gb199) (o := .cells #[.int .i64 a0_0, .int .i64 a0_1] 32 (0, 0)) (zb BK199.out)) : gb200 ≠ gb199)); clear BK199 HB; obtain ⟨BK199, HB, BK200, GW200, GE200, NB199_200, NB200_199⟩ := n_; clear hb hbox hg; have hnb11 := NB199_200.out; have hnc11 := NB200_199.out; have hcz12_0 : w10.cell? ⟨gb199, 0, none⟩ = some (.int .i64 a0_0) := (blk_cell BK199.out 0).trans rfl; have hcz12_1 : w10.cell? ⟨gb199, 1, none⟩ = some (.int .i64 a0_1) := (blk_cell BK199.out 1).trans rfl; have hfz12_0 := blk_frozen BK199.out 0; have hfz12_1 := blk_frozen BK199.out 1; have hcz13_0 : w10.cell? ⟨gb200, 0, none⟩ = some (.int .i64 a1_0) := (blk_cell BK200.out 0).trans rfl; have hcz13_1 : w10.cell? ⟨gb200, 1, none⟩ = some (.int .i64 a1_1) := (blk_cell BK200.out 1).trans rfl; have hfz13_0 := blk_frozen BK200.out 0; have hfz13_1 := blk_frozen BK200.out 1))
  go_ret
  exact ⟨zg_, by repeat (first | (with_reducible first | exact HB.out | apply pA | apply pN | apply p1 | refine below_set ?_ GE199.out | refine below_set ?_ GE200.out) | exact HB.out)⟩
end Go.Proofs.Ytbkighlfgaifeaa.QFnTracks
