/- Functions of the law FnTracks, each as a Lean function, and the proofs that the Go code comes to their answers. Made by wip/gen/slim.py. Conditions: those of each theorem. -/
import Derived.Test.YtbkighlfgaifeaaSFnTracksx0
import Derived.Test.YtbkighlfgaifeaaSFnTracksx5
import Derived.Test.YtbkighlfgaifeaaSFnTracksx6
import Derived.Test.YtbkighlfgaifeaaSFnTracksx8
import Derived.Test.YtbkighlfgaifeaaSFnTracksx9
import Derived.Test.YtbkighlfgaifeaaSFnTracksx10
import Derived.Test.YtbkighlfgaifeaaSFnTracksx11
import Derived.Test.YtbkighlfgaifeaaSFnTracksx12
import Derived.Test.YtbkighlfgaifeaaSFnTracksx13
import Derived.Test.YtbkighlfgaifeaaSFnTracksx14
namespace Go.Proofs.Ytbkighlfgaifeaa.QFnTracks
open Go.RowKit Go.Proofs.YtbkighlfgaifeaaW.PrintWords Go.Proofs.YtbkighlfgaifeaaW.PrintLast Go.Proofs.YtbkighlfgaifeaaW.PrintMore
open Go.Proofs.YtbkighlfgaifeaaW.PrintWords renaming pw_below_drewN → pN, below_drew1 → p1, below_alloc → pA
open Go.Proofs.YtbkighlfgaifeaaW.PrintWords.Kd renaming R_alloc → kA, R_drewN → kN, R_drew → kD, Q_alloc → qA, Q_drewN → qN, Q_drew → qD, C_alloc → cA, C_drewN → cN, C_drew → cD
open Go.Proofs.YtbkighlfgaifeaaW.PrintWords.Aside0 renaming mk → aM
open List renaming setIfInBounds_toArray → sI, set_cons_zero → s0, set_cons_succ → sS, map_toArray → mT, length_take → lT, length_drop → lD, map_cons → mC, map_nil → mN
open Option renaming bind_eq_some_iff → oB, bind_some → oS
attribute [local go_sem] max2_int min2_int max_two min_two max_three min_three max_four min_four
set_option linter.unusedVariables false
set_option linter.unusedSimpArgs false

/-! ### laws_FnTracks: function 3 -/
mutual
def laws_FnTracks.j0 : Nat → List (S32) → Bool → ByteArray → List (S32) → List Int → Bool → List Int → List Int → Int → Bool → List Int → Int → List Int → Bool → Int → Bool → Int → Int → Option (Bool)
 | 0, _, _, _, _, _, _, _, _, _, _, _, _, _, _, _, _, _, _ => none
 | k + 1, x5, x12, x13, x15, x16, x19, x20, x22, x23, x26, x27, x28, x30, x32, x33, x196, x423000, x423001 => if x196 = true then (none) else (if x19 = true then (laws_FnTracks.j1 k x5 x12 x13 x15 x16 x20 x22 x23 x26 x27 x28 x30 x32 x33 (decide ((x15.length : Int) < 20)) x423000 x423001) else (laws_FnTracks.j1 k x5 x12 x13 x15 x16 x20 x22 x23 x26 x27 x28 x30 x32 x33 false x423000 x423001))
def laws_FnTracks.j1 : Nat → List (S32) → Bool → ByteArray → List (S32) → List Int → List Int → List Int → Int → Bool → List Int → Int → List Int → Bool → Int → Bool → Int → Int → Option (Bool)
 | 0, _, _, _, _, _, _, _, _, _, _, _, _, _, _, _, _, _ => none
 | k + 1, x5, x12, x13, x15, x16, x20, x22, x23, x26, x27, x28, x30, x32, x33, x202, x423000, x423001 => if x202 = true then ((some (([] : List (S32)) : List (S32))).bind fun y454 => (if y454.length + x15.length < 8796093022208 then ((some (y454 ++ x15 : List (S32))).bind fun y457 => ((some (([(⟨x423000, x423001⟩ : S32)] : List (S32)) : List (S32))).bind fun y460 => (if y457.length + y460.length < 8796093022208 then (laws_FnTracks.l0 k x5 x12 x13 x16 x20 x22 x23 x26 x27 x28 x30 x32 x33 (y457 ++ y460) 0) else (none)))) else (none))) else (laws_FnTracks.j4 k x5 x12 x13 x22 x23 x26 x27 x28 x30 x32 x33)
def laws_FnTracks.j4 : Nat → List (S32) → Bool → ByteArray → List Int → Int → Bool → List Int → Int → List Int → Bool → Int → Option (Bool)
 | 0, _, _, _, _, _, _, _, _, _, _, _ => none
 | k + 1, x5, x12, x13, x22, x23, x26, x27, x28, x30, x32, x33 => if x26 = true then (laws_FnTracks.l1 k x5 x12 x13 x22 x23 x28 x30 x32 x33 x27 (x27.length : Int) 0) else (laws_FnTracks.j6 k x5 x12 x13 x30 x32 x33)
def laws_FnTracks.j6 : Nat → List (S32) → Bool → ByteArray → List Int → Bool → Int → Option (Bool)
 | 0, _, _, _, _, _, _ => none
 | k + 1, x5, x12, x13, x30, x32, x33 => if x32 = true then (if x33 > (x30.length : Int) then (none) else (if x33 = 0 then (laws_FnTracks.j7 k x5 x12 x13 (decide ((x30.length : Int) > 0))) else (laws_FnTracks.j7 k x5 x12 x13 false))) else (laws_FnTracks.j7 k x5 x12 x13 false)
def laws_FnTracks.j7 : Nat → List (S32) → Bool → ByteArray → Bool → Option (Bool)
 | 0, _, _, _, _ => none
 | k + 1, x5, x12, x13, x292 => if x292 = true then (none) else (if x12 = true then (laws_FnTracks.l2 k x5 x13 0 0 0) else (some true))
def laws_FnTracks.l2 : Nat → List (S32) → ByteArray → Int → Int → Int → Option (Bool)
 | 0, _, _, _, _, _ => none
 | k + 1, x5, x13, x43, x44, x45 => if x45 < (x13.size : Int) then (if 0 ≤ x45 then (if (bt x13 x45) ≥ 97 then (laws_FnTracks.l2 k x5 x13 (wrap64 (x43 + 1)) x44 (wrap64 (x45 + 1))) else (laws_FnTracks.l2 k x5 x13 x43 x44 (wrap64 (x45 + 1)))) else (none)) else (laws_FnTracks.l3 k x43 x44 x5 (x5.length : Int) 0)
def laws_FnTracks.l3 : Nat → Int → Int → List (S32) → Int → Int → Option (Bool)
 | 0, _, _, _, _, _ => none
 | k + 1, x43, x44, x307, x308, x309 => if x309 < x308 then (if 0 ≤ x309 then (if x309 < (x307.length : Int) then (laws_FnTracks.l3 k x43 (wrap64 (x44 + (wrap64 ((wrap64 (((rd_T32 x307 x309).f1) - ((rd_T32 x307 x309).f0))) + 1)))) x307 x308 (wrap64 (x309 + 1))) else (none)) else (none)) else (some (x43 == x44))
def laws_FnTracks.l1 : Nat → List (S32) → Bool → ByteArray → List Int → Int → Int → List Int → Bool → Int → List Int → Int → Int → Option (Bool)
 | 0, _, _, _, _, _, _, _, _, _, _, _, _ => none
 | k + 1, x5, x12, x13, x22, x23, x28, x30, x32, x33, x256, x257, x258 => if x258 < x257 then (if 0 ≤ x258 then (if x258 < (x256.length : Int) then (if x258 < (x22.length : Int) then (if x23 = 0 then (none) else (if (rd x256 x258) = (wrap64 (Int.tdiv (rd x22 x258) x23)) then (if (rd x256 x258) ≥ x28 then (none) else (laws_FnTracks.l1 k x5 x12 x13 x22 x23 x28 x30 x32 x33 x256 x257 (wrap64 (x258 + 1)))) else (none))) else (none)) else (none)) else (none)) else (laws_FnTracks.j6 k x5 x12 x13 x30 x32 x33)
def laws_FnTracks.l0 : Nat → List (S32) → Bool → ByteArray → List Int → List Int → List Int → Int → Bool → List Int → Int → List Int → Bool → Int → List (S32) → Int → Option (Bool)
 | 0, _, _, _, _, _, _, _, _, _, _, _, _, _, _, _ => none
 | k + 1, x5, x12, x13, x16, x20, x22, x23, x26, x27, x28, x30, x32, x33, x35, x36 => if x36 < 20 then ((some (([] : List Int) : List Int)).bind fun y466 => (if y466.length + x16.length < 17592186044416 then ((some (y466 ++ x16 : List Int)).bind fun y469 => ((some (([x36] : List Int) : List Int)).bind fun y472 => (if y469.length + y472.length < 17592186044416 then ((impl_IsRouting.f k x35 (y469 ++ y472)).bind fun bt478 => ((some (([] : List Int) : List Int)).bind fun y480 => (if y480.length + x16.length < 17592186044416 then ((some (y480 ++ x16 : List Int)).bind fun y483 => ((some (([x36] : List Int) : List Int)).bind fun y486 => (if y483.length + y486.length < 17592186044416 then ((spec_IsRouting.f k x35 (y483 ++ y486)).bind fun bt492 => (laws_FnTracks.j3 k x5 x12 x13 x16 x20 x22 x23 x26 x27 x28 x30 x32 x33 x35 x36 bt478.1 bt478.2 bt492.1 bt492.2)) else (none)))) else (none)))) else (none)))) else (none))) else (laws_FnTracks.j4 k x5 x12 x13 x22 x23 x26 x27 x28 x30 x32 x33)
def laws_FnTracks.j3 : Nat → List (S32) → Bool → ByteArray → List Int → List Int → List Int → Int → Bool → List Int → Int → List Int → Bool → Int → List (S32) → Int → Bool → Bool → Bool → Bool → Option (Bool)
 | 0, _, _, _, _, _, _, _, _, _, _, _, _, _, _, _, _, _, _, _ => none
 | k + 1, x5, x12, x13, x16, x20, x22, x23, x26, x27, x28, x30, x32, x33, x35, x36, x37, x38, x39, x40 => if (x38 != x40) = true then (none) else (if (x37 != x39) = true then (none) else (if x40 = true then ((laws_qHas.f k x20 x36).bind fun t494 => (if t494 = true then (if x39 = true then (laws_FnTracks.l0 k x5 x12 x13 x16 x20 x22 x23 x26 x27 x28 x30 x32 x33 x35 (wrap64 (x36 + 1))) else (none)) else (laws_FnTracks.l0 k x5 x12 x13 x16 x20 x22 x23 x26 x27 x28 x30 x32 x33 x35 (wrap64 (x36 + 1))))) else (laws_FnTracks.l0 k x5 x12 x13 x16 x20 x22 x23 x26 x27 x28 x30 x32 x33 x35 (wrap64 (x36 + 1)))))
end
def laws_FnTracks.f (k : Nat) (l0 : List Int) (l1 : List Int) : Option (Bool) := if (wrap64 ((l0.length : Int) + (l1.length : Int))) > 1048576 then (some true) else ((spec_DrawIsRouting.f k l0).bind fun bt400 => ((impl_IsRouting.f k bt400.1 bt400.2).bind fun bt406 => ((spec_IsRouting.f k bt400.1 bt400.2).bind fun bt408 => ((impl_RoutingText.f k bt400.1 bt400.2).bind fun bt410 => ((spec_RoutingText.f k bt400.1 bt400.2).bind fun bt412 => ((spec_DrawFreeTracks.f k l1).bind fun bt414 => ((impl_FreeTracks.f k bt414.1 bt414.2.1 bt414.2.2.1 bt414.2.2.2).bind fun bt423 => ((spec_FreeTracks.f k bt414.1 bt414.2.1 bt414.2.2.1 bt414.2.2.2).bind fun bt427 => ((spec_DrawLayersOf.f k l1).bind fun bt431 => ((impl_LayersOf.f k bt431.1 bt431.2).bind fun bt435 => ((spec_LayersOf.f k bt431.1 bt431.2).bind fun bt440 => ((spec_DrawTracksUsed.f k l1).bind fun t445 => ((impl_TracksUsed.f k t445).bind fun bt448 => ((spec_TracksUsed.f k t445).bind fun bt450 => (if (bt406.2 != bt408.2) = true then (none) else (if (bt406.1 != bt408.1) = true then (none) else (if (bt410.2 != bt412.2) = true then (none) else (if bt410.1.toList = bt412.1.toList then (if (bt423.2 != bt427.2) = true then (none) else ((laws_qInts.f k bt423.1 bt427.1).bind fun t452 => (if t452 = true then (if (bt435.2.2 != bt440.2.2) = true then (none) else ((laws_qInts.f k bt435.1 bt440.1).bind fun t453 => (if t453 = true then (if bt435.2.1 = bt440.2.1 then (if (bt448.2 != bt450.2) = true then (none) else (if bt448.1 = bt450.1 then (if bt406.2 = true then (laws_FnTracks.j0 k bt400.1 bt410.2 bt412.1 bt414.1 bt414.2.1 bt423.2 bt427.1 bt431.1 bt431.2 bt435.2.2 bt440.1 bt440.2.1 t445 bt448.2 bt450.1 (bt410.2 != bt408.1) bt414.2.2.1 bt414.2.2.2) else (laws_FnTracks.j0 k bt400.1 bt410.2 bt412.1 bt414.1 bt414.2.1 bt423.2 bt427.1 bt431.1 bt431.2 bt435.2.2 bt440.1 bt440.2.1 t445 bt448.2 bt450.1 (bt410.2 != false) bt414.2.2.1 bt414.2.2.2)) else (none))) else (none)) else (none)))) else (none)))) else (none)))))))))))))))))))
set_option maxHeartbeats 64000000 in
set_option maxRecDepth 100000 in
theorem laws_FnTracks.calls (k : Nat) (A0 : Option Addr) (c0 : Nat) (l0 : List Int) (A1 : Option Addr) (c1 : Nat) (l1 : List Int) (r : Bool) (w : World) (hr0 : Kd.C (Kd.int .u8) w A0 l0.length l0) (hc0 : l0.length ≤ c0) (hr1 : Kd.C (Kd.int .u8) w A1 l1.length l1) (hc1 : l1.length ≤ c1) (h : laws_FnTracks.f k l0 l1 = some r) :
  Calls Try.prog 3 #[.slice A0 l0.length c0, .slice A1 l1.length c1] w fun e w' => e = .returned (.bool r) ∧ Below w.heap.size w w' := by
 have hu32 := Try.underlying32
 have HR0 := aM hr0
 have HC0 := aM hc0
 clear hr0 hc0
 have HR1 := aM hr1
 have HC1 := aM hc1
 clear hr1 hc1
 have HB := aM (Below.refl w.heap.size w)
 have H : (if (wrap64 ((l0.length : Int) + (l1.length : Int))) > 1048576 then (some true) else ((spec_DrawIsRouting.f k l0).bind fun bt400 => ((impl_IsRouting.f k bt400.1 bt400.2).bind fun bt406 => ((spec_IsRouting.f k bt400.1 bt400.2).bind fun bt408 => ((impl_RoutingText.f k bt400.1 bt400.2).bind fun bt410 => ((spec_RoutingText.f k bt400.1 bt400.2).bind fun bt412 => ((spec_DrawFreeTracks.f k l1).bind fun bt414 => ((impl_FreeTracks.f k bt414.1 bt414.2.1 bt414.2.2.1 bt414.2.2.2).bind fun bt423 => ((spec_FreeTracks.f k bt414.1 bt414.2.1 bt414.2.2.1 bt414.2.2.2).bind fun bt427 => ((spec_DrawLayersOf.f k l1).bind fun bt431 => ((impl_LayersOf.f k bt431.1 bt431.2).bind fun bt435 => ((spec_LayersOf.f k bt431.1 bt431.2).bind fun bt440 => ((spec_DrawTracksUsed.f k l1).bind fun t445 => ((impl_TracksUsed.f k t445).bind fun bt448 => ((spec_TracksUsed.f k t445).bind fun bt450 => (if (bt406.2 != bt408.2) = true then (none) else (if (bt406.1 != bt408.1) = true then (none) else (if (bt410.2 != bt412.2) = true then (none) else (if bt410.1.toList = bt412.1.toList then (if (bt423.2 != bt427.2) = true then (none) else ((laws_qInts.f k bt423.1 bt427.1).bind fun t452 => (if t452 = true then (if (bt435.2.2 != bt440.2.2) = true then (none) else ((laws_qInts.f k bt435.1 bt440.1).bind fun t453 => (if t453 = true then (if bt435.2.1 = bt440.2.1 then (if (bt448.2 != bt450.2) = true then (none) else (if bt448.1 = bt450.1 then (if bt406.2 = true then (laws_FnTracks.j0 k bt400.1 bt410.2 bt412.1 bt414.1 bt414.2.1 bt423.2 bt427.1 bt431.1 bt431.2 bt435.2.2 bt440.1 bt440.2.1 t445 bt448.2 bt450.1 (bt410.2 != bt408.1) bt414.2.2.1 bt414.2.2.2) else (laws_FnTracks.j0 k bt400.1 bt410.2 bt412.1 bt414.1 bt414.2.1 bt423.2 bt427.1 bt431.1 bt431.2 bt435.2.2 bt440.1 bt440.2.1 t445 bt448.2 bt450.1 (bt410.2 != false) bt414.2.2.1 bt414.2.2.2)) else (none))) else (none)) else (none)))) else (none)))) else (none)))))))))))))))))))) = some r := h
 clear h
 by_cases c3 : (wrap64 ((l0.length : Int) + (l1.length : Int))) > 1048576
 ·rw [if_pos c3] at H
  have c3b0 : decide (1048576 < (wrap64 ((l0.length : Int) + (l1.length : Int)))) = true := decide_eq_true c3
  clear c3
  obtain rfl := Option.some.inj H
  go_enter Try.func3, Try.ntmps3
  go_wp2
  go_ret
  exact ⟨zg_, za_⟩
 ·rw [if_neg c3] at H
  have c3b0 : decide (1048576 < (wrap64 ((l0.length : Int) + (l1.length : Int)))) = false := decide_eq_false c3
  clear c3
  replace H := oB.mp H
  obtain ⟨⟨t400, t401⟩, A40, H⟩ := H
  (try dsimp only at H)
  have A4 := aM A40
  clear A40
  replace H := oB.mp H
  obtain ⟨⟨t406, t407⟩, A50, H⟩ := H
  (try dsimp only at H)
  have A5 := aM A50
  clear A50
  replace H := oB.mp H
  obtain ⟨⟨t408, t409⟩, A60, H⟩ := H
  (try dsimp only at H)
  have A6 := aM A60
  clear A60
  replace H := oB.mp H
  obtain ⟨⟨t410, t411⟩, A70, H⟩ := H
  (try dsimp only at H)
  have A7 := aM A70
  clear A70
  replace H := oB.mp H
  obtain ⟨⟨t412, t413⟩, A80, H⟩ := H
  (try dsimp only at H)
  have A8 := aM A80
  clear A80
  replace H := oB.mp H
  obtain ⟨⟨t414, t417, t420, t421⟩, A90, H⟩ := H
  (try dsimp only at H)
  have A9 := aM A90
  clear A90
  replace H := oB.mp H
  obtain ⟨⟨t423, t426⟩, A100, H⟩ := H
  (try dsimp only at H)
  have A10 := aM A100
  clear A100
  replace H := oB.mp H
  obtain ⟨⟨t427, t430⟩, A110, H⟩ := H
  (try dsimp only at H)
  have A11 := aM A110
  clear A110
  replace H := oB.mp H
  obtain ⟨⟨t431, t432⟩, A120, H⟩ := H
  (try dsimp only at H)
  have A12 := aM A120
  clear A120
  replace H := oB.mp H
  obtain ⟨⟨t435, t436, t437⟩, A130, H⟩ := H
  (try dsimp only at H)
  have A13 := aM A130
  clear A130
  replace H := oB.mp H
  obtain ⟨⟨t440, t441, t442⟩, A140, H⟩ := H
  (try dsimp only at H)
  have A14 := aM A140
  clear A140
  replace H := oB.mp H
  obtain ⟨t445, A150, H⟩ := H
  (try dsimp only at H)
  have A15 := aM A150
  clear A150
  replace H := oB.mp H
  obtain ⟨⟨t448, t449⟩, A160, H⟩ := H
  (try dsimp only at H)
  have A16 := aM A160
  clear A160
  replace H := oB.mp H
  obtain ⟨⟨t450, t451⟩, A170, H⟩ := H
  (try dsimp only at H)
  have A17 := aM A170
  clear A170
  have HC18 := aM H
  clear H
  go_enter Try.func3, Try.ntmps3
  go_upto_region 6 with (first | ((with_reducible refine gate_callee (f := 9) rfl ?_); refine goesL_ (some 56) rfl rfl Try.func9 (by kernel_rfl) rfl #[.slice A0 l0.length c0] rfl zd_ ?_; (with_reducible refine (spec_DrawIsRouting.calls k _ _ l0 t400 t401 _ ?side1 ?side2 A4.out).mono ?_); (case side1 => exact zbh_); (case side2 => exact HC0.out); rintro e w19 ⟨v402, v404, rfl, ho0, ho1, hb⟩; refine ⟨_, rfl, ?_⟩; have n_ := z (Kd.R_lower ho0 (below_size za_)) <| z (Kd.Q_lower ho1 (below_size za_)) <| z1 (below_step za_ hb); clear HB; obtain ⟨HO403, HO405, HB⟩ := n_; (try clear hb); (try clear ho0); (try clear ho1); obtain ⟨Ao20, co20, eo20⟩ := Kd.R_slice HO403.out; subst eo20; obtain ⟨Ao21, co21, eo21, _⟩ := Kd.Q_slice HO405.out; subst eo21) | ((with_reducible refine gate_callee (f := 10) rfl ?_); refine goesL_ (some 62) rfl rfl Try.func10 (by kernel_rfl) rfl #[.slice Ao20 t400.length co20, .slice Ao21 t401.length co21] rfl zd_ ?_; (with_reducible refine (impl_IsRouting.calls k _ _ t400 _ _ t401 t406 t407 _ ?side1 ?side2 ?side3 ?side4 A5.out).mono ?_); (case side1 => exact zgb_); (case side2 => exact (Kd.R_reads' HO403.out).2.1); (case side3 => exact zgc_); (case side4 => exact (Kd.Q_reads' HO405.out).2.1); rintro e w22 ⟨rfl, hb⟩; refine ⟨_, rfl, ?_⟩; have n_ := z (Kd.R_below (zr HO403.out) hb) <| z (Kd.Q_below (zq HO405.out) hb) <| z1 (below_step za_ hb); clear HO403 HO405 HB; obtain ⟨HO403, HO405, HB⟩ := n_; (try clear hb)) | ((with_reducible refine gate_callee (f := 11) rfl ?_); refine goesL_ (some 68) rfl rfl Try.func11 (by kernel_rfl) rfl #[.slice Ao20 t400.length co20, .slice Ao21 t401.length co21] rfl zd_ ?_; (with_reducible refine (spec_IsRouting.calls k _ _ t400 _ _ t401 t408 t409 _ ?side1 ?side2 ?side3 ?side4 A6.out).mono ?_); (case side1 => exact zgb_); (case side2 => exact (Kd.R_reads' HO403.out).2.1); (case side3 => exact zgc_); (case side4 => exact (Kd.Q_reads' HO405.out).2.1); rintro e w23 ⟨rfl, hb⟩; refine ⟨_, rfl, ?_⟩; have n_ := z (Kd.R_below (zr HO403.out) hb) <| z (Kd.Q_below (zq HO405.out) hb) <| z1 (below_step za_ hb); clear HO403 HO405 HB; obtain ⟨HO403, HO405, HB⟩ := n_; (try clear hb)))
  as_aux_lemma =>
   go_upto_region 9 with (first | ((with_reducible refine gate_callee (f := 12) rfl ?_); refine goesL_ (some 74) rfl rfl Try.func12 (by kernel_rfl) rfl #[.slice Ao20 t400.length co20, .slice Ao21 t401.length co21] rfl zd_ ?_; (with_reducible refine (impl_RoutingText.calls k _ _ t400 _ _ t401 t410 t411 _ ?side1 ?side2 ?side3 ?side4 A7.out).mono ?_); (case side1 => exact zgb_); (case side2 => exact (Kd.R_reads' HO403.out).2.1); (case side3 => exact zgc_); (case side4 => exact (Kd.Q_reads' HO405.out).2.1); rintro e w24 ⟨rfl, hb⟩; refine ⟨_, rfl, ?_⟩; have n_ := z (Kd.R_below (zr HO403.out) hb) <| z (Kd.Q_below (zq HO405.out) hb) <| z1 (below_step za_ hb); clear HO403 HO405 HB; obtain ⟨HO403, HO405, HB⟩ := n_; (try clear hb)) | ((with_reducible refine gate_callee (f := 13) rfl ?_); refine goesL_ (some 80) rfl rfl Try.func13 (by kernel_rfl) rfl #[.slice Ao20 t400.length co20, .slice Ao21 t401.length co21] rfl zd_ ?_; (with_reducible refine (spec_RoutingText.calls k _ _ t400 _ _ t401 t412 t413 _ ?side1 ?side2 ?side3 ?side4 A8.out).mono ?_); (case side1 => exact zgb_); (case side2 => exact (Kd.R_reads' HO403.out).2.1); (case side3 => exact zgc_); (case side4 => exact (Kd.Q_reads' HO405.out).2.1); rintro e w25 ⟨rfl, hb⟩; refine ⟨_, rfl, ?_⟩; have n_ := z (Kd.R_below (zr HO403.out) hb) <| z (Kd.Q_below (zq HO405.out) hb) <| z1 (below_step za_ hb); clear HO403 HO405 HB; obtain ⟨HO403, HO405, HB⟩ := n_; (try clear hb)) | ((with_reducible refine gate_callee (f := 14) rfl ?_); refine goesL_ (some 85) rfl rfl Try.func14 (by kernel_rfl) rfl #[.slice A1 l1.length c1] rfl zd_ ?_; (with_reducible refine (spec_DrawFreeTracks.calls k _ _ l1 t414 t417 t420 t421 _ ?side1 ?side2 A9.out).mono ?_); (case side1 => exact zbb_); (case side2 => exact HC1.out); rintro e w26 ⟨v415, v418, rfl, ho0, ho1, hb⟩; refine ⟨_, rfl, ?_⟩; have n_ := z (Kd.R_elder' (zr HO403.out) (Kd.R_base ho0) hb) <| z (Kd.Q_elder' (zq HO405.out) (Kd.Q_base ho1) hb) <| z (Kd.R_lower (Kd.R_new' ho0 (Kd.R_lt (zr HO403.out))) (below_size za_)) <| z (Kd.Q_lower (Kd.Q_new' ho1 (Kd.Q_lt (zq HO405.out))) (below_size za_)) <| z1 (below_step za_ hb); clear HO403 HO405 HB; obtain ⟨HO403, HO405, HO416, HO419, HB⟩ := n_; (try clear hb); (try clear ho0); (try clear ho1)) | ((with_reducible refine gate_dst (N := 17) rfl ?_); (try (refine gate_guard (by rfl) ?_; dsimp only)); refine box_event ?hg (N := 17) ?hd (cs := #[.int .i64 0, .int .i64 0]) (t := 32) ?hr ?_; (case hd => rfl); (case hg => rfl); (case hr => exact zf_); intro gb422 hg w27 hbox hb; have n_ := z (Kd.R_below (Kd.R_elderB (zr HO403.out) gb422 (Nat.le_of_eq hg.symm)) hb) <| z (Kd.Q_below (zq HO405.out) hb) <| z (Kd.R_below (Kd.R_elderB (zr HO416.out) gb422 (Nat.le_of_eq hg.symm)) hb) <| z (Kd.Q_below (zq HO419.out) hb) <| z (below_step za_ hb) <| z (hbox) <| z ((by rw [hg]; exact (below_size za_) : w.heap.size ≤ gb422)) <| z1 ((by rw [hg]; exact (below_size za_) : w.heap.size ≤ gb422)); clear HO403 HO405 HO416 HO419 HB; obtain ⟨HO403, HO405, HO416, HO419, HB, BK422, GW422, GE422⟩ := n_; clear hb hbox hg; have hcz28_0 : w27.cell? ⟨gb422, 0, none⟩ = some (.int .i64 0) := (blk_cell BK422.out 0).trans rfl; have hcz28_1 : w27.cell? ⟨gb422, 1, none⟩ = some (.int .i64 0) := (blk_cell BK422.out 1).trans rfl; have hfz28_0 := blk_frozen BK422.out 0; have hfz28_1 := blk_frozen BK422.out 1; obtain ⟨Ao29, co29, eo29⟩ := Kd.R_slice HO416.out; subst eo29; obtain ⟨Ao30, co30, eo30, _⟩ := Kd.Q_slice HO419.out; subst eo30))
   as_aux_lemma =>
    go_upto_region 12 with (first | ((with_reducible refine gate_callee (f := 15) rfl ?_); refine goesL_ (some 93) rfl rfl Try.func15 (by kernel_rfl) rfl #[.slice Ao29 t414.length co29, .slice Ao30 t417.length co30, .agg #[.int .i64 t420, .int .i64 t421]] rfl zd_ ?_; (with_reducible refine (impl_FreeTracks.calls k _ _ t414 _ _ t417 t420 t421 t423 t426 _ ?side1 ?side2 ?side3 ?side4 A10.out).mono ?_); (case side1 => refine (Kd.R_reads' (e := 32) (base := w.heap.size) (ok := fun k_ => ((True ∧ some k_ ≠ (.slice Ao20 t400.length co20 : Value).ownBlock) ∧ k_ ≠ gb422)) (n := t414.length) (c := co29) ?_).2.2; exact (by refine zr ?_; exact (Kd.R_mono (Kd.R_far (p := ⟨gb422, 1, none⟩) (Kd.R_far (p := ⟨gb422, 0, none⟩) (Kd.R_mono HO416.out (fun k_ hk => (⟨hk, hk.2⟩ : _ ∧ k_ ≠ gb422))) (fun _ hk => hk.2) (.int .i64 t420)) (fun _ hk => hk.2) (.int .i64 t421)) (fun _ h_ => h_.1)))); (case side2 => exact (Kd.R_reads' HO416.out).2.1); (case side3 => refine (Kd.Q_reads' (e := 3) (base := w.heap.size) (ok := fun k_ => (True ∧ some k_ ≠ (.slice Ao21 t401.length co21 : Value).ownBlock)) (n := t417.length) (c := co30) ?_).2.2; exact zha_); (case side4 => exact (Kd.Q_reads' HO419.out).2.1); rintro e w31 ⟨v424, rfl, ho0, hb⟩; refine ⟨_, rfl, ?_⟩; have n_ := z (Kd.R_below (by refine zr ?_; exact (Kd.R_mono (Kd.R_far (p := ⟨gb422, 1, none⟩) (Kd.R_far (p := ⟨gb422, 0, none⟩) (Kd.R_mono HO403.out (fun k_ hk => (⟨hk, hk.2⟩ : _ ∧ k_ ≠ gb422))) (fun _ hk => hk.2) (.int .i64 t420)) (fun _ hk => hk.2) (.int .i64 t421)) (fun _ h_ => h_.1))) hb) <| z (Kd.Q_elder' (by refine zq ?_; exact (Kd.Q_mono (Kd.Q_far (p := ⟨gb422, 1, none⟩) (Kd.Q_far (p := ⟨gb422, 0, none⟩) (Kd.Q_types HO405.out BK422.out (by decide)) (fun _ hk => hk.2) (.int .i64 t420)) (fun _ hk => hk.2) (.int .i64 t421)) (fun _ h_ => h_.1))) (Kd.R_base ho0) hb) <| z (Kd.R_below (by refine zr ?_; exact (Kd.R_mono (Kd.R_far (p := ⟨gb422, 1, none⟩) (Kd.R_far (p := ⟨gb422, 0, none⟩) (Kd.R_mono HO416.out (fun k_ hk => (⟨hk, hk.2⟩ : _ ∧ k_ ≠ gb422))) (fun _ hk => hk.2) (.int .i64 t420)) (fun _ hk => hk.2) (.int .i64 t421)) (fun _ h_ => h_.1))) hb) <| z (Kd.Q_elder' zha_ (Kd.R_base ho0) hb) <| z (Kd.R_lower (Kd.R_new' (Kd.R_new' ho0 (Kd.Q_lt (by refine zq ?_; exact (Kd.Q_mono (Kd.Q_far (p := ⟨gb422, 1, none⟩) (Kd.Q_far (p := ⟨gb422, 0, none⟩) (Kd.Q_types HO405.out BK422.out (by decide)) (fun _ hk => hk.2) (.int .i64 t420)) (fun _ hk => hk.2) (.int .i64 t421)) (fun _ h_ => h_.1))))) (Kd.Q_lt zha_)) (below_size zh_)) <| z (blk_below (g := gb422) (o := .cells #[.int .i64 t420, .int .i64 t421] 32 (0, 0)) (by refine zb ?_; refine blk_put (cs := #[.int .i64 t420, .int .i64 0]) ?_ 1 _ rfl; refine zb ?_; refine blk_put (cs := #[.int .i64 0, .int .i64 0]) ?_ 0 _ rfl; refine zb ?_; exact BK422.out) hb) <| z1 (below_step zh_ hb); clear HO403 HO405 HO416 HO419 BK422 HB; obtain ⟨HO403, HO405, HO416, HO419, HO425, BK422, HB⟩ := n_; (try clear hb); (try clear hk); (try clear ho0); have hcz32_0 : w31.cell? ⟨gb422, 0, none⟩ = some (.int .i64 t420) := (blk_cell BK422.out 0).trans rfl; have hcz32_1 : w31.cell? ⟨gb422, 1, none⟩ = some (.int .i64 t421) := (blk_cell BK422.out 1).trans rfl; have hfz32_0 := blk_frozen BK422.out 0; have hfz32_1 := blk_frozen BK422.out 1) | ((with_reducible refine gate_callee (f := 16) rfl ?_); refine goesL_ (some 100) rfl rfl Try.func16 (by kernel_rfl) rfl #[.slice Ao29 t414.length co29, .slice Ao30 t417.length co30, .agg #[.int .i64 t420, .int .i64 t421]] rfl zd_ ?_; (with_reducible refine (spec_FreeTracks.calls k _ _ t414 _ _ t417 t420 t421 t427 t430 _ ?side1 ?side2 ?side3 ?side4 A11.out).mono ?_); (case side1 => repeat (first | exact (Kd.R_reads' HO416.out).2.2 | (with_reducible refine cA ?_ _) | (with_reducible refine cN ?_ _) | (with_reducible refine cD ?_))); (case side2 => exact (Kd.R_reads' HO416.out).2.1); (case side3 => repeat (first | exact (Kd.Q_reads' HO419.out).2.2 | (with_reducible refine cA ?_ _) | (with_reducible refine cN ?_ _) | (with_reducible refine cD ?_))); (case side4 => exact (Kd.Q_reads' HO419.out).2.1); rintro e w33 ⟨v428, rfl, ho0, hb⟩; refine ⟨_, rfl, ?_⟩; have n_ := z (Kd.R_below (zr HO403.out) hb) <| z (Kd.Q_elder' (zq HO405.out) (Kd.R_base ho0) hb) <| z (Kd.R_below (zr HO416.out) hb) <| z (Kd.Q_elder' (zq HO419.out) (Kd.R_base ho0) hb) <| z (Kd.R_elder' (zr HO425.out) (Kd.R_base ho0) hb) <| z (Kd.R_lower (Kd.R_new' (Kd.R_new' (Kd.R_new' ho0 (Kd.Q_lt (zq HO405.out))) (Kd.Q_lt (zq HO419.out))) (Kd.R_lt (zr HO425.out))) (below_size zh_)) <| z (blk_below (g := gb422) (o := .cells #[.int .i64 t420, .int .i64 t421] 32 (0, 0)) (zb BK422.out) hb) <| z1 (below_step zh_ hb); clear HO403 HO405 HO416 HO419 HO425 BK422 HB; obtain ⟨HO403, HO405, HO416, HO419, HO425, HO429, BK422, HB⟩ := n_; (try clear hb); (try clear ho0)) | ((with_reducible refine gate_callee (f := 17) rfl ?_); refine goesL_ (some 105) rfl rfl Try.func17 (by kernel_rfl) rfl #[.slice A1 l1.length c1] rfl zd_ ?_; (with_reducible refine (spec_DrawLayersOf.calls k _ _ l1 t431 t432 _ ?side1 ?side2 A12.out).mono ?_); (case side1 => exact zbb_); (case side2 => exact HC1.out); rintro e w34 ⟨v433, rfl, ho0, hb⟩; refine ⟨_, rfl, ?_⟩; have n_ := z (Kd.R_below (zr HO403.out) hb) <| z (Kd.Q_elder' (zq HO405.out) (Kd.Q_base ho0) hb) <| z (Kd.R_below (zr HO416.out) hb) <| z (Kd.Q_elder' (zq HO419.out) (Kd.Q_base ho0) hb) <| z (Kd.R_elder' (zr HO425.out) (Kd.Q_base ho0) hb) <| z (Kd.R_elder' (zr HO429.out) (Kd.Q_base ho0) hb) <| z (Kd.Q_lower (Kd.Q_new' (Kd.Q_new' (Kd.Q_new' (Kd.Q_new' ho0 (Kd.Q_lt (zq HO405.out))) (Kd.Q_lt (zq HO419.out))) (Kd.R_lt (zr HO425.out))) (Kd.R_lt (zr HO429.out))) (below_size zh_)) <| z (blk_below (g := gb422) (o := .cells #[.int .i64 t420, .int .i64 t421] 32 (0, 0)) (zb BK422.out) hb) <| z1 (below_step zh_ hb); clear HO403 HO405 HO416 HO419 HO425 HO429 BK422 HB; obtain ⟨HO403, HO405, HO416, HO419, HO425, HO429, HO434, BK422, HB⟩ := n_; (try clear hb); (try clear ho0); obtain ⟨Ao35, co35, eo35, _⟩ := Kd.Q_slice HO434.out; subst eo35))
    as_aux_lemma =>
     go_upto_region 15 with (first | ((with_reducible refine gate_callee (f := 18) rfl ?_); refine goesL_ (some 111) rfl rfl Try.func18 (by kernel_rfl) rfl #[.slice Ao35 t431.length co35, .int .i64 t432] rfl zd_ ?_; (with_reducible refine (impl_LayersOf.calls k _ _ t431 t432 t435 t436 t437 _ ?side1 ?side2 A13.out).mono ?_); (case side1 => repeat (first | exact (Kd.Q_reads' HO434.out).2.2 | (with_reducible refine cA ?_ _) | (with_reducible refine cN ?_ _) | (with_reducible refine cD ?_))); (case side2 => exact (Kd.Q_reads' HO434.out).2.1); rintro e w36 ⟨v438, rfl, ho0, hb⟩; refine ⟨_, rfl, ?_⟩; have n_ := z (Kd.R_below (zr HO403.out) hb) <| z (Kd.Q_elder' (zq HO405.out) (Kd.R_base ho0) hb) <| z (Kd.R_below (zr HO416.out) hb) <| z (Kd.Q_elder' (zq HO419.out) (Kd.R_base ho0) hb) <| z (Kd.R_elder' (zr HO425.out) (Kd.R_base ho0) hb) <| z (Kd.R_elder' (zr HO429.out) (Kd.R_base ho0) hb) <| z (Kd.Q_elder' (zq HO434.out) (Kd.R_base ho0) hb) <| z (Kd.R_lower (Kd.R_new' (Kd.R_new' (Kd.R_new' (Kd.R_new' (Kd.R_new' ho0 (Kd.Q_lt (zq HO405.out))) (Kd.Q_lt (zq HO419.out))) (Kd.R_lt (zr HO425.out))) (Kd.R_lt (zr HO429.out))) (Kd.Q_lt (zq HO434.out))) (below_size zh_)) <| z (blk_below (g := gb422) (o := .cells #[.int .i64 t420, .int .i64 t421] 32 (0, 0)) (zb BK422.out) hb) <| z1 (below_step zh_ hb); clear HO403 HO405 HO416 HO419 HO425 HO429 HO434 BK422 HB; obtain ⟨HO403, HO405, HO416, HO419, HO425, HO429, HO434, HO439, BK422, HB⟩ := n_; (try clear hb); (try clear ho0)) | ((with_reducible refine gate_callee (f := 19) rfl ?_); refine goesL_ (some 118) rfl rfl Try.func19 (by kernel_rfl) rfl #[.slice Ao35 t431.length co35, .int .i64 t432] rfl zd_ ?_; (with_reducible refine (spec_LayersOf.calls k _ _ t431 t432 t440 t441 t442 _ ?side1 ?side2 A14.out).mono ?_); (case side1 => repeat (first | exact (Kd.Q_reads' HO434.out).2.2 | (with_reducible refine cA ?_ _) | (with_reducible refine cN ?_ _) | (with_reducible refine cD ?_))); (case side2 => exact (Kd.Q_reads' HO434.out).2.1); rintro e w37 ⟨v443, rfl, ho0, hb⟩; refine ⟨_, rfl, ?_⟩; have n_ := z (Kd.R_below (zr HO403.out) hb) <| z (Kd.Q_elder' (zq HO405.out) (Kd.R_base ho0) hb) <| z (Kd.R_below (zr HO416.out) hb) <| z (Kd.Q_elder' (zq HO419.out) (Kd.R_base ho0) hb) <| z (Kd.R_elder' (zr HO425.out) (Kd.R_base ho0) hb) <| z (Kd.R_elder' (zr HO429.out) (Kd.R_base ho0) hb) <| z (Kd.Q_elder' (zq HO434.out) (Kd.R_base ho0) hb) <| z (Kd.R_elder' (zr HO439.out) (Kd.R_base ho0) hb) <| z (Kd.R_lower (Kd.R_new' (Kd.R_new' (Kd.R_new' (Kd.R_new' (Kd.R_new' (Kd.R_new' ho0 (Kd.Q_lt (zq HO405.out))) (Kd.Q_lt (zq HO419.out))) (Kd.R_lt (zr HO425.out))) (Kd.R_lt (zr HO429.out))) (Kd.Q_lt (zq HO434.out))) (Kd.R_lt (zr HO439.out))) (below_size zh_)) <| z (blk_below (g := gb422) (o := .cells #[.int .i64 t420, .int .i64 t421] 32 (0, 0)) (zb BK422.out) hb) <| z1 (below_step zh_ hb); clear HO403 HO405 HO416 HO419 HO425 HO429 HO434 HO439 BK422 HB; obtain ⟨HO403, HO405, HO416, HO419, HO425, HO429, HO434, HO439, HO444, BK422, HB⟩ := n_; (try clear hb); (try clear ho0)) | ((with_reducible refine gate_callee (f := 20) rfl ?_); refine goesL_ (some 123) rfl rfl Try.func20 (by kernel_rfl) rfl #[.slice A1 l1.length c1] rfl zd_ ?_; (with_reducible refine (spec_DrawTracksUsed.calls k _ _ l1 t445 _ ?side1 ?side2 A15.out).mono ?_); (case side1 => exact zbb_); (case side2 => exact HC1.out); rintro e w38 ⟨v446, rfl, ho0, hb⟩; refine ⟨_, rfl, ?_⟩; have n_ := z (Kd.R_below (zr HO403.out) hb) <| z (Kd.Q_elder' (zq HO405.out) (Kd.Q_base ho0) hb) <| z (Kd.R_below (zr HO416.out) hb) <| z (Kd.Q_elder' (zq HO419.out) (Kd.Q_base ho0) hb) <| z (Kd.R_elder' (zr HO425.out) (Kd.Q_base ho0) hb) <| z (Kd.R_elder' (zr HO429.out) (Kd.Q_base ho0) hb) <| z (Kd.Q_elder' (zq HO434.out) (Kd.Q_base ho0) hb) <| z (Kd.R_elder' (zr HO439.out) (Kd.Q_base ho0) hb) <| z (Kd.R_elder' (zr HO444.out) (Kd.Q_base ho0) hb) <| z (Kd.Q_lower (Kd.Q_new' (Kd.Q_new' (Kd.Q_new' (Kd.Q_new' (Kd.Q_new' (Kd.Q_new' (Kd.Q_new' ho0 (Kd.Q_lt (zq HO405.out))) (Kd.Q_lt (zq HO419.out))) (Kd.R_lt (zr HO425.out))) (Kd.R_lt (zr HO429.out))) (Kd.Q_lt (zq HO434.out))) (Kd.R_lt (zr HO439.out))) (Kd.R_lt (zr HO444.out))) (below_size zh_)) <| z (blk_below (g := gb422) (o := .cells #[.int .i64 t420, .int .i64 t421] 32 (0, 0)) (zb BK422.out) hb) <| z1 (below_step zh_ hb); clear HO403 HO405 HO416 HO419 HO425 HO429 HO434 HO439 HO444 BK422 HB; obtain ⟨HO403, HO405, HO416, HO419, HO425, HO429, HO434, HO439, HO444, HO447, BK422, HB⟩ := n_; (try clear hb); (try clear ho0); obtain ⟨Ao39, co39, eo39, _⟩ := Kd.Q_slice HO447.out; subst eo39))
     as_aux_lemma =>
      go_upto_region 17 with (first | ((with_reducible refine gate_callee (f := 21) rfl ?_); refine goesL_ (some 126) rfl rfl Try.func21 (by kernel_rfl) rfl #[.slice Ao39 t445.length co39] rfl zd_ ?_; (with_reducible refine (impl_TracksUsed.calls k _ _ t445 t448 t449 _ ?side1 ?side2 A16.out).mono ?_); (case side1 => repeat (first | exact (Kd.Q_reads' HO447.out).2.2 | (with_reducible refine cA ?_ _) | (with_reducible refine cN ?_ _) | (with_reducible refine cD ?_))); (case side2 => exact (Kd.Q_reads' HO447.out).2.1); rintro e w40 ⟨rfl, hb⟩; refine ⟨_, rfl, ?_⟩; have n_ := z (Kd.R_below (zr HO403.out) hb) <| z (Kd.Q_below (zq HO405.out) hb) <| z (Kd.R_below (zr HO416.out) hb) <| z (Kd.Q_below (zq HO419.out) hb) <| z (Kd.R_below (zr HO425.out) hb) <| z (Kd.R_below (zr HO429.out) hb) <| z (Kd.Q_below (zq HO434.out) hb) <| z (Kd.R_below (zr HO439.out) hb) <| z (Kd.R_below (zr HO444.out) hb) <| z (Kd.Q_below (zq HO447.out) hb) <| z (blk_below (g := gb422) (o := .cells #[.int .i64 t420, .int .i64 t421] 32 (0, 0)) (zb BK422.out) hb) <| z1 (below_step zh_ hb); clear HO403 HO405 HO416 HO419 HO425 HO429 HO434 HO439 HO444 HO447 BK422 HB; obtain ⟨HO403, HO405, HO416, HO419, HO425, HO429, HO434, HO439, HO444, HO447, BK422, HB⟩ := n_; (try clear hb)) | ((with_reducible refine gate_callee (f := 22) rfl ?_); refine goesL_ (some 131) rfl rfl Try.func22 (by kernel_rfl) rfl #[.slice Ao39 t445.length co39] rfl zd_ ?_; (with_reducible refine (spec_TracksUsed.calls k _ _ t445 t450 t451 _ ?side1 ?side2 A17.out).mono ?_); (case side1 => repeat (first | exact (Kd.Q_reads' HO447.out).2.2 | (with_reducible refine cA ?_ _) | (with_reducible refine cN ?_ _) | (with_reducible refine cD ?_))); (case side2 => exact (Kd.Q_reads' HO447.out).2.1); rintro e w41 ⟨rfl, hb⟩; refine ⟨_, rfl, ?_⟩; have n_ := z (Kd.R_below (zr HO403.out) hb) <| z (Kd.Q_below (zq HO405.out) hb) <| z (Kd.R_below (zr HO416.out) hb) <| z (Kd.Q_below (zq HO419.out) hb) <| z (Kd.R_below (zr HO425.out) hb) <| z (Kd.R_below (zr HO429.out) hb) <| z (Kd.Q_below (zq HO434.out) hb) <| z (Kd.R_below (zr HO439.out) hb) <| z (Kd.R_below (zr HO444.out) hb) <| z (Kd.Q_below (zq HO447.out) hb) <| z (blk_below (g := gb422) (o := .cells #[.int .i64 t420, .int .i64 t421] 32 (0, 0)) (zb BK422.out) hb) <| z1 (below_step zh_ hb); clear HO403 HO405 HO416 HO419 HO425 HO429 HO434 HO439 HO444 HO447 BK422 HB; obtain ⟨HO403, HO405, HO416, HO419, HO425, HO429, HO434, HO439, HO444, HO447, BK422, HB⟩ := n_; (try clear hb)))
      (try simp only [Act.put, sI, s0, sS])
      go_cut [196] (fun v196 wc => ∃ (kq : Nat) (x196_17 : Bool), v196 = .bool x196_17 ∧ Aside0 (laws_FnTracks.j0 kq t400 t411 t412 t414 t417 t426 t427 t431 t432 t437 t440 t441 t445 t449 t450 x196_17 t420 t421 = some r) ∧ Aside0 (kq ≤ k) ∧ Aside0 (Kd.R k32 32 wc w.heap.size (fun k_ => some k_ ≠ ((.slice Ao29 t414.length co29) : Value).ownBlock ∧ k_ ≠ gb422) (.slice Ao20 t400.length co20) t400) ∧ Aside0 (Kd.R k32 32 wc w.heap.size (fun k_ => some k_ ≠ ((.slice Ao20 t400.length co20) : Value).ownBlock ∧ k_ ≠ gb422) (.slice Ao29 t414.length co29) t414) ∧ Aside0 (Kd.Q (Kd.int .i64) 3 wc w.heap.size (fun k_ => some k_ ≠ (v428 : Value).ownBlock ∧ some k_ ≠ ((.slice Ao35 t431.length co35) : Value).ownBlock ∧ some k_ ≠ (v443 : Value).ownBlock ∧ some k_ ≠ ((.slice Ao39 t445.length co39) : Value).ownBlock) (.slice Ao30 t417.length co30) t417) ∧ Aside0 (Kd.R (Kd.int .i64) 3 wc w.heap.size (fun k_ => some k_ ≠ ((.slice Ao30 t417.length co30) : Value).ownBlock ∧ some k_ ≠ ((.slice Ao35 t431.length co35) : Value).ownBlock ∧ some k_ ≠ (v443 : Value).ownBlock ∧ some k_ ≠ ((.slice Ao39 t445.length co39) : Value).ownBlock) v428 t427) ∧ Aside0 (Kd.Q (Kd.int .i64) 3 wc w.heap.size (fun k_ => some k_ ≠ ((.slice Ao30 t417.length co30) : Value).ownBlock ∧ some k_ ≠ (v428 : Value).ownBlock ∧ some k_ ≠ (v443 : Value).ownBlock ∧ some k_ ≠ ((.slice Ao39 t445.length co39) : Value).ownBlock) (.slice Ao35 t431.length co35) t431) ∧ Aside0 (Kd.R (Kd.int .i64) 3 wc w.heap.size (fun k_ => some k_ ≠ ((.slice Ao30 t417.length co30) : Value).ownBlock ∧ some k_ ≠ (v428 : Value).ownBlock ∧ some k_ ≠ ((.slice Ao35 t431.length co35) : Value).ownBlock ∧ some k_ ≠ ((.slice Ao39 t445.length co39) : Value).ownBlock) v443 t440) ∧ Aside0 (Kd.Q (Kd.int .i64) 3 wc w.heap.size (fun k_ => some k_ ≠ ((.slice Ao30 t417.length co30) : Value).ownBlock ∧ some k_ ≠ (v428 : Value).ownBlock ∧ some k_ ≠ ((.slice Ao35 t431.length co35) : Value).ownBlock ∧ some k_ ≠ (v443 : Value).ownBlock) (.slice Ao39 t445.length co39) t445) ∧ Aside0 (wc.heap[gb422]? = some (.cells #[.int .i64 t420, .int .i64 t421] 32 (0, 0))) ∧ Aside0 (Below w.heap.size w wc))
      case first =>
       as_aux_lemma =>
        have H := HC18.out
        clear HC18
        by_cases c42 : (t407 != t409) = true
        ·rw [if_pos c42] at H
         exact absurd H (by simp)
        rw [if_neg c42] at H
        have c42b0 : (t407 != t409) = false := by simpa using c42
        (try (have c42b1 : decide (t407 = t409) = true := by simpa using c42))
        (try (have c42b2 : (t407 == t409) = true := by simpa using c42))
        clear c42
        (first | rw [c42b0] | (simp only [i64_w, i32_w]; rw [c42b0]) | skip)
        by_cases c43 : (t406 != t408) = true
        ·rw [if_pos c43] at H
         exact absurd H (by simp)
        rw [if_neg c43] at H
        have c43b0 : (t406 != t408) = false := by simpa using c43
        (try (have c43b1 : decide (t406 = t408) = true := by simpa using c43))
        (try (have c43b2 : (t406 == t408) = true := by simpa using c43))
        clear c43
        by_cases c44 : (t411 != t413) = true
        ·rw [if_pos c44] at H
         exact absurd H (by simp)
        rw [if_neg c44] at H
        have c44b0 : (t411 != t413) = false := by simpa using c44
        (try (have c44b1 : decide (t411 = t413) = true := by simpa using c44))
        (try (have c44b2 : (t411 == t413) = true := by simpa using c44))
        clear c44
        by_cases c45 : t410.toList = t412.toList
        rotate_left
        ·rw [if_neg c45] at H
         exact absurd H (by simp)
        rw [if_pos c45] at H
        have c45b0 : (t410.toList == t412.toList) = true := beq_iff_eq.mpr c45
        have c45b1 : (t410.toList != t412.toList) = false := bne_eq_false_iff_eq.mpr c45
        clear c45
        by_cases c46 : (t426 != t430) = true
        ·rw [if_pos c46] at H
         exact absurd H (by simp)
        rw [if_neg c46] at H
        have c46b0 : (t426 != t430) = false := by simpa using c46
        (try (have c46b1 : decide (t426 = t430) = true := by simpa using c46))
        (try (have c46b2 : (t426 == t430) = true := by simpa using c46))
        clear c46
        replace H := oB.mp H
        obtain ⟨t452, A470, H⟩ := H
        (try dsimp only at H)
        have A47 := aM A470
        clear A470
        by_cases c48 : t452 = true
        ·subst c48
         rw [if_pos rfl] at H
         by_cases c49 : (t437 != t442) = true
         ·rw [if_pos c49] at H
          exact absurd H (by simp)
         rw [if_neg c49] at H
         have c49b0 : (t437 != t442) = false := by simpa using c49
         (try (have c49b1 : decide (t437 = t442) = true := by simpa using c49))
         (try (have c49b2 : (t437 == t442) = true := by simpa using c49))
         clear c49
         replace H := oB.mp H
         obtain ⟨t453, A500, H⟩ := H
         (try dsimp only at H)
         have A50 := aM A500
         clear A500
         by_cases c51 : t453 = true
         ·subst c51
          rw [if_pos rfl] at H
          by_cases c52 : t436 = t441
          rotate_left
          ·rw [if_neg c52] at H
           exact absurd H (by simp)
          rw [if_pos c52] at H
          have c52b0 : (t436 == t441) = true := beq_iff_eq.mpr c52
          have c52b1 : (t436 != t441) = false := bne_eq_false_iff_eq.mpr c52
          clear c52
          by_cases c53 : (t449 != t451) = true
          ·rw [if_pos c53] at H
           exact absurd H (by simp)
          rw [if_neg c53] at H
          have c53b0 : (t449 != t451) = false := by simpa using c53
          (try (have c53b1 : decide (t449 = t451) = true := by simpa using c53))
          (try (have c53b2 : (t449 == t451) = true := by simpa using c53))
          clear c53
          by_cases c54 : t448 = t450
          rotate_left
          ·rw [if_neg c54] at H
           exact absurd H (by simp)
          rw [if_pos c54] at H
          have c54b0 : (t448 == t450) = true := beq_iff_eq.mpr c54
          have c54b1 : (t448 != t450) = false := bne_eq_false_iff_eq.mpr c54
          clear c54
          by_cases c55 : t407 = true
          ·subst c55
           rw [if_pos rfl] at H
           have H' := aM H
           clear H
           obtain ⟨Ao56, co56, eo56⟩ := Kd.R_slice HO425.out
           subst eo56
           obtain ⟨Ao57, co57, eo57⟩ := Kd.R_slice HO429.out
           subst eo57
           go_wp2_with (first | (go_at_call 23; (with_reducible refine (laws_qInts.calls k _ _ t423 _ _ t427 true _ ?side1 ?side2 ?side3 ?side4 A47.out).mono ?_); (case side1 => repeat (first | exact (Kd.R_reads' HO425.out).2.2 | (with_reducible refine cA ?_ _) | (with_reducible refine cN ?_ _) | (with_reducible refine cD ?_))); (case side2 => exact (Kd.R_reads' HO425.out).2.1); (case side3 => repeat (first | exact (Kd.R_reads' HO429.out).2.2 | (with_reducible refine cA ?_ _) | (with_reducible refine cN ?_ _) | (with_reducible refine cD ?_))); (case side4 => exact (Kd.R_reads' HO429.out).2.1); rintro e w' ⟨rfl, ⟨nd, rfl⟩⟩; obtain ⟨Ao58, co58, eo58⟩ := Kd.R_slice HO439.out; subst eo58; obtain ⟨Ao59, co59, eo59⟩ := Kd.R_slice HO444.out; subst eo59) | (go_at_call 23; (with_reducible refine (laws_qInts.calls k _ _ t435 _ _ t440 true _ ?side1 ?side2 ?side3 ?side4 A50.out).mono ?_); (case side1 => repeat (first | exact (Kd.R_reads' HO439.out).2.2 | (with_reducible refine cA ?_ _) | (with_reducible refine cN ?_ _) | (with_reducible refine cD ?_))); (case side2 => exact (Kd.R_reads' HO439.out).2.1); (case side3 => repeat (first | exact (Kd.R_reads' HO444.out).2.2 | (with_reducible refine cA ?_ _) | (with_reducible refine cN ?_ _) | (with_reducible refine cD ?_))); (case side4 => exact (Kd.R_reads' HO444.out).2.1); rintro e w' ⟨rfl, ⟨nd, rfl⟩⟩))
           go_meet
           case rel => exact ⟨_, ((t411 != t408)), zc_, H', ⟨zbg_⟩, ⟨by refine zr ?_; exact Kd.R_mono HO403.out (fun _ hk => ⟨hk.1.2, hk.2⟩)⟩, ⟨by refine zr ?_; exact Kd.R_mono HO416.out (fun _ hk => ⟨hk.1.2, hk.2⟩)⟩, ⟨by refine zq ?_; exact Kd.Q_mono HO419.out (fun _ hk => ⟨hk.1.1.1.1.2, ⟨hk.1.1.1.2, ⟨hk.1.2, hk.2⟩⟩⟩)⟩, ⟨by refine zr ?_; exact Kd.R_mono HO429.out (fun _ hk => ⟨hk.1.1.1.1.1.2, ⟨hk.1.1.1.2, ⟨hk.1.2, hk.2⟩⟩⟩)⟩, ⟨by refine zq ?_; exact Kd.Q_mono HO434.out (fun _ hk => ⟨hk.1.1.1.1.1.2, ⟨hk.1.1.1.2, ⟨hk.1.2, hk.2⟩⟩⟩)⟩, ⟨by refine zr ?_; exact Kd.R_mono HO444.out (fun _ hk => ⟨hk.1.1.1.1.1.2, ⟨hk.1.1.1.2, ⟨hk.1.1.2, hk.2⟩⟩⟩)⟩, ⟨by refine zq ?_; exact Kd.Q_mono HO447.out (fun _ hk => ⟨hk.1.1.1.1.1.2, ⟨hk.1.1.1.2, ⟨hk.1.1.2, hk.2⟩⟩⟩)⟩, ⟨zb BK422.out⟩, ⟨zh_⟩⟩
          ·replace c55 := Bool.eq_false_iff.mpr c55
           subst c55
           rw [if_neg (show ¬ (false = true) by decide)] at H
           have H' := aM H
           clear H
           obtain ⟨Ao60, co60, eo60⟩ := Kd.R_slice HO425.out
           subst eo60
           obtain ⟨Ao61, co61, eo61⟩ := Kd.R_slice HO429.out
           subst eo61
           go_wp2_with (first | (go_at_call 23; (with_reducible refine (laws_qInts.calls k _ _ t423 _ _ t427 true _ ?side1 ?side2 ?side3 ?side4 A47.out).mono ?_); (case side1 => repeat (first | exact (Kd.R_reads' HO425.out).2.2 | (with_reducible refine cA ?_ _) | (with_reducible refine cN ?_ _) | (with_reducible refine cD ?_))); (case side2 => exact (Kd.R_reads' HO425.out).2.1); (case side3 => repeat (first | exact (Kd.R_reads' HO429.out).2.2 | (with_reducible refine cA ?_ _) | (with_reducible refine cN ?_ _) | (with_reducible refine cD ?_))); (case side4 => exact (Kd.R_reads' HO429.out).2.1); rintro e w' ⟨rfl, ⟨nd, rfl⟩⟩; obtain ⟨Ao62, co62, eo62⟩ := Kd.R_slice HO439.out; subst eo62; obtain ⟨Ao63, co63, eo63⟩ := Kd.R_slice HO444.out; subst eo63) | (go_at_call 23; (with_reducible refine (laws_qInts.calls k _ _ t435 _ _ t440 true _ ?side1 ?side2 ?side3 ?side4 A50.out).mono ?_); (case side1 => repeat (first | exact (Kd.R_reads' HO439.out).2.2 | (with_reducible refine cA ?_ _) | (with_reducible refine cN ?_ _) | (with_reducible refine cD ?_))); (case side2 => exact (Kd.R_reads' HO439.out).2.1); (case side3 => repeat (first | exact (Kd.R_reads' HO444.out).2.2 | (with_reducible refine cA ?_ _) | (with_reducible refine cN ?_ _) | (with_reducible refine cD ?_))); (case side4 => exact (Kd.R_reads' HO444.out).2.1); rintro e w' ⟨rfl, ⟨nd, rfl⟩⟩))
           go_meet
           case rel => exact ⟨_, ((t411 != false)), zc_, H', ⟨zbg_⟩, ⟨by refine zr ?_; exact Kd.R_mono HO403.out (fun _ hk => ⟨hk.1.2, hk.2⟩)⟩, ⟨by refine zr ?_; exact Kd.R_mono HO416.out (fun _ hk => ⟨hk.1.2, hk.2⟩)⟩, ⟨by refine zq ?_; exact Kd.Q_mono HO419.out (fun _ hk => ⟨hk.1.1.1.1.2, ⟨hk.1.1.1.2, ⟨hk.1.2, hk.2⟩⟩⟩)⟩, ⟨by refine zr ?_; exact Kd.R_mono HO429.out (fun _ hk => ⟨hk.1.1.1.1.1.2, ⟨hk.1.1.1.2, ⟨hk.1.2, hk.2⟩⟩⟩)⟩, ⟨by refine zq ?_; exact Kd.Q_mono HO434.out (fun _ hk => ⟨hk.1.1.1.1.1.2, ⟨hk.1.1.1.2, ⟨hk.1.2, hk.2⟩⟩⟩)⟩, ⟨by refine zr ?_; exact Kd.R_mono HO444.out (fun _ hk => ⟨hk.1.1.1.1.1.2, ⟨hk.1.1.1.2, ⟨hk.1.1.2, hk.2⟩⟩⟩)⟩, ⟨by refine zq ?_; exact Kd.Q_mono HO447.out (fun _ hk => ⟨hk.1.1.1.1.1.2, ⟨hk.1.1.1.2, ⟨hk.1.1.2, hk.2⟩⟩⟩)⟩, ⟨zb BK422.out⟩, ⟨zh_⟩⟩
         ·replace c51 := Bool.eq_false_iff.mpr c51
          subst c51
          rw [if_neg (show ¬ (false = true) by decide)] at H
          exact absurd H (by simp)
        ·replace c48 := Bool.eq_false_iff.mpr c48
         subst c48
         rw [if_neg (show ¬ (false = true) by decide)] at H
         exact absurd H (by simp)
      case rest =>
       as_aux_lemma =>
        clear HC18
        try clear c1
        try clear c2
        try clear p2
        try clear c3
        try clear c3b0
        try clear c4
        try clear c5
        try clear p6
        try clear c9
        try clear c10
        try clear c11
        try clear c12
        try clear c13
        try clear c14
        try clear c15
        try clear c16
        try clear c17
        try clear c18
        try clear c19
        try clear c20
        try clear c21
        try clear c22
        try clear c42
        try clear c42b0
        try clear c42b1
        try clear c42b2
        try clear c43
        try clear c43b0
        try clear c43b1
        try clear c43b2
        try clear c44
        try clear c44b0
        try clear c44b1
        try clear c44b2
        try clear c45
        try clear c45b0
        try clear c45b1
        try clear c46
        try clear c46b0
        try clear c46b1
        try clear c46b2
        try clear c48
        try clear c49
        try clear c49b0
        try clear c49b1
        try clear c49b2
        try clear c51
        try clear c52
        try clear c52b0
        try clear c52b1
        try clear c53
        try clear c53b0
        try clear c53b1
        try clear c53b2
        try clear c54
        try clear c54b0
        try clear c54b1
        try clear c55
        try clear hcz28_0
        try clear hcz28_1
        try clear hcz32_0
        try clear hcz32_1
        try clear hfz28_0
        try clear hfz28_1
        try clear hfz32_0
        try clear hfz32_1
        obtain ⟨kq, x196_17, rfl, HA, HJ17, HO_5, HO_15, HO_16, HO_20, HO_22, HO_27, HO_30, BK422, HB⟩ := hcut
        cases kq with
        | zero => exact absurd HA.out (by simp [laws_FnTracks.j0])
        | succ kj17 =>
         have H := HA.out
         clear HA
         simp only [laws_FnTracks.j0] at H
         by_cases c64 : x196_17 = true
         ·subst c64
          rw [if_pos rfl] at H
          exact absurd H (by simp)
         ·replace c64 := Bool.eq_false_iff.mpr c64
          subst c64
          rw [if_neg (show ¬ (false = true) by decide)] at H
          have HC65 := aM H
          clear H
          go_upto_region 19 with (fail)
          go_cut [202] (fun v202 wc => ∃ (kq : Nat) (x202_64 : Bool), v202 = .bool x202_64 ∧ Aside0 (laws_FnTracks.j1 kq t400 t411 t412 t414 t417 t427 t431 t432 t437 t440 t441 t445 t449 t450 x202_64 t420 t421 = some r) ∧ Aside0 (kq ≤ kj17) ∧ Aside0 (Kd.R k32 32 wc w.heap.size (fun k_ => some k_ ≠ ((.slice Ao29 t414.length co29) : Value).ownBlock ∧ k_ ≠ gb422) (.slice Ao20 t400.length co20) t400) ∧ Aside0 (Kd.R k32 32 wc w.heap.size (fun k_ => some k_ ≠ ((.slice Ao20 t400.length co20) : Value).ownBlock ∧ k_ ≠ gb422) (.slice Ao29 t414.length co29) t414) ∧ Aside0 (Kd.Q (Kd.int .i64) 3 wc w.heap.size (fun k_ => some k_ ≠ (v428 : Value).ownBlock ∧ some k_ ≠ ((.slice Ao35 t431.length co35) : Value).ownBlock ∧ some k_ ≠ (v443 : Value).ownBlock ∧ some k_ ≠ ((.slice Ao39 t445.length co39) : Value).ownBlock) (.slice Ao30 t417.length co30) t417) ∧ Aside0 (Kd.R (Kd.int .i64) 3 wc w.heap.size (fun k_ => some k_ ≠ ((.slice Ao30 t417.length co30) : Value).ownBlock ∧ some k_ ≠ ((.slice Ao35 t431.length co35) : Value).ownBlock ∧ some k_ ≠ (v443 : Value).ownBlock ∧ some k_ ≠ ((.slice Ao39 t445.length co39) : Value).ownBlock) v428 t427) ∧ Aside0 (Kd.Q (Kd.int .i64) 3 wc w.heap.size (fun k_ => some k_ ≠ ((.slice Ao30 t417.length co30) : Value).ownBlock ∧ some k_ ≠ (v428 : Value).ownBlock ∧ some k_ ≠ (v443 : Value).ownBlock ∧ some k_ ≠ ((.slice Ao39 t445.length co39) : Value).ownBlock) (.slice Ao35 t431.length co35) t431) ∧ Aside0 (Kd.R (Kd.int .i64) 3 wc w.heap.size (fun k_ => some k_ ≠ ((.slice Ao30 t417.length co30) : Value).ownBlock ∧ some k_ ≠ (v428 : Value).ownBlock ∧ some k_ ≠ ((.slice Ao35 t431.length co35) : Value).ownBlock ∧ some k_ ≠ ((.slice Ao39 t445.length co39) : Value).ownBlock) v443 t440) ∧ Aside0 (Kd.Q (Kd.int .i64) 3 wc w.heap.size (fun k_ => some k_ ≠ ((.slice Ao30 t417.length co30) : Value).ownBlock ∧ some k_ ≠ (v428 : Value).ownBlock ∧ some k_ ≠ ((.slice Ao35 t431.length co35) : Value).ownBlock ∧ some k_ ≠ (v443 : Value).ownBlock) (.slice Ao39 t445.length co39) t445) ∧ Aside0 (wc.heap[gb422]? = some (.cells #[.int .i64 t420, .int .i64 t421] 32 (0, 0))) ∧ Aside0 (Below w.heap.size w wc))
          case first =>
           as_aux_lemma =>
            have H := HC65.out
            clear HC65
            by_cases c66 : t426 = true
            ·subst c66
             rw [if_pos rfl] at H
             have H' := aM H
             clear H
             go_wp2
             go_meet
             case rel => exact ⟨_, (decide ((t414.length : Int) < 20)), zc_, H', ⟨by have := HJ17.out; first | omega | exact Nat.le_refl _⟩, ⟨zr HO_5.out⟩, ⟨zr HO_15.out⟩, ⟨zq HO_16.out⟩, ⟨zr HO_20.out⟩, ⟨zq HO_22.out⟩, ⟨zr HO_27.out⟩, ⟨zq HO_30.out⟩, ⟨zb BK422.out⟩, ⟨zh_⟩⟩
            ·replace c66 := Bool.eq_false_iff.mpr c66
             subst c66
             rw [if_neg (show ¬ (false = true) by decide)] at H
             have H' := aM H
             clear H
             go_wp2
             go_meet
             case rel => exact ⟨_, (false), zc_, H', ⟨by have := HJ17.out; first | omega | exact Nat.le_refl _⟩, ⟨zr HO_5.out⟩, ⟨zr HO_15.out⟩, ⟨zq HO_16.out⟩, ⟨zr HO_20.out⟩, ⟨zq HO_22.out⟩, ⟨zr HO_27.out⟩, ⟨zq HO_30.out⟩, ⟨zb BK422.out⟩, ⟨zh_⟩⟩
          case rest =>
           as_aux_lemma =>
            clear HC65
            try clear c1
            try clear c2
            try clear p2
            try clear c3
            try clear c3b0
            try clear c4
            try clear c5
            try clear c6
            try clear p6
            try clear c9
            try clear c10
            try clear c11
            try clear c12
            try clear c13
            try clear c14
            try clear c15
            try clear c16
            try clear c17
            try clear c18
            try clear c19
            try clear c20
            try clear c21
            try clear c22
            try clear c42
            try clear c42b0
            try clear c42b1
            try clear c42b2
            try clear c43
            try clear c43b0
            try clear c43b1
            try clear c43b2
            try clear c44
            try clear c44b0
            try clear c44b1
            try clear c44b2
            try clear c45
            try clear c45b0
            try clear c45b1
            try clear c46
            try clear c46b0
            try clear c46b1
            try clear c46b2
            try clear c48
            try clear c49
            try clear c49b0
            try clear c49b1
            try clear c49b2
            try clear c51
            try clear c52
            try clear c52b0
            try clear c52b1
            try clear c53
            try clear c53b0
            try clear c53b1
            try clear c53b2
            try clear c54
            try clear c54b0
            try clear c54b1
            try clear c55
            try clear c64
            try clear p64
            try clear c66
            try clear hcz28_0
            try clear hcz28_1
            try clear hcz32_0
            try clear hcz32_1
            try clear hfz28_0
            try clear hfz28_1
            try clear hfz32_0
            try clear hfz32_1
            try clear p2
            try clear p6
            obtain ⟨kq, x202_64, rfl, HA, HJ64, HO_5, HO_15, HO_16, HO_20, HO_22, HO_27, HO_30, BK422, HB⟩ := hcut
            cases kq with
            | zero => exact absurd HA.out (by simp [laws_FnTracks.j1])
            | succ kj64 =>
             have H := HA.out
             clear HA
             simp only [laws_FnTracks.j1] at H
             have HC67 := aM H
             clear H
             go_upto_if 202 with (fail)
             go_cut [] (fun wc => ∃ (kq : Nat), Aside0 (laws_FnTracks.j4 kq t400 t411 t412 t431 t432 t437 t440 t441 t445 t449 t450 = some r) ∧ Aside0 (kq ≤ kj64) ∧ Aside0 (Kd.R k32 32 wc w.heap.size (fun k_ => k_ ≠ gb422) (.slice Ao20 t400.length co20) t400) ∧ Aside0 (Kd.Q (Kd.int .i64) 3 wc w.heap.size (fun k_ => some k_ ≠ (v443 : Value).ownBlock ∧ some k_ ≠ ((.slice Ao39 t445.length co39) : Value).ownBlock) (.slice Ao35 t431.length co35) t431) ∧ Aside0 (Kd.R (Kd.int .i64) 3 wc w.heap.size (fun k_ => some k_ ≠ ((.slice Ao35 t431.length co35) : Value).ownBlock ∧ some k_ ≠ ((.slice Ao39 t445.length co39) : Value).ownBlock) v443 t440) ∧ Aside0 (Kd.Q (Kd.int .i64) 3 wc w.heap.size (fun k_ => some k_ ≠ ((.slice Ao35 t431.length co35) : Value).ownBlock ∧ some k_ ≠ (v443 : Value).ownBlock) (.slice Ao39 t445.length co39) t445) ∧ Aside0 (wc.heap[gb422]? = some (.cells #[.int .i64 t420, .int .i64 t421] 32 (0, 0))) ∧ Aside0 (Below w.heap.size w wc))
             case first =>
              as_aux_lemma =>
               have H := HC67.out
               clear HC67
               by_cases c68 : x202_64 = true
               ·subst c68
                rw [if_pos rfl] at H
                obtain ⟨y454, hy454⟩ : ∃ y_ : List (S32), y_ = (([] : List (S32))) := ⟨_, rfl⟩
                replace H : (if y454.length + t414.length < 8796093022208 then ((some (y454 ++ t414 : List (S32))).bind fun y457 => ((some (([(⟨t420, t421⟩ : S32)] : List (S32)) : List (S32))).bind fun y460 => (if y457.length + y460.length < 8796093022208 then (laws_FnTracks.l0 kj64 t400 t411 t412 t417 t427 t431 t432 t437 t440 t441 t445 t449 t450 (y457 ++ y460) 0) else (none)))) else (none)) = some r := by first | (rw [hy454]; with_reducible exact H) | (have H2_ := (oS _ _).symm.trans H; rw [hy454]; with_reducible exact H2_) | (have H2_ := (oS _ _).symm.trans H; with_reducible exact H2_) | with_reducible exact H | (rw [hy454]; exact H) | exact H
                have Ny454 := aM hy454
                clear hy454
                by_cases c69 : y454.length + t414.length < 8796093022208
                rotate_left
                ·rw [if_neg c69] at H
                 exact absurd H (by simp)
                rw [if_pos c69] at H
                have LMc69 := aM c69
                clear c69
                obtain ⟨y457, hy457⟩ : ∃ y_ : List (S32), y_ = (y454 ++ t414) := ⟨_, rfl⟩
                replace H : ((some (([(⟨t420, t421⟩ : S32)] : List (S32)) : List (S32))).bind fun y460 => (if y457.length + y460.length < 8796093022208 then (laws_FnTracks.l0 kj64 t400 t411 t412 t417 t427 t431 t432 t437 t440 t441 t445 t449 t450 (y457 ++ y460) 0) else (none))) = some r := by first | (rw [hy457]; with_reducible exact H) | (have H2_ := (oS _ _).symm.trans H; rw [hy457]; with_reducible exact H2_) | (have H2_ := (oS _ _).symm.trans H; with_reducible exact H2_) | with_reducible exact H | (rw [hy457]; exact H) | exact H
                have Ny457 := aM hy457
                clear hy457
                obtain ⟨y460, hy460⟩ : ∃ y_ : List (S32), y_ = (([(⟨t420, t421⟩ : S32)] : List (S32))) := ⟨_, rfl⟩
                replace H : (if y457.length + y460.length < 8796093022208 then (laws_FnTracks.l0 kj64 t400 t411 t412 t417 t427 t431 t432 t437 t440 t441 t445 t449 t450 (y457 ++ y460) 0) else (none)) = some r := by first | (rw [hy460]; with_reducible exact H) | (have H2_ := (oS _ _).symm.trans H; rw [hy460]; with_reducible exact H2_) | (have H2_ := (oS _ _).symm.trans H; with_reducible exact H2_) | with_reducible exact H | (rw [hy460]; exact H) | exact H
                have Ny460 := aM hy460
                clear hy460
                by_cases c70 : y457.length + y460.length < 8796093022208
                rotate_left
                ·rw [if_neg c70] at H
                 exact absurd H (by simp)
                rw [if_pos c70] at H
                have LMc70 := aM c70
                clear c70
                obtain ⟨y463, hy463⟩ : ∃ y_ : List (S32), y_ = (y457 ++ y460) := ⟨_, rfl⟩
                replace H : (laws_FnTracks.l0 kj64 t400 t411 t412 t417 t427 t431 t432 t437 t440 t441 t445 t449 t450 y463 0) = some r := by first | (rw [hy463]; with_reducible exact H) | (have H2_ := (oS _ _).symm.trans H; rw [hy463]; with_reducible exact H2_) | (have H2_ := (oS _ _).symm.trans H; with_reducible exact H2_) | with_reducible exact H | (rw [hy463]; exact H) | exact H
                have Ny463 := aM hy463
                clear hy463
                have H' := aM H
                clear H
                try go_wp2
                have n_ := z (kD HO_5.out) <| z (kD HO_15.out) <| z (qD HO_16.out) <| z (kD HO_20.out) <| z (qD HO_22.out) <| z (kD HO_27.out) <| z (qD HO_30.out) <| z (blk_drew BK422.out) <| z1 (p1 HB.out)
                clear HO_5 HO_15 HO_16 HO_20 HO_22 HO_27 HO_30 BK422 HB
                obtain ⟨HO_5, HO_15, HO_16, HO_20, HO_22, HO_27, HO_30, BK422, HB⟩ := n_
                refine start_ (n := 7) (S := fun w' => w'.cell? ⟨gb422, 0, none⟩ = some (.int .i64 t420) ∧ w'.cell? ⟨gb422, 1, none⟩ = some (.int .i64 t421)) (ds := []) #[fi,fi,fi,fi,fi,fi,fi] (by kernel_rfl) rfl rfl ⟨(blk_cell BK422.out 0).trans rfl, (blk_cell BK422.out 1).trans rfl⟩ (fun hHeld => ?_)
                generalize wc.drew = w71 at HO_5 HO_15 HO_16 HO_20 HO_22 HO_27 HO_30 BK422 HB hHeld ⊢
                refine pure_ (i := 1) (N := some 204) (v := ?_) (a' := ?_) #[fi,ti,fi,fi,fi,fi,fi] rfl rfl (by kernel_rfl) (fun _ _ _ h => h) (Or.inl ⟨by rfl, ?_⟩) ?_ ?_; rotate_left; (· (intro w'; go_simp; with_reducible rfl)); rotate_left; (· (simp only [Act.put, sI, s0, sS, i64_w, i32_w]; rfl))
                refine take_ (i := 3) (N := some 206) (v := ?_) (a' := ?_) #[fi,ti,fi,ti,fi,fi,fi] rfl rfl (by kernel_rfl) (fun _ _ _ h => h) (Or.inl ⟨by rfl, ?_⟩) hHeld ?_ ?_
                rotate_left
                ·rintro w' ⟨s0, s1⟩
                 go_simp
                 with_reducible rfl
                rotate_left
                ·simp only [Act.put, sI, s0, sS, i64_w, i32_w]
                 rfl
                refine join_ (σ := Value × Value × Value) 2 #[ti,ti,ti,ti,ti,fi,fi] (fun s_ => [(203, s_.1), (205, s_.2.1), (207, s_.2.2)]) (fun s_ w' => (w'.cell? ⟨gb422, 0, none⟩ = some (.int .i64 t420) ∧ w'.cell? ⟨gb422, 1, none⟩ = some (.int .i64 t421)) ∧ (Kd.R k32 32 w' w.heap.size (fun k_ => some k_ ≠ (s_.2.2 : Value).ownBlock ∧ some k_ ≠ (.slice Ao29 t414.length co29 : Value).ownBlock ∧ some k_ ≠ (.slice Ao20 t400.length co20 : Value).ownBlock ∧ k_ ≠ gb422) s_.2.1 y457) ∧ (Kd.R k32 32 w' w.heap.size (fun k_ => some k_ ≠ (s_.2.1 : Value).ownBlock ∧ some k_ ≠ (.slice Ao29 t414.length co29 : Value).ownBlock ∧ some k_ ≠ (.slice Ao20 t400.length co20 : Value).ownBlock ∧ k_ ≠ gb422) s_.2.2 y460) ∧ (Kd.R k32 32 w' w.heap.size (fun k_ => some k_ ≠ (s_.2.1 : Value).ownBlock ∧ some k_ ≠ (s_.2.2 : Value).ownBlock ∧ some k_ ≠ (.slice Ao20 t400.length co20 : Value).ownBlock ∧ k_ ≠ gb422) (.slice Ao29 t414.length co29) t414) ∧ (Kd.Q (Kd.int .i64) 3 w' w.heap.size (fun k_ => some k_ ≠ (v428 : Value).ownBlock ∧ some k_ ≠ (.slice Ao35 t431.length co35 : Value).ownBlock ∧ some k_ ≠ (v443 : Value).ownBlock ∧ some k_ ≠ (.slice Ao39 t445.length co39 : Value).ownBlock) (.slice Ao30 t417.length co30) t417) ∧ (Kd.R (Kd.int .i64) 3 w' w.heap.size (fun k_ => some k_ ≠ (.slice Ao30 t417.length co30 : Value).ownBlock ∧ some k_ ≠ (.slice Ao35 t431.length co35 : Value).ownBlock ∧ some k_ ≠ (v443 : Value).ownBlock ∧ some k_ ≠ (.slice Ao39 t445.length co39 : Value).ownBlock) v428 t427) ∧ (Kd.Q (Kd.int .i64) 3 w' w.heap.size (fun k_ => some k_ ≠ (.slice Ao30 t417.length co30 : Value).ownBlock ∧ some k_ ≠ (v428 : Value).ownBlock ∧ some k_ ≠ (v443 : Value).ownBlock ∧ some k_ ≠ (.slice Ao39 t445.length co39 : Value).ownBlock) (.slice Ao35 t431.length co35) t431) ∧ (Kd.R (Kd.int .i64) 3 w' w.heap.size (fun k_ => some k_ ≠ (.slice Ao30 t417.length co30 : Value).ownBlock ∧ some k_ ≠ (v428 : Value).ownBlock ∧ some k_ ≠ (.slice Ao35 t431.length co35 : Value).ownBlock ∧ some k_ ≠ (.slice Ao39 t445.length co39 : Value).ownBlock) v443 t440) ∧ (Kd.Q (Kd.int .i64) 3 w' w.heap.size (fun k_ => some k_ ≠ (.slice Ao30 t417.length co30 : Value).ownBlock ∧ some k_ ≠ (v428 : Value).ownBlock ∧ some k_ ≠ (.slice Ao35 t431.length co35 : Value).ownBlock ∧ some k_ ≠ (v443 : Value).ownBlock) (.slice Ao39 t445.length co39) t445) ∧ (Kd.R k32 32 w' w.heap.size (fun k_ => some k_ ≠ (s_.2.1 : Value).ownBlock ∧ some k_ ≠ (s_.2.2 : Value).ownBlock ∧ some k_ ≠ (.slice Ao29 t414.length co29 : Value).ownBlock ∧ k_ ≠ gb422) (.slice Ao20 t400.length co20) t400) ∧ (w'.heap[gb422]? = some (.cells #[.int .i64 t420, .int .i64 t421] 32 (0, 0))) ∧ (Below w.heap.size w w')) ?_ ?_
                rotate_left
                ·intro hCont
                 refine two_ (i := 0) (j := 4) (Ni := some 203) (Nj := some 207) #[ti,ti,fi,ti,fi,fi,fi] #[fi,ti,fi,ti,ti,fi,fi] rfl rfl rfl rfl (by kernel_rfl) (by decide) (by decide) (fun K hK => ?_) (fun K hK => ?_)
                 ·skip
                  refine Kd.R_lit_step k32 _ 32 ?hg (N := 203) ?hd (xs := ([] : List (S32))) (inner := []) (ok := fun _ => True) (okp := fun _ => True) ?hr ?hp (fun _ hk => hk) trivial (Below.refl _ _) (Nat.le_refl _) (by simp) ?_; (case hd => rfl); (case hg => rfl); (case hr => exact zf_); (case hp => exact (Reps.none _ _))
                  intro v455 w72 ho73 hb hg_ hnew_
                  clear hg_ hnew_
                  (first | rw [← Ny454.out] at ho73 | (simp only [Int.reduceToNat] at ho73; rw [← Ny454.out] at ho73))
                  have n_ := z (Kd.R_elder' (zr HO_5.out) (Kd.R_base ho73) hb) <| z (Kd.R_elder' (zr HO_15.out) (Kd.R_base ho73) hb) <| z (Kd.Q_below (zq HO_16.out) hb) <| z (Kd.R_below (zr HO_20.out) hb) <| z (Kd.Q_below (zq HO_22.out) hb) <| z (Kd.R_below (zr HO_27.out) hb) <| z (Kd.Q_below (zq HO_30.out) hb) <| z (Kd.R_lower (Kd.R_newB (Kd.R_new' (Kd.R_new' ho73 (Kd.R_lt (zr HO_5.out))) (Kd.R_lt (zr HO_15.out))) (g := gb422) (o := .cells #[.int .i64 t420, .int .i64 t421] 32 (0, 0)) (zb BK422.out)) (below_size zh_)) <| z (blk_below (g := gb422) (o := .cells #[.int .i64 t420, .int .i64 t421] 32 (0, 0)) (zb BK422.out) hb) <| z1 (below_step zh_ hb)
                  clear HO_5 HO_15 HO_16 HO_20 HO_22 HO_27 HO_30 BK422 HB
                  obtain ⟨HO_5, HO_15, HO_16, HO_20, HO_22, HO_27, HO_30, HO456, BK422, HB⟩ := n_
                  clear hb ho73
                  refine hK.out _ _ ⟨(blk_cell BK422.out 0).trans rfl, (blk_cell BK422.out 1).trans rfl⟩ (fun hHeld => ?_)
                  clear hK K
                  refine norm_ (a' := ?_) ?_ ?_
                  rotate_left
                  ·show Act.put _ (some 203) _ = _
                   simp only [Act.put, sI, s0, sS, i64_w, i32_w]
                   rfl
                  refine two_ (i := 2) (j := 4) (Ni := some 205) (Nj := some 207) #[ti,ti,ti,ti,fi,fi,fi] #[ti,ti,fi,ti,ti,fi,fi] rfl rfl rfl rfl (by kernel_rfl) (by decide) (by decide) (fun K hK => ?_) (fun K hK => ?_)
                  ·skip
                   refine Kd.R_append_rows_step k32 (w0 := w) w.heap.size (by rfl) (.tmp 203) (.tmp 204) 23 32 (.agg #[(.int .i64 0), (.int .i64 0)]) 16 rfl Try.underlying23 info32 rfl (by decide) (by omega) v455 y454 t414 _ _ _ (fun k_ => some k_ ≠ (.slice Ao20 t400.length co20 : Value).ownBlock ∧ some k_ ≠ (.slice Ao29 t414.length co29 : Value).ownBlock ∧ k_ ≠ gb422) (fun _ => False) rfl rfl ?aO ?aR (fun _ _ h => h) (fun _ h => h.elim) ?aF ?aB ?aS ?aL ?_
                   (case aR => exact zhb_)
                   (case aB => exact zdd_)
                   (case aF => exact (fun k_ hk => ⟨Kd.fresh' (Kd.R_lt (zr HO_5.out)) k_ hk, Kd.fresh' (Kd.R_lt (zr HO_15.out)) k_ hk, Kd.freshB (g := gb422) (o := .cells #[.int .i64 t420, .int .i64 t421] 32 (0, 0)) (zb BK422.out) k_ hk⟩))
                   (case aO => exact (by refine zr ?_; exact Kd.R_mono HO456.out (fun _ hk => ⟨hk.1.1.2, ⟨hk.1.2, hk.2⟩⟩)))
                   (case aS => exact zde_)
                   (case aL => have := LMc69.out; omega)
                   intro v458 w74 ho hb hg hat
                   rw [← Ny457.out] at ho
                   have n_ := z (Kd.R_after (ok := (fun k_ => some k_ ≠ (.slice Ao29 t414.length co29 : Value).ownBlock ∧ k_ ≠ gb422)) (zr HO_5.out) hg hat) <| z (Kd.R_after (ok := (fun k_ => some k_ ≠ (.slice Ao20 t400.length co20 : Value).ownBlock ∧ k_ ≠ gb422)) (zr HO_15.out) hg hat) <| z (Kd.Q_over' (zq HO_16.out) (Kd.R_typed (zr HO456.out)) (by decide) hg) <| z (Kd.R_over' (zr HO_20.out) (Kd.R_typed (zr HO456.out)) (by decide) hg) <| z (Kd.Q_over' (zq HO_22.out) (Kd.R_typed (zr HO456.out)) (by decide) hg) <| z (Kd.R_over' (zr HO_27.out) (Kd.R_typed (zr HO456.out)) (by decide) hg) <| z (Kd.Q_over' (zq HO_30.out) (Kd.R_typed (zr HO456.out)) (by decide) hg) <| z (blk_grown (g := gb422) (o := .cells #[.int .i64 t420, .int .i64 t421] 32 (0, 0)) (zb BK422.out) hg (Kd.R_away HO456.out (fun _ hk => hk.2))) <| z (hb) <| z1 (ho)
                   clear HO_5 HO_15 HO_16 HO_20 HO_22 HO_27 HO_30 BK422 HB HO456
                   obtain ⟨HO_5, HO_15, HO_16, HO_20, HO_22, HO_27, HO_30, BK422, HB, HO459⟩ := n_
                   clear ho hb hg hat
                   refine hK.out _ _ ⟨(blk_cell BK422.out 0).trans rfl, (blk_cell BK422.out 1).trans rfl⟩ (fun hHeld => ?_)
                   clear hK K
                   refine norm_ (a' := ?_) ?_ ?_
                   rotate_left
                   ·show Act.put _ (some 205) _ = _
                    simp only [Act.put, sI, s0, sS, i64_w, i32_w]
                    rfl
                   refine one_ (i := 4) (N := some 207) #[ti,ti,ti,ti,ti,fi,fi] rfl rfl (by kernel_rfl) (by decide) (fun K hK => ?_)
                   refine Kd.R_lit_step k32 _ 32 ?hg (N := 207) ?hd (xs := ([(⟨t420, t421⟩ : S32)] : List (S32))) (inner := [.int .i64 t420, .int .i64 t421]) (ok := fun _ => True) (okp := fun _ => True) ?hr ?hp (fun _ hk => hk) trivial (Below.refl _ _) (Nat.le_refl _) (by simp) ?_; (case hd => rfl); (case hg => rfl); (case hr => exact zf_); (case hp => exact zhc_)
                   intro v461 w75 ho76 hb hg_ hnew_
                   clear hg_ hnew_
                   (first | rw [← Ny460.out] at ho76 | (simp only [Int.reduceToNat] at ho76; rw [← Ny460.out] at ho76))
                   have n_ := z (Kd.R_elder' (zr HO_5.out) (Kd.R_base ho76) hb) <| z (Kd.R_elder' (zr HO_15.out) (Kd.R_base ho76) hb) <| z (Kd.Q_below (zq HO_16.out) hb) <| z (Kd.R_below (zr HO_20.out) hb) <| z (Kd.Q_below (zq HO_22.out) hb) <| z (Kd.R_below (zr HO_27.out) hb) <| z (Kd.Q_below (zq HO_30.out) hb) <| z (Kd.R_elder' (zr HO459.out) (Kd.R_base ho76) hb) <| z (Kd.R_lower (Kd.R_newB (Kd.R_new' (Kd.R_new' (Kd.R_new' ho76 (Kd.R_lt (zr HO_5.out))) (Kd.R_lt (zr HO_15.out))) (Kd.R_lt (zr HO459.out))) (g := gb422) (o := .cells #[.int .i64 t420, .int .i64 t421] 32 (0, 0)) (zb BK422.out)) (below_size zh_)) <| z (blk_below (g := gb422) (o := .cells #[.int .i64 t420, .int .i64 t421] 32 (0, 0)) (zb BK422.out) hb) <| z1 (below_step zh_ hb)
                   clear HO_5 HO_15 HO_16 HO_20 HO_22 HO_27 HO_30 HO459 BK422 HB
                   obtain ⟨HO_5, HO_15, HO_16, HO_20, HO_22, HO_27, HO_30, HO459, HO462, BK422, HB⟩ := n_
                   clear hb ho76
                   refine hK.out _ _ ⟨(blk_cell BK422.out 0).trans rfl, (blk_cell BK422.out 1).trans rfl⟩ (fun hHeld => ?_)
                   clear hK K
                   refine norm_ (a' := ?_) ?_ ?_
                   rotate_left
                   ·show Act.put _ (some 207) _ = _
                    simp only [Act.put, sI, s0, sS, i64_w, i32_w]
                    rfl
                   exact norm_ (by simp only [putAll, Act.put, sI, s0, sS]) (hCont (v455, v458, v461) _ ⟨hHeld, (by refine zr ?_; exact Kd.R_mono HO459.out (fun _ hk => ⟨hk.2, ⟨hk.1.2.1, ⟨hk.1.1, hk.1.2.2⟩⟩⟩)), (by refine zr ?_; exact Kd.R_mono HO462.out (fun _ hk => ⟨hk.1.2, ⟨hk.1.1.2, ⟨hk.1.1.1.2, hk.2⟩⟩⟩)), (by refine zr ?_; exact Kd.R_mono HO_15.out (fun _ hk => ⟨hk.1.2, ⟨hk.2, ⟨hk.1.1.1, hk.1.1.2⟩⟩⟩)), (zq HO_16.out), (zr HO_20.out), (zq HO_22.out), (zr HO_27.out), (zq HO_30.out), (by refine zr ?_; exact Kd.R_mono HO_5.out (fun _ hk => ⟨hk.1.2, ⟨hk.2, ⟨hk.1.1.1, hk.1.1.2⟩⟩⟩)), (zb BK422.out), zh_⟩)
                  ·skip
                   refine Kd.R_lit_step k32 _ 32 ?hg (N := 207) ?hd (xs := ([(⟨t420, t421⟩ : S32)] : List (S32))) (inner := [.int .i64 t420, .int .i64 t421]) (ok := fun _ => True) (okp := fun _ => True) ?hr ?hp (fun _ hk => hk) trivial (Below.refl _ _) (Nat.le_refl _) (by simp) ?_; (case hd => rfl); (case hg => rfl); (case hr => exact zf_); (case hp => exact zhc_)
                   intro v461 w74 ho75 hb hg_ hnew_
                   clear hg_ hnew_
                   (first | rw [← Ny460.out] at ho75 | (simp only [Int.reduceToNat] at ho75; rw [← Ny460.out] at ho75))
                   have n_ := z (Kd.R_elder' (zr HO_5.out) (Kd.R_base ho75) hb) <| z (Kd.R_elder' (zr HO_15.out) (Kd.R_base ho75) hb) <| z (Kd.Q_below (zq HO_16.out) hb) <| z (Kd.R_below (zr HO_20.out) hb) <| z (Kd.Q_below (zq HO_22.out) hb) <| z (Kd.R_below (zr HO_27.out) hb) <| z (Kd.Q_below (zq HO_30.out) hb) <| z (Kd.R_elder' (zr HO456.out) (Kd.R_base ho75) hb) <| z (Kd.R_lower (Kd.R_newB (Kd.R_new' (Kd.R_new' (Kd.R_new' ho75 (Kd.R_lt (zr HO_5.out))) (Kd.R_lt (zr HO_15.out))) (Kd.R_lt (zr HO456.out))) (g := gb422) (o := .cells #[.int .i64 t420, .int .i64 t421] 32 (0, 0)) (zb BK422.out)) (below_size zh_)) <| z (blk_below (g := gb422) (o := .cells #[.int .i64 t420, .int .i64 t421] 32 (0, 0)) (zb BK422.out) hb) <| z1 (below_step zh_ hb)
                   clear HO_5 HO_15 HO_16 HO_20 HO_22 HO_27 HO_30 HO456 BK422 HB
                   obtain ⟨HO_5, HO_15, HO_16, HO_20, HO_22, HO_27, HO_30, HO456, HO462, BK422, HB⟩ := n_
                   clear hb ho75
                   refine hK.out _ _ ⟨(blk_cell BK422.out 0).trans rfl, (blk_cell BK422.out 1).trans rfl⟩ (fun hHeld => ?_)
                   clear hK K
                   refine norm_ (a' := ?_) ?_ ?_
                   rotate_left
                   ·show Act.put _ (some 207) _ = _
                    simp only [Act.put, sI, s0, sS, i64_w, i32_w]
                    rfl
                   refine one_ (i := 2) (N := some 205) #[ti,ti,ti,ti,ti,fi,fi] rfl rfl (by kernel_rfl) (by decide) (fun K hK => ?_)
                   refine Kd.R_append_rows_step k32 (w0 := w) w.heap.size (by rfl) (.tmp 203) (.tmp 204) 23 32 (.agg #[(.int .i64 0), (.int .i64 0)]) 16 rfl Try.underlying23 info32 rfl (by decide) (by omega) v455 y454 t414 _ _ _ (fun k_ => some k_ ≠ (.slice Ao20 t400.length co20 : Value).ownBlock ∧ some k_ ≠ (.slice Ao29 t414.length co29 : Value).ownBlock ∧ some k_ ≠ (v461 : Value).ownBlock ∧ k_ ≠ gb422) (fun _ => False) rfl rfl ?aO ?aR (fun _ _ h => h) (fun _ h => h.elim) ?aF ?aB ?aS ?aL ?_
                   (case aR => exact zhb_)
                   (case aB => exact zdd_)
                   (case aF => exact zhd_)
                   (case aO => exact (by refine zr ?_; exact Kd.R_mono HO456.out (fun _ hk => ⟨hk.1.1.1.2, ⟨hk.1.1.2, ⟨hk.2, hk.1.2⟩⟩⟩)))
                   (case aS => exact zde_)
                   (case aL => have := LMc69.out; omega)
                   intro v458 w76 ho hb hg hat
                   rw [← Ny457.out] at ho
                   have n_ := z (Kd.R_after (ok := (fun k_ => some k_ ≠ (.slice Ao29 t414.length co29 : Value).ownBlock ∧ some k_ ≠ (v461 : Value).ownBlock ∧ k_ ≠ gb422)) (by refine zr ?_; exact Kd.R_mono HO_5.out (fun _ hk => ⟨⟨hk.1.1.1, ⟨hk.2, hk.1.1.2⟩⟩, hk.1.2⟩)) hg hat) <| z (Kd.R_after (ok := (fun k_ => some k_ ≠ (.slice Ao20 t400.length co20 : Value).ownBlock ∧ some k_ ≠ (v461 : Value).ownBlock ∧ k_ ≠ gb422)) (by refine zr ?_; exact Kd.R_mono HO_15.out (fun _ hk => ⟨⟨hk.1.1.1, ⟨hk.2, hk.1.1.2⟩⟩, hk.1.2⟩)) hg hat) <| z (Kd.Q_over' (zq HO_16.out) (Kd.R_typed (zr HO456.out)) (by decide) hg) <| z (Kd.R_over' (zr HO_20.out) (Kd.R_typed (zr HO456.out)) (by decide) hg) <| z (Kd.Q_over' (zq HO_22.out) (Kd.R_typed (zr HO456.out)) (by decide) hg) <| z (Kd.R_over' (zr HO_27.out) (Kd.R_typed (zr HO456.out)) (by decide) hg) <| z (Kd.Q_over' (zq HO_30.out) (Kd.R_typed (zr HO456.out)) (by decide) hg) <| z (blk_grown (g := gb422) (o := .cells #[.int .i64 t420, .int .i64 t421] 32 (0, 0)) (zb BK422.out) hg (Kd.R_away HO456.out (fun _ hk => hk.1.2))) <| z (Kd.R_after (ok := (fun k_ => some k_ ≠ (.slice Ao20 t400.length co20 : Value).ownBlock ∧ some k_ ≠ (.slice Ao29 t414.length co29 : Value).ownBlock ∧ k_ ≠ gb422)) (by refine zr ?_; exact Kd.R_mono HO462.out (fun _ hk => ⟨⟨hk.1.1.1.2, ⟨hk.1.1.2, hk.2⟩⟩, hk.1.2⟩)) hg hat) <| z (hb) <| z1 (ho)
                   clear HO_5 HO_15 HO_16 HO_20 HO_22 HO_27 HO_30 BK422 HO462 HB HO456
                   obtain ⟨HO_5, HO_15, HO_16, HO_20, HO_22, HO_27, HO_30, BK422, HO462, HB, HO459⟩ := n_
                   clear ho hb hg hat
                   refine hK.out _ _ ⟨(blk_cell BK422.out 0).trans rfl, (blk_cell BK422.out 1).trans rfl⟩ (fun hHeld => ?_)
                   clear hK K
                   refine norm_ (a' := ?_) ?_ ?_
                   rotate_left
                   ·show Act.put _ (some 205) _ = _
                    simp only [Act.put, sI, s0, sS, i64_w, i32_w]
                    rfl
                   exact norm_ (by simp only [putAll, Act.put, sI, s0, sS]) (hCont (v455, v458, v461) _ ⟨hHeld, (by refine zr ?_; exact Kd.R_mono HO459.out (fun _ hk => ⟨hk.2.2.1, ⟨hk.2.1, ⟨hk.1, hk.2.2.2⟩⟩⟩)), (by refine zr ?_; exact Kd.R_mono HO462.out (fun _ hk => ⟨hk.2, ⟨hk.1.2.1, ⟨hk.1.1, hk.1.2.2⟩⟩⟩)), (by refine zr ?_; exact Kd.R_mono HO_15.out (fun _ hk => ⟨hk.2, ⟨hk.1.2.1, ⟨hk.1.1, hk.1.2.2⟩⟩⟩)), (zq HO_16.out), (zr HO_20.out), (zq HO_22.out), (zr HO_27.out), (zq HO_30.out), (by refine zr ?_; exact Kd.R_mono HO_5.out (fun _ hk => ⟨hk.2, ⟨hk.1.2.1, ⟨hk.1.1, hk.1.2.2⟩⟩⟩)), (zb BK422.out), zh_⟩)
                 ·skip
                  refine Kd.R_lit_step k32 _ 32 ?hg (N := 207) ?hd (xs := ([(⟨t420, t421⟩ : S32)] : List (S32))) (inner := [.int .i64 t420, .int .i64 t421]) (ok := fun _ => True) (okp := fun _ => True) ?hr ?hp (fun _ hk => hk) trivial (Below.refl _ _) (Nat.le_refl _) (by simp) ?_; (case hd => rfl); (case hg => rfl); (case hr => exact zf_); (case hp => exact zhc_)
                  intro v461 w72 ho73 hb hg_ hnew_
                  clear hg_ hnew_
                  (first | rw [← Ny460.out] at ho73 | (simp only [Int.reduceToNat] at ho73; rw [← Ny460.out] at ho73))
                  have n_ := z (Kd.R_elder' (zr HO_5.out) (Kd.R_base ho73) hb) <| z (Kd.R_elder' (zr HO_15.out) (Kd.R_base ho73) hb) <| z (Kd.Q_below (zq HO_16.out) hb) <| z (Kd.R_below (zr HO_20.out) hb) <| z (Kd.Q_below (zq HO_22.out) hb) <| z (Kd.R_below (zr HO_27.out) hb) <| z (Kd.Q_below (zq HO_30.out) hb) <| z (Kd.R_lower (Kd.R_newB (Kd.R_new' (Kd.R_new' ho73 (Kd.R_lt (zr HO_5.out))) (Kd.R_lt (zr HO_15.out))) (g := gb422) (o := .cells #[.int .i64 t420, .int .i64 t421] 32 (0, 0)) (zb BK422.out)) (below_size zh_)) <| z (blk_below (g := gb422) (o := .cells #[.int .i64 t420, .int .i64 t421] 32 (0, 0)) (zb BK422.out) hb) <| z1 (below_step zh_ hb)
                  clear HO_5 HO_15 HO_16 HO_20 HO_22 HO_27 HO_30 BK422 HB
                  obtain ⟨HO_5, HO_15, HO_16, HO_20, HO_22, HO_27, HO_30, HO462, BK422, HB⟩ := n_
                  clear hb ho73
                  refine hK.out _ _ ⟨(blk_cell BK422.out 0).trans rfl, (blk_cell BK422.out 1).trans rfl⟩ (fun hHeld => ?_)
                  clear hK K
                  refine norm_ (a' := ?_) ?_ ?_
                  rotate_left
                  ·show Act.put _ (some 207) _ = _
                   simp only [Act.put, sI, s0, sS, i64_w, i32_w]
                   rfl
                  refine one_ (i := 0) (N := some 203) #[ti,ti,fi,ti,ti,fi,fi] rfl rfl (by kernel_rfl) (by decide) (fun K hK => ?_)
                  refine Kd.R_lit_step k32 _ 32 ?hg (N := 203) ?hd (xs := ([] : List (S32))) (inner := []) (ok := fun _ => True) (okp := fun _ => True) ?hr ?hp (fun _ hk => hk) trivial (Below.refl _ _) (Nat.le_refl _) (by simp) ?_; (case hd => rfl); (case hg => rfl); (case hr => exact zf_); (case hp => exact (Reps.none _ _))
                  intro v455 w74 ho75 hb hg_ hnew_
                  clear hg_ hnew_
                  (first | rw [← Ny454.out] at ho75 | (simp only [Int.reduceToNat] at ho75; rw [← Ny454.out] at ho75))
                  have n_ := z (Kd.R_elder' (zr HO_5.out) (Kd.R_base ho75) hb) <| z (Kd.R_elder' (zr HO_15.out) (Kd.R_base ho75) hb) <| z (Kd.Q_below (zq HO_16.out) hb) <| z (Kd.R_below (zr HO_20.out) hb) <| z (Kd.Q_below (zq HO_22.out) hb) <| z (Kd.R_below (zr HO_27.out) hb) <| z (Kd.Q_below (zq HO_30.out) hb) <| z (Kd.R_elder' (zr HO462.out) (Kd.R_base ho75) hb) <| z (Kd.R_lower (Kd.R_newB (Kd.R_new' (Kd.R_new' (Kd.R_new' ho75 (Kd.R_lt (zr HO_5.out))) (Kd.R_lt (zr HO_15.out))) (Kd.R_lt (zr HO462.out))) (g := gb422) (o := .cells #[.int .i64 t420, .int .i64 t421] 32 (0, 0)) (zb BK422.out)) (below_size zh_)) <| z (blk_below (g := gb422) (o := .cells #[.int .i64 t420, .int .i64 t421] 32 (0, 0)) (zb BK422.out) hb) <| z1 (below_step zh_ hb)
                  clear HO_5 HO_15 HO_16 HO_20 HO_22 HO_27 HO_30 HO462 BK422 HB
                  obtain ⟨HO_5, HO_15, HO_16, HO_20, HO_22, HO_27, HO_30, HO462, HO456, BK422, HB⟩ := n_
                  clear hb ho75
                  refine hK.out _ _ ⟨(blk_cell BK422.out 0).trans rfl, (blk_cell BK422.out 1).trans rfl⟩ (fun hHeld => ?_)
                  clear hK K
                  refine norm_ (a' := ?_) ?_ ?_
                  rotate_left
                  ·show Act.put _ (some 203) _ = _
                   simp only [Act.put, sI, s0, sS, i64_w, i32_w]
                   rfl
                  refine one_ (i := 2) (N := some 205) #[ti,ti,ti,ti,ti,fi,fi] rfl rfl (by kernel_rfl) (by decide) (fun K hK => ?_)
                  refine Kd.R_append_rows_step k32 (w0 := w) w.heap.size (by rfl) (.tmp 203) (.tmp 204) 23 32 (.agg #[(.int .i64 0), (.int .i64 0)]) 16 rfl Try.underlying23 info32 rfl (by decide) (by omega) v455 y454 t414 _ _ _ (fun k_ => some k_ ≠ (.slice Ao20 t400.length co20 : Value).ownBlock ∧ some k_ ≠ (.slice Ao29 t414.length co29 : Value).ownBlock ∧ some k_ ≠ (v461 : Value).ownBlock ∧ k_ ≠ gb422) (fun _ => False) rfl rfl ?aO ?aR (fun _ _ h => h) (fun _ h => h.elim) ?aF ?aB ?aS ?aL ?_
                  (case aR => exact zhb_)
                  (case aB => exact zdd_)
                  (case aF => exact zhd_)
                  (case aO => exact (by refine zr ?_; exact Kd.R_mono HO456.out (fun _ hk => ⟨hk.1.1.1.2, ⟨hk.1.1.2, ⟨hk.1.2, hk.2⟩⟩⟩)))
                  (case aS => exact zde_)
                  (case aL => have := LMc69.out; omega)
                  intro v458 w76 ho hb hg hat
                  rw [← Ny457.out] at ho
                  have n_ := z (Kd.R_after (ok := (fun k_ => some k_ ≠ (.slice Ao29 t414.length co29 : Value).ownBlock ∧ some k_ ≠ (v461 : Value).ownBlock ∧ k_ ≠ gb422)) (by refine zr ?_; exact Kd.R_mono HO_5.out (fun _ hk => ⟨⟨hk.1.1.1, ⟨hk.1.2, hk.1.1.2⟩⟩, hk.2⟩)) hg hat) <| z (Kd.R_after (ok := (fun k_ => some k_ ≠ (.slice Ao20 t400.length co20 : Value).ownBlock ∧ some k_ ≠ (v461 : Value).ownBlock ∧ k_ ≠ gb422)) (by refine zr ?_; exact Kd.R_mono HO_15.out (fun _ hk => ⟨⟨hk.1.1.1, ⟨hk.1.2, hk.1.1.2⟩⟩, hk.2⟩)) hg hat) <| z (Kd.Q_over' (zq HO_16.out) (Kd.R_typed (zr HO456.out)) (by decide) hg) <| z (Kd.R_over' (zr HO_20.out) (Kd.R_typed (zr HO456.out)) (by decide) hg) <| z (Kd.Q_over' (zq HO_22.out) (Kd.R_typed (zr HO456.out)) (by decide) hg) <| z (Kd.R_over' (zr HO_27.out) (Kd.R_typed (zr HO456.out)) (by decide) hg) <| z (Kd.Q_over' (zq HO_30.out) (Kd.R_typed (zr HO456.out)) (by decide) hg) <| z (blk_grown (g := gb422) (o := .cells #[.int .i64 t420, .int .i64 t421] 32 (0, 0)) (zb BK422.out) hg (Kd.R_away HO456.out (fun _ hk => hk.2))) <| z (Kd.R_after (ok := (fun k_ => some k_ ≠ (.slice Ao20 t400.length co20 : Value).ownBlock ∧ some k_ ≠ (.slice Ao29 t414.length co29 : Value).ownBlock ∧ k_ ≠ gb422)) (by refine zr ?_; exact Kd.R_mono HO462.out (fun _ hk => ⟨⟨hk.1.1.1.2, ⟨hk.1.1.2, hk.1.2⟩⟩, hk.2⟩)) hg hat) <| z (hb) <| z1 (ho)
                  clear HO_5 HO_15 HO_16 HO_20 HO_22 HO_27 HO_30 BK422 HO462 HB HO456
                  obtain ⟨HO_5, HO_15, HO_16, HO_20, HO_22, HO_27, HO_30, BK422, HO462, HB, HO459⟩ := n_
                  clear ho hb hg hat
                  refine hK.out _ _ ⟨(blk_cell BK422.out 0).trans rfl, (blk_cell BK422.out 1).trans rfl⟩ (fun hHeld => ?_)
                  clear hK K
                  refine norm_ (a' := ?_) ?_ ?_
                  rotate_left
                  ·show Act.put _ (some 205) _ = _
                   simp only [Act.put, sI, s0, sS, i64_w, i32_w]
                   rfl
                  exact norm_ (by simp only [putAll, Act.put, sI, s0, sS]) (hCont (v455, v458, v461) _ ⟨hHeld, (by refine zr ?_; exact Kd.R_mono HO459.out (fun _ hk => ⟨hk.2.2.1, ⟨hk.2.1, ⟨hk.1, hk.2.2.2⟩⟩⟩)), (by refine zr ?_; exact Kd.R_mono HO462.out (fun _ hk => ⟨hk.2, ⟨hk.1.2.1, ⟨hk.1.1, hk.1.2.2⟩⟩⟩)), (by refine zr ?_; exact Kd.R_mono HO_15.out (fun _ hk => ⟨hk.2, ⟨hk.1.2.1, ⟨hk.1.1, hk.1.2.2⟩⟩⟩)), (zq HO_16.out), (zr HO_20.out), (zq HO_22.out), (zr HO_27.out), (zq HO_30.out), (by refine zr ?_; exact Kd.R_mono HO_5.out (fun _ hk => ⟨hk.2, ⟨hk.1.2.1, ⟨hk.1.1, hk.1.2.2⟩⟩⟩)), (zb BK422.out), zh_⟩)
                rintro ⟨v455, v458, v461⟩ w77 ⟨hS_, h0_, h1_, h2_, h3_, h4_, h5_, h6_, h7_, h8_, h9_, h10_⟩
                have n0_ : Aside0 (Kd.R k32 32 w77 w.heap.size (fun k_ => some k_ ≠ (v461 : Value).ownBlock ∧ some k_ ≠ (.slice Ao29 t414.length co29 : Value).ownBlock ∧ some k_ ≠ (.slice Ao20 t400.length co20 : Value).ownBlock ∧ k_ ≠ gb422) v458 y457) := ⟨h0_⟩
                have n1_ : Aside0 (Kd.R k32 32 w77 w.heap.size (fun k_ => some k_ ≠ (v458 : Value).ownBlock ∧ some k_ ≠ (.slice Ao29 t414.length co29 : Value).ownBlock ∧ some k_ ≠ (.slice Ao20 t400.length co20 : Value).ownBlock ∧ k_ ≠ gb422) v461 y460) := ⟨h1_⟩
                have n2_ : Aside0 (Kd.R k32 32 w77 w.heap.size (fun k_ => some k_ ≠ (v458 : Value).ownBlock ∧ some k_ ≠ (v461 : Value).ownBlock ∧ some k_ ≠ (.slice Ao20 t400.length co20 : Value).ownBlock ∧ k_ ≠ gb422) (.slice Ao29 t414.length co29) t414) := ⟨h2_⟩
                have n3_ : Aside0 (Kd.Q (Kd.int .i64) 3 w77 w.heap.size (fun k_ => some k_ ≠ (v428 : Value).ownBlock ∧ some k_ ≠ (.slice Ao35 t431.length co35 : Value).ownBlock ∧ some k_ ≠ (v443 : Value).ownBlock ∧ some k_ ≠ (.slice Ao39 t445.length co39 : Value).ownBlock) (.slice Ao30 t417.length co30) t417) := ⟨h3_⟩
                have n4_ : Aside0 (Kd.R (Kd.int .i64) 3 w77 w.heap.size (fun k_ => some k_ ≠ (.slice Ao30 t417.length co30 : Value).ownBlock ∧ some k_ ≠ (.slice Ao35 t431.length co35 : Value).ownBlock ∧ some k_ ≠ (v443 : Value).ownBlock ∧ some k_ ≠ (.slice Ao39 t445.length co39 : Value).ownBlock) v428 t427) := ⟨h4_⟩
                have n5_ : Aside0 (Kd.Q (Kd.int .i64) 3 w77 w.heap.size (fun k_ => some k_ ≠ (.slice Ao30 t417.length co30 : Value).ownBlock ∧ some k_ ≠ (v428 : Value).ownBlock ∧ some k_ ≠ (v443 : Value).ownBlock ∧ some k_ ≠ (.slice Ao39 t445.length co39 : Value).ownBlock) (.slice Ao35 t431.length co35) t431) := ⟨h5_⟩
                have n6_ : Aside0 (Kd.R (Kd.int .i64) 3 w77 w.heap.size (fun k_ => some k_ ≠ (.slice Ao30 t417.length co30 : Value).ownBlock ∧ some k_ ≠ (v428 : Value).ownBlock ∧ some k_ ≠ (.slice Ao35 t431.length co35 : Value).ownBlock ∧ some k_ ≠ (.slice Ao39 t445.length co39 : Value).ownBlock) v443 t440) := ⟨h6_⟩
                have n7_ : Aside0 (Kd.Q (Kd.int .i64) 3 w77 w.heap.size (fun k_ => some k_ ≠ (.slice Ao30 t417.length co30 : Value).ownBlock ∧ some k_ ≠ (v428 : Value).ownBlock ∧ some k_ ≠ (.slice Ao35 t431.length co35 : Value).ownBlock ∧ some k_ ≠ (v443 : Value).ownBlock) (.slice Ao39 t445.length co39) t445) := ⟨h7_⟩
                have n8_ : Aside0 (Kd.R k32 32 w77 w.heap.size (fun k_ => some k_ ≠ (v458 : Value).ownBlock ∧ some k_ ≠ (v461 : Value).ownBlock ∧ some k_ ≠ (.slice Ao29 t414.length co29 : Value).ownBlock ∧ k_ ≠ gb422) (.slice Ao20 t400.length co20) t400) := ⟨h8_⟩
                have n9_ : Aside0 (w77.heap[gb422]? = some (.cells #[.int .i64 t420, .int .i64 t421] 32 (0, 0))) := ⟨h9_⟩
                have n10_ : Aside0 (Below w.heap.size w w77) := ⟨h10_⟩
                clear HO_5 HO_15 HO_16 HO_20 HO_22 HO_27 HO_30 BK422 HB h0_ h1_ h2_ h3_ h4_ h5_ h6_ h7_ h8_ h9_ h10_
                have HO459 := n0_
                have HO462 := n1_
                have HO_15 := n2_
                have HO_16 := n3_
                have HO_20 := n4_
                have HO_22 := n5_
                have HO_27 := n6_
                have HO_30 := n7_
                have HO_5 := n8_
                have BK422 := n9_
                have HB := n10_
                clear n0_ n1_ n2_ n3_ n4_ n5_ n6_ n7_ n8_ n9_ n10_
                have hHeld : w77.cell? ⟨gb422, 0, none⟩ = some (.int .i64 t420) ∧ w77.cell? ⟨gb422, 1, none⟩ = some (.int .i64 t421) := hS_
                obtain ⟨Ao79, co79, eo79⟩ := Kd.R_slice HO462.out
                (first | subst eo79 | (injection eo79 with f1_ f2_ f3_; have f4_ := f1_.symm; have f5_ := f3_.symm; clear f1_ f2_ f3_; subst f4_; subst f5_))
                refine norm_ (a' := ?_) ?_ ?_
                rotate_left
                ·simp only [putAll, Act.put, sI, s0, sS]
                 rfl
                refine one_ (i := 5) (N := some 208) #[ti,ti,ti,ti,ti,ti,fi] rfl rfl (by kernel_rfl) (by decide) (fun K hK => ?_)
                refine Kd.R_append_rows_step k32 (w0 := w) w.heap.size (by rfl) (.tmp 205) (.tmp 207) 23 32 (.agg #[(.int .i64 0), (.int .i64 0)]) 16 rfl Try.underlying23 info32 rfl (by decide) (by omega) v458 y457 y460 _ _ _ (fun k_ => some k_ ≠ (.slice Ao20 t400.length co20 : Value).ownBlock ∧ some k_ ≠ (.slice Ao29 t414.length co29 : Value).ownBlock ∧ some k_ ≠ (.slice Ao79 y460.length co79 : Value).ownBlock ∧ k_ ≠ gb422) (fun _ => False) rfl rfl ?aO ?aR (fun _ _ h => h) (fun _ h => h.elim) ?aF ?aB ?aS ?aL ?_
                (case aR => repeat (first | exact (Kd.R_reads' HO462.out).2.2 | (with_reducible refine cA ?_ _) | (with_reducible refine cN ?_ _) | (with_reducible refine cD ?_)))
                (case aB => exact zdd_)
                (case aF => exact zhd_)
                (case aO => exact (by refine zr ?_; exact Kd.R_mono HO459.out (fun _ hk => ⟨hk.2.2.1, ⟨hk.2.1, ⟨hk.1, hk.2.2.2⟩⟩⟩)))
                (case aS => exact zde_)
                (case aL => have := LMc70.out; omega)
                intro v464 w78 ho hb hg hat
                rw [← Ny463.out] at ho
                have n_ := z (Kd.R_after (ok := (fun k_ => some k_ ≠ (.slice Ao29 t414.length co29 : Value).ownBlock ∧ some k_ ≠ (.slice Ao79 y460.length co79 : Value).ownBlock ∧ k_ ≠ gb422)) (by refine zr ?_; exact Kd.R_mono HO_5.out (fun _ hk => ⟨⟨hk.2.2.1, ⟨hk.2.1, hk.2.2.2⟩⟩, hk.1⟩)) hg hat) <| z (Kd.R_after (ok := (fun k_ => some k_ ≠ (.slice Ao20 t400.length co20 : Value).ownBlock ∧ some k_ ≠ (.slice Ao79 y460.length co79 : Value).ownBlock ∧ k_ ≠ gb422)) (by refine zr ?_; exact Kd.R_mono HO_15.out (fun _ hk => ⟨⟨hk.2.2.1, ⟨hk.2.1, hk.2.2.2⟩⟩, hk.1⟩)) hg hat) <| z (Kd.Q_over' (zq HO_16.out) (Kd.R_typed (zr HO459.out)) (by decide) hg) <| z (Kd.R_over' (zr HO_20.out) (Kd.R_typed (zr HO459.out)) (by decide) hg) <| z (Kd.Q_over' (zq HO_22.out) (Kd.R_typed (zr HO459.out)) (by decide) hg) <| z (Kd.R_over' (zr HO_27.out) (Kd.R_typed (zr HO459.out)) (by decide) hg) <| z (Kd.Q_over' (zq HO_30.out) (Kd.R_typed (zr HO459.out)) (by decide) hg) <| z (blk_grown (g := gb422) (o := .cells #[.int .i64 t420, .int .i64 t421] 32 (0, 0)) (zb BK422.out) hg (Kd.R_away HO459.out (fun _ hk => hk.2.2.2))) <| z (Kd.R_after (ok := (fun k_ => some k_ ≠ (.slice Ao20 t400.length co20 : Value).ownBlock ∧ some k_ ≠ (.slice Ao29 t414.length co29 : Value).ownBlock ∧ k_ ≠ gb422)) (by refine zr ?_; exact Kd.R_mono HO462.out (fun _ hk => ⟨⟨hk.2.2.1, ⟨hk.2.1, hk.2.2.2⟩⟩, hk.1⟩)) hg hat) <| z (hb) <| z1 (ho)
                clear HO_5 HO_15 HO_16 HO_20 HO_22 HO_27 HO_30 BK422 HO462 HB HO459
                obtain ⟨HO_5, HO_15, HO_16, HO_20, HO_22, HO_27, HO_30, BK422, HO462, HB, HO465⟩ := n_
                clear ho hb hg hat
                refine hK.out _ _ ⟨(blk_cell BK422.out 0).trans rfl, (blk_cell BK422.out 1).trans rfl⟩ (fun hHeld => ?_)
                clear hK K
                refine norm_ (a' := ?_) ?_ ?_
                rotate_left
                ·show Act.put _ (some 208) _ = _
                 simp only [Act.put, sI, s0, sS, i64_w, i32_w]
                 rfl
                refine pure_ (i := 6) (N := some 35) (v := ?_) (a' := ?_) #[ti,ti,ti,ti,ti,ti,ti] rfl rfl (by kernel_rfl) (fun _ _ _ h => h) (Or.inl ⟨by rfl, ?_⟩) ?_ ?_; rotate_left; (· (intro w'; go_simp; with_reducible rfl)); rotate_left; (· (simp only [Act.put, sI, s0, sS, i64_w, i32_w]; rfl))
                refine done_ (by kernel_rfl) ?_
                try go_wp2
                go_loopg [36] kj64 (fun kq v36 w' => ∃ (x36_3 : Int), v36 = .int .i64 x36_3 ∧ Aside0 (laws_FnTracks.l0 kq t400 t411 t412 t417 t427 t431 t432 t437 t440 t441 t445 t449 t450 y463 x36_3 = some r) ∧ Aside0 (kq ≤ kj64) ∧ Aside0 (Kd.R k32 32 w' w.heap.size (fun k_ => some k_ ≠ (v464 : Value).ownBlock ∧ k_ ≠ gb422) (.slice Ao20 t400.length co20) t400) ∧ Aside0 (Kd.Q (Kd.int .i64) 3 w' w.heap.size (fun k_ => some k_ ≠ (v428 : Value).ownBlock ∧ some k_ ≠ ((.slice Ao35 t431.length co35) : Value).ownBlock ∧ some k_ ≠ (v443 : Value).ownBlock ∧ some k_ ≠ ((.slice Ao39 t445.length co39) : Value).ownBlock) (.slice Ao30 t417.length co30) t417) ∧ Aside0 (Kd.R (Kd.int .i64) 3 w' w.heap.size (fun k_ => some k_ ≠ ((.slice Ao30 t417.length co30) : Value).ownBlock ∧ some k_ ≠ ((.slice Ao35 t431.length co35) : Value).ownBlock ∧ some k_ ≠ (v443 : Value).ownBlock ∧ some k_ ≠ ((.slice Ao39 t445.length co39) : Value).ownBlock) v428 t427) ∧ Aside0 (Kd.Q (Kd.int .i64) 3 w' w.heap.size (fun k_ => some k_ ≠ ((.slice Ao30 t417.length co30) : Value).ownBlock ∧ some k_ ≠ (v428 : Value).ownBlock ∧ some k_ ≠ (v443 : Value).ownBlock ∧ some k_ ≠ ((.slice Ao39 t445.length co39) : Value).ownBlock) (.slice Ao35 t431.length co35) t431) ∧ Aside0 (Kd.R (Kd.int .i64) 3 w' w.heap.size (fun k_ => some k_ ≠ ((.slice Ao30 t417.length co30) : Value).ownBlock ∧ some k_ ≠ (v428 : Value).ownBlock ∧ some k_ ≠ ((.slice Ao35 t431.length co35) : Value).ownBlock ∧ some k_ ≠ ((.slice Ao39 t445.length co39) : Value).ownBlock) v443 t440) ∧ Aside0 (Kd.Q (Kd.int .i64) 3 w' w.heap.size (fun k_ => some k_ ≠ ((.slice Ao30 t417.length co30) : Value).ownBlock ∧ some k_ ≠ (v428 : Value).ownBlock ∧ some k_ ≠ ((.slice Ao35 t431.length co35) : Value).ownBlock ∧ some k_ ≠ (v443 : Value).ownBlock) (.slice Ao39 t445.length co39) t445) ∧ Aside0 (Kd.R k32 32 w' w.heap.size (fun k_ => some k_ ≠ ((.slice Ao20 t400.length co20) : Value).ownBlock ∧ k_ ≠ gb422) v464 y463) ∧ Aside0 (w'.heap[gb422]? = some (.cells #[.int .i64 t420, .int .i64 t421] 32 (0, 0))) ∧ Aside0 (Below w.heap.size w w'))
                case atStart => exact ⟨(0), zc_, H', ⟨Nat.le_refl _⟩, ⟨by refine zr ?_; exact Kd.R_mono HO_5.out (fun _ hk => ⟨hk.2, hk.1.2.2⟩)⟩, ⟨zq HO_16.out⟩, ⟨zr HO_20.out⟩, ⟨zq HO_22.out⟩, ⟨zr HO_27.out⟩, ⟨zq HO_30.out⟩, ⟨by refine zr ?_; exact Kd.R_mono HO465.out (fun _ hk => ⟨hk.1, hk.2.2.2⟩)⟩, ⟨zb BK422.out⟩, ⟨zh_⟩⟩
                case round =>
                 as_aux_lemma =>
                  clear H'
                  try clear c2
                  try clear p2
                  try clear c6
                  try clear p6
                  try clear c7
                  try clear p64
                  try clear c66
                  try clear c68
                  try clear c69
                  try clear c70
                  try clear hcz28_0
                  try clear hcz28_1
                  try clear hcz32_0
                  try clear hcz32_1
                  try clear hfz28_0
                  try clear hfz28_1
                  try clear hfz32_0
                  try clear hfz32_1
                  try clear p2
                  try clear p6
                  try clear p64
                  obtain ⟨x36_3, rfl, HA, HK3, HO_5, HO_16, HO_20, HO_22, HO_27, HO_30, HO_35, BK422, HB⟩ := hrel
                  cases gk with
                  | zero => exact absurd HA.out (by simp [laws_FnTracks.l0])
                  | succ k3 =>
                   have H := HA.out
                   clear HA
                   simp only [laws_FnTracks.l0] at H
                   by_cases c80 : x36_3 < 20
                   ·rw [if_pos c80] at H
                    have c80b0 : decide (x36_3 < 20) = true := decide_eq_true c80
                    clear c80
                    (first | rw [c80b0] | (simp only [i64_w, i32_w]; rw [c80b0]) | skip)
                    obtain ⟨y466, hy466⟩ : ∃ y_ : List Int, y_ = (([] : List Int)) := ⟨_, rfl⟩
                    replace H : (if y466.length + t417.length < 17592186044416 then ((some (y466 ++ t417 : List Int)).bind fun y469 => ((some (([x36_3] : List Int) : List Int)).bind fun y472 => (if y469.length + y472.length < 17592186044416 then ((impl_IsRouting.f k3 y463 (y469 ++ y472)).bind fun bt478 => ((some (([] : List Int) : List Int)).bind fun y480 => (if y480.length + t417.length < 17592186044416 then ((some (y480 ++ t417 : List Int)).bind fun y483 => ((some (([x36_3] : List Int) : List Int)).bind fun y486 => (if y483.length + y486.length < 17592186044416 then ((spec_IsRouting.f k3 y463 (y483 ++ y486)).bind fun bt492 => (laws_FnTracks.j3 k3 t400 t411 t412 t417 t427 t431 t432 t437 t440 t441 t445 t449 t450 y463 x36_3 bt478.1 bt478.2 bt492.1 bt492.2)) else (none)))) else (none)))) else (none)))) else (none)) = some r := by first | (rw [hy466]; with_reducible exact H) | (have H2_ := (oS _ _).symm.trans H; rw [hy466]; with_reducible exact H2_) | (have H2_ := (oS _ _).symm.trans H; with_reducible exact H2_) | with_reducible exact H | (rw [hy466]; exact H) | exact H
                    have Ny466 := aM hy466
                    clear hy466
                    by_cases c81 : y466.length + t417.length < 17592186044416
                    rotate_left
                    ·rw [if_neg c81] at H
                     exact absurd H (by simp)
                    rw [if_pos c81] at H
                    have LMc81 := aM c81
                    clear c81
                    obtain ⟨y469, hy469⟩ : ∃ y_ : List Int, y_ = (y466 ++ t417) := ⟨_, rfl⟩
                    replace H : ((some (([x36_3] : List Int) : List Int)).bind fun y472 => (if y469.length + y472.length < 17592186044416 then ((impl_IsRouting.f k3 y463 (y469 ++ y472)).bind fun bt478 => ((some (([] : List Int) : List Int)).bind fun y480 => (if y480.length + t417.length < 17592186044416 then ((some (y480 ++ t417 : List Int)).bind fun y483 => ((some (([x36_3] : List Int) : List Int)).bind fun y486 => (if y483.length + y486.length < 17592186044416 then ((spec_IsRouting.f k3 y463 (y483 ++ y486)).bind fun bt492 => (laws_FnTracks.j3 k3 t400 t411 t412 t417 t427 t431 t432 t437 t440 t441 t445 t449 t450 y463 x36_3 bt478.1 bt478.2 bt492.1 bt492.2)) else (none)))) else (none)))) else (none))) = some r := by first | (rw [hy469]; with_reducible exact H) | (have H2_ := (oS _ _).symm.trans H; rw [hy469]; with_reducible exact H2_) | (have H2_ := (oS _ _).symm.trans H; with_reducible exact H2_) | with_reducible exact H | (rw [hy469]; exact H) | exact H
                    have Ny469 := aM hy469
                    clear hy469
                    obtain ⟨y472, hy472⟩ : ∃ y_ : List Int, y_ = (([x36_3] : List Int)) := ⟨_, rfl⟩
                    replace H : (if y469.length + y472.length < 17592186044416 then ((impl_IsRouting.f k3 y463 (y469 ++ y472)).bind fun bt478 => ((some (([] : List Int) : List Int)).bind fun y480 => (if y480.length + t417.length < 17592186044416 then ((some (y480 ++ t417 : List Int)).bind fun y483 => ((some (([x36_3] : List Int) : List Int)).bind fun y486 => (if y483.length + y486.length < 17592186044416 then ((spec_IsRouting.f k3 y463 (y483 ++ y486)).bind fun bt492 => (laws_FnTracks.j3 k3 t400 t411 t412 t417 t427 t431 t432 t437 t440 t441 t445 t449 t450 y463 x36_3 bt478.1 bt478.2 bt492.1 bt492.2)) else (none)))) else (none)))) else (none)) = some r := by first | (rw [hy472]; with_reducible exact H) | (have H2_ := (oS _ _).symm.trans H; rw [hy472]; with_reducible exact H2_) | (have H2_ := (oS _ _).symm.trans H; with_reducible exact H2_) | with_reducible exact H | (rw [hy472]; exact H) | exact H
                    have Ny472 := aM hy472
                    clear hy472
                    by_cases c82 : y469.length + y472.length < 17592186044416
                    rotate_left
                    ·rw [if_neg c82] at H
                     exact absurd H (by simp)
                    rw [if_pos c82] at H
                    have LMc82 := aM c82
                    clear c82
                    obtain ⟨y475, hy475⟩ : ∃ y_ : List Int, y_ = (y469 ++ y472) := ⟨_, rfl⟩
                    replace H : ((impl_IsRouting.f k3 y463 y475).bind fun bt478 => ((some (([] : List Int) : List Int)).bind fun y480 => (if y480.length + t417.length < 17592186044416 then ((some (y480 ++ t417 : List Int)).bind fun y483 => ((some (([x36_3] : List Int) : List Int)).bind fun y486 => (if y483.length + y486.length < 17592186044416 then ((spec_IsRouting.f k3 y463 (y483 ++ y486)).bind fun bt492 => (laws_FnTracks.j3 k3 t400 t411 t412 t417 t427 t431 t432 t437 t440 t441 t445 t449 t450 y463 x36_3 bt478.1 bt478.2 bt492.1 bt492.2)) else (none)))) else (none)))) = some r := by first | (rw [hy475]; with_reducible exact H) | (have H2_ := (oS _ _).symm.trans H; rw [hy475]; with_reducible exact H2_) | (have H2_ := (oS _ _).symm.trans H; with_reducible exact H2_) | with_reducible exact H | (rw [hy475]; exact H) | exact H
                    have Ny475 := aM hy475
                    clear hy475
                    replace H := oB.mp H
                    obtain ⟨⟨t478, t479⟩, A830, H⟩ := H
                    (try dsimp only at H)
                    have A83 := aM A830
                    clear A830
                    have HC84 := aM H
                    clear H
                    go_upto_region 25 with (first | ((with_reducible refine gate_dst (N := 215) rfl ?_); (try (refine gate_guard (by rfl) ?_; dsimp only)); refine Kd.R_lit (Kd.int .i64) _ 3 ?hg (N := 215) ?hd (xs := ([] : List Int)) (inner := []) (ok := fun _ => True) (okp := fun _ => True) ?hr ?hp (fun _ hk => hk) trivial (Below.refl _ _) (Nat.le_refl _) (by simp) ?_; (case hd => rfl); (case hg => rfl); (case hr => exact zf_); (case hp => exact (Reps.none _ _)); intro v467 w85 ho86 hb hg_ hnew_; clear hg_ hnew_; (first | rw [← Ny466.out] at ho86 | (simp only [Int.reduceToNat] at ho86; rw [← Ny466.out] at ho86)); have n_ := z (Kd.R_below (zr HO_5.out) hb) <| z (Kd.Q_elder' (zq HO_16.out) (Kd.R_base ho86) hb) <| z (Kd.R_elder' (zr HO_20.out) (Kd.R_base ho86) hb) <| z (Kd.Q_elder' (zq HO_22.out) (Kd.R_base ho86) hb) <| z (Kd.R_elder' (zr HO_27.out) (Kd.R_base ho86) hb) <| z (Kd.Q_elder' (zq HO_30.out) (Kd.R_base ho86) hb) <| z (Kd.R_below (zr HO_35.out) hb) <| z (Kd.R_lower (Kd.R_new' (Kd.R_new' (Kd.R_new' (Kd.R_new' (Kd.R_new' ho86 (Kd.Q_lt (zq HO_16.out))) (Kd.R_lt (zr HO_20.out))) (Kd.Q_lt (zq HO_22.out))) (Kd.R_lt (zr HO_27.out))) (Kd.Q_lt (zq HO_30.out))) (below_size zh_)) <| z (blk_below (g := gb422) (o := .cells #[.int .i64 t420, .int .i64 t421] 32 (0, 0)) (zb BK422.out) hb) <| z1 (below_step zh_ hb); clear HO_5 HO_16 HO_20 HO_22 HO_27 HO_30 HO_35 BK422 HB; obtain ⟨HO_5, HO_16, HO_20, HO_22, HO_27, HO_30, HO_35, HO468, BK422, HB⟩ := n_; clear hb ho86) | ((with_reducible refine gate_builtin (b := .append) (xs := #[.tmp 215, .tmp 216]) rfl ?_); (try (refine gate_guard (by rfl) ?_; dsimp only)); at_builtin; refine Kd.R_append_rows (Kd.int .i64) (w0 := w) w.heap.size rfl (.tmp 215) (.tmp 216) 24 3 (.int .i64 0) 8 rfl Try.underlying24 info3 rfl (by decide) (by omega) v467 y466 t417 _ _ _ (fun k_ => some k_ ≠ (.slice Ao30 t417.length co30 : Value).ownBlock ∧ some k_ ≠ (v428 : Value).ownBlock ∧ some k_ ≠ (.slice Ao35 t431.length co35 : Value).ownBlock ∧ some k_ ≠ (v443 : Value).ownBlock ∧ some k_ ≠ (.slice Ao39 t445.length co39 : Value).ownBlock) (fun _ => False) rfl rfl ?aO ?aR (fun _ _ h => h) (fun _ h => h.elim) ?aF ?aB ?aS ?aL ?_; (case aR => repeat (first | exact (Kd.Q_reads' HO_16.out).2.2 | (with_reducible refine cA ?_ _) | (with_reducible refine cN ?_ _) | (with_reducible refine cD ?_))); (case aB => exact zdd_); (case aF => exact (fun k_ hk => ⟨Kd.fresh' (Kd.Q_lt (zq HO_16.out)) k_ hk, Kd.fresh' (Kd.R_lt (zr HO_20.out)) k_ hk, Kd.fresh' (Kd.Q_lt (zq HO_22.out)) k_ hk, Kd.fresh' (Kd.R_lt (zr HO_27.out)) k_ hk, Kd.fresh' (Kd.Q_lt (zq HO_30.out)) k_ hk⟩)); (case aO => exact (by refine zr ?_; exact Kd.R_mono HO468.out (fun _ hk => ⟨hk.1.1.1.1.2, ⟨hk.1.1.1.2, ⟨hk.1.1.2, ⟨hk.1.2, hk.2⟩⟩⟩⟩))); (case aS => exact zde_); (case aL => have := LMc81.out; omega); intro v470 w87 ho hb hg hat; rw [← Ny469.out] at ho; have n_ := z (Kd.R_over' (zr HO_5.out) (Kd.R_typed (zr HO468.out)) (by decide) hg) <| z (Kd.Q_after (ok := (fun k_ => some k_ ≠ (v428 : Value).ownBlock ∧ some k_ ≠ (.slice Ao35 t431.length co35 : Value).ownBlock ∧ some k_ ≠ (v443 : Value).ownBlock ∧ some k_ ≠ (.slice Ao39 t445.length co39 : Value).ownBlock)) (zq HO_16.out) hg hat) <| z (Kd.R_after (ok := (fun k_ => some k_ ≠ (.slice Ao30 t417.length co30 : Value).ownBlock ∧ some k_ ≠ (.slice Ao35 t431.length co35 : Value).ownBlock ∧ some k_ ≠ (v443 : Value).ownBlock ∧ some k_ ≠ (.slice Ao39 t445.length co39 : Value).ownBlock)) (zr HO_20.out) hg hat) <| z (Kd.Q_after (ok := (fun k_ => some k_ ≠ (.slice Ao30 t417.length co30 : Value).ownBlock ∧ some k_ ≠ (v428 : Value).ownBlock ∧ some k_ ≠ (v443 : Value).ownBlock ∧ some k_ ≠ (.slice Ao39 t445.length co39 : Value).ownBlock)) (zq HO_22.out) hg hat) <| z (Kd.R_after (ok := (fun k_ => some k_ ≠ (.slice Ao30 t417.length co30 : Value).ownBlock ∧ some k_ ≠ (v428 : Value).ownBlock ∧ some k_ ≠ (.slice Ao35 t431.length co35 : Value).ownBlock ∧ some k_ ≠ (.slice Ao39 t445.length co39 : Value).ownBlock)) (zr HO_27.out) hg hat) <| z (Kd.Q_after (ok := (fun k_ => some k_ ≠ (.slice Ao30 t417.length co30 : Value).ownBlock ∧ some k_ ≠ (v428 : Value).ownBlock ∧ some k_ ≠ (.slice Ao35 t431.length co35 : Value).ownBlock ∧ some k_ ≠ (v443 : Value).ownBlock)) (zq HO_30.out) hg hat) <| z (Kd.R_over' (zr HO_35.out) (Kd.R_typed (zr HO468.out)) (by decide) hg) <| z (blk_grown (g := gb422) (o := .cells #[.int .i64 t420, .int .i64 t421] 32 (0, 0)) (zb BK422.out) hg (Kd.R_ne HO468.out BK422.out (by decide))) <| z (hb) <| z1 (ho); clear HO_5 HO_16 HO_20 HO_22 HO_27 HO_30 HO_35 BK422 HB HO468; obtain ⟨HO_5, HO_16, HO_20, HO_22, HO_27, HO_30, HO_35, BK422, HB, HO471⟩ := n_; clear ho hb hg hat) | ((with_reducible refine gate_dst (N := 219) rfl ?_); (try (refine gate_guard (by rfl) ?_; dsimp only)); refine Kd.R_lit (Kd.int .i64) _ 3 ?hg (N := 219) ?hd (xs := ([x36_3] : List Int)) (inner := [.int .i64 x36_3]) (ok := fun _ => True) (okp := fun _ => True) ?hr ?hp (fun _ hk => hk) trivial (Below.refl _ _) (Nat.le_refl _) (by simp) ?_; (case hd => rfl); (case hg => rfl); (case hr => exact zf_); (case hp => exact (Reps.one (show Kd.M (Kd.int .i64) _ _ _ x36_3 [.int .i64 x36_3] from rfl) (Reps.none _ _))); intro v473 w88 ho89 hb hg_ hnew_; clear hg_ hnew_; (first | rw [← Ny472.out] at ho89 | (simp only [Int.reduceToNat] at ho89; rw [← Ny472.out] at ho89)); have n_ := z (Kd.R_below (zr HO_5.out) hb) <| z (Kd.Q_elder' (zq HO_16.out) (Kd.R_base ho89) hb) <| z (Kd.R_elder' (zr HO_20.out) (Kd.R_base ho89) hb) <| z (Kd.Q_elder' (zq HO_22.out) (Kd.R_base ho89) hb) <| z (Kd.R_elder' (zr HO_27.out) (Kd.R_base ho89) hb) <| z (Kd.Q_elder' (zq HO_30.out) (Kd.R_base ho89) hb) <| z (Kd.R_below (zr HO_35.out) hb) <| z (Kd.R_elder' (zr HO471.out) (Kd.R_base ho89) hb) <| z (Kd.R_lower (Kd.R_new' (Kd.R_new' (Kd.R_new' (Kd.R_new' (Kd.R_new' (Kd.R_new' ho89 (Kd.Q_lt (zq HO_16.out))) (Kd.R_lt (zr HO_20.out))) (Kd.Q_lt (zq HO_22.out))) (Kd.R_lt (zr HO_27.out))) (Kd.Q_lt (zq HO_30.out))) (Kd.R_lt (zr HO471.out))) (below_size zh_)) <| z (blk_below (g := gb422) (o := .cells #[.int .i64 t420, .int .i64 t421] 32 (0, 0)) (zb BK422.out) hb) <| z1 (below_step zh_ hb); clear HO_5 HO_16 HO_20 HO_22 HO_27 HO_30 HO_35 HO471 BK422 HB; obtain ⟨HO_5, HO_16, HO_20, HO_22, HO_27, HO_30, HO_35, HO471, HO474, BK422, HB⟩ := n_; clear hb ho89; obtain ⟨Ao91, co91, eo91⟩ := Kd.R_slice HO474.out; subst eo91) | ((with_reducible refine gate_builtin (b := .append) (xs := #[.tmp 217, .tmp 219]) rfl ?_); (try (refine gate_guard (by rfl) ?_; dsimp only)); at_builtin; refine Kd.R_append_rows (Kd.int .i64) (w0 := w) w.heap.size rfl (.tmp 217) (.tmp 219) 24 3 (.int .i64 0) 8 rfl Try.underlying24 info3 rfl (by decide) (by omega) v470 y469 y472 _ _ _ (fun k_ => some k_ ≠ (.slice Ao30 t417.length co30 : Value).ownBlock ∧ some k_ ≠ (v428 : Value).ownBlock ∧ some k_ ≠ (.slice Ao35 t431.length co35 : Value).ownBlock ∧ some k_ ≠ (v443 : Value).ownBlock ∧ some k_ ≠ (.slice Ao39 t445.length co39 : Value).ownBlock ∧ some k_ ≠ (.slice Ao91 y472.length co91 : Value).ownBlock) (fun _ => False) rfl rfl ?aO ?aR (fun _ _ h => h) (fun _ h => h.elim) ?aF ?aB ?aS ?aL ?_; (case aR => repeat (first | exact (Kd.R_reads' HO474.out).2.2 | (with_reducible refine cA ?_ _) | (with_reducible refine cN ?_ _) | (with_reducible refine cD ?_))); (case aB => exact zdd_); (case aF => exact (fun k_ hk => ⟨Kd.fresh' (Kd.Q_lt (zq HO_16.out)) k_ hk, Kd.fresh' (Kd.R_lt (zr HO_20.out)) k_ hk, Kd.fresh' (Kd.Q_lt (zq HO_22.out)) k_ hk, Kd.fresh' (Kd.R_lt (zr HO_27.out)) k_ hk, Kd.fresh' (Kd.Q_lt (zq HO_30.out)) k_ hk, Kd.fresh' (Kd.R_lt (zr HO474.out)) k_ hk⟩)); (case aO => exact (by refine zr ?_; exact Kd.R_mono HO471.out (fun _ hk => ⟨hk.1.1, ⟨hk.1.2.1, ⟨hk.1.2.2.1, ⟨hk.1.2.2.2.1, ⟨hk.1.2.2.2.2, hk.2⟩⟩⟩⟩⟩))); (case aS => exact zde_); (case aL => have := LMc82.out; omega); intro v476 w90 ho hb hg hat; rw [← Ny475.out] at ho; have n_ := z (Kd.R_over' (zr HO_5.out) (Kd.R_typed (zr HO471.out)) (by decide) hg) <| z (Kd.Q_after (ok := (fun k_ => some k_ ≠ (v428 : Value).ownBlock ∧ some k_ ≠ (.slice Ao35 t431.length co35 : Value).ownBlock ∧ some k_ ≠ (v443 : Value).ownBlock ∧ some k_ ≠ (.slice Ao39 t445.length co39 : Value).ownBlock ∧ some k_ ≠ (.slice Ao91 y472.length co91 : Value).ownBlock)) (by refine zq ?_; exact Kd.Q_mono HO_16.out (fun _ hk => ⟨⟨hk.1.1.1, ⟨hk.1.1.2.1, ⟨hk.1.1.2.2.1, ⟨hk.1.1.2.2.2, hk.2⟩⟩⟩⟩, hk.1.2⟩)) hg hat) <| z (Kd.R_after (ok := (fun k_ => some k_ ≠ (.slice Ao30 t417.length co30 : Value).ownBlock ∧ some k_ ≠ (.slice Ao35 t431.length co35 : Value).ownBlock ∧ some k_ ≠ (v443 : Value).ownBlock ∧ some k_ ≠ (.slice Ao39 t445.length co39 : Value).ownBlock ∧ some k_ ≠ (.slice Ao91 y472.length co91 : Value).ownBlock)) (by refine zr ?_; exact Kd.R_mono HO_20.out (fun _ hk => ⟨⟨hk.1.1.1, ⟨hk.1.1.2.1, ⟨hk.1.1.2.2.1, ⟨hk.1.1.2.2.2, hk.2⟩⟩⟩⟩, hk.1.2⟩)) hg hat) <| z (Kd.Q_after (ok := (fun k_ => some k_ ≠ (.slice Ao30 t417.length co30 : Value).ownBlock ∧ some k_ ≠ (v428 : Value).ownBlock ∧ some k_ ≠ (v443 : Value).ownBlock ∧ some k_ ≠ (.slice Ao39 t445.length co39 : Value).ownBlock ∧ some k_ ≠ (.slice Ao91 y472.length co91 : Value).ownBlock)) (by refine zq ?_; exact Kd.Q_mono HO_22.out (fun _ hk => ⟨⟨hk.1.1.1, ⟨hk.1.1.2.1, ⟨hk.1.1.2.2.1, ⟨hk.1.1.2.2.2, hk.2⟩⟩⟩⟩, hk.1.2⟩)) hg hat) <| z (Kd.R_after (ok := (fun k_ => some k_ ≠ (.slice Ao30 t417.length co30 : Value).ownBlock ∧ some k_ ≠ (v428 : Value).ownBlock ∧ some k_ ≠ (.slice Ao35 t431.length co35 : Value).ownBlock ∧ some k_ ≠ (.slice Ao39 t445.length co39 : Value).ownBlock ∧ some k_ ≠ (.slice Ao91 y472.length co91 : Value).ownBlock)) (by refine zr ?_; exact Kd.R_mono HO_27.out (fun _ hk => ⟨⟨hk.1.1.1, ⟨hk.1.1.2.1, ⟨hk.1.1.2.2.1, ⟨hk.1.1.2.2.2, hk.2⟩⟩⟩⟩, hk.1.2⟩)) hg hat) <| z (Kd.Q_after (ok := (fun k_ => some k_ ≠ (.slice Ao30 t417.length co30 : Value).ownBlock ∧ some k_ ≠ (v428 : Value).ownBlock ∧ some k_ ≠ (.slice Ao35 t431.length co35 : Value).ownBlock ∧ some k_ ≠ (v443 : Value).ownBlock ∧ some k_ ≠ (.slice Ao91 y472.length co91 : Value).ownBlock)) (by refine zq ?_; exact Kd.Q_mono HO_30.out (fun _ hk => ⟨⟨hk.1.1.1, ⟨hk.1.1.2.1, ⟨hk.1.1.2.2.1, ⟨hk.1.1.2.2.2, hk.2⟩⟩⟩⟩, hk.1.2⟩)) hg hat) <| z (Kd.R_over' (zr HO_35.out) (Kd.R_typed (zr HO471.out)) (by decide) hg) <| z (blk_grown (g := gb422) (o := .cells #[.int .i64 t420, .int .i64 t421] 32 (0, 0)) (zb BK422.out) hg (Kd.R_ne HO471.out BK422.out (by decide))) <| z (Kd.R_after (ok := (fun k_ => some k_ ≠ (.slice Ao30 t417.length co30 : Value).ownBlock ∧ some k_ ≠ (v428 : Value).ownBlock ∧ some k_ ≠ (.slice Ao35 t431.length co35 : Value).ownBlock ∧ some k_ ≠ (v443 : Value).ownBlock ∧ some k_ ≠ (.slice Ao39 t445.length co39 : Value).ownBlock)) (by refine zr ?_; exact Kd.R_mono HO474.out (fun _ hk => ⟨⟨hk.1.1.1.1.1.2, ⟨hk.1.1.1.1.2, ⟨hk.1.1.1.2, ⟨hk.1.1.2, hk.1.2⟩⟩⟩⟩, hk.2⟩)) hg hat) <| z (hb) <| z1 (ho); clear HO_5 HO_16 HO_20 HO_22 HO_27 HO_30 HO_35 BK422 HO474 HB HO471; obtain ⟨HO_5, HO_16, HO_20, HO_22, HO_27, HO_30, HO_35, BK422, HO474, HB, HO477⟩ := n_; clear ho hb hg hat; obtain ⟨Ao92, co92, eo92⟩ := Kd.R_slice HO_35.out; subst eo92; obtain ⟨Ao93, co93, eo93⟩ := Kd.R_slice HO477.out; subst eo93) | ((with_reducible refine gate_callee (f := 10) rfl ?_); refine goesL_ (some 221) rfl rfl Try.func10 (by kernel_rfl) rfl #[.slice Ao92 y463.length co92, .slice Ao93 y475.length co93] rfl zd_ ?_; (with_reducible refine (impl_IsRouting.calls k3 _ _ y463 _ _ y475 t478 t479 _ ?side1 ?side2 ?side3 ?side4 A83.out).mono ?_); (case side1 => repeat (first | exact (Kd.R_reads' HO_35.out).2.2 | (with_reducible refine cA ?_ _) | (with_reducible refine cN ?_ _) | (with_reducible refine cD ?_))); (case side2 => exact (Kd.R_reads' HO_35.out).2.1); (case side3 => repeat (first | exact (Kd.R_reads' HO477.out).2.2 | (with_reducible refine cA ?_ _) | (with_reducible refine cN ?_ _) | (with_reducible refine cD ?_))); (case side4 => exact (Kd.R_reads' HO477.out).2.1); rintro e w94 ⟨rfl, hb⟩; refine ⟨_, rfl, ?_⟩; have n_ := z (Kd.R_below (zr HO_5.out) hb) <| z (Kd.Q_below (zq HO_16.out) hb) <| z (Kd.R_below (zr HO_20.out) hb) <| z (Kd.Q_below (zq HO_22.out) hb) <| z (Kd.R_below (zr HO_27.out) hb) <| z (Kd.Q_below (zq HO_30.out) hb) <| z (Kd.R_below (zr HO_35.out) hb) <| z (Kd.R_below (zr HO474.out) hb) <| z (Kd.R_below (zr HO477.out) hb) <| z (blk_below (g := gb422) (o := .cells #[.int .i64 t420, .int .i64 t421] 32 (0, 0)) (zb BK422.out) hb) <| z1 (below_step zh_ hb); clear HO_5 HO_16 HO_20 HO_22 HO_27 HO_30 HO_35 HO474 HO477 BK422 HB; obtain ⟨HO_5, HO_16, HO_20, HO_22, HO_27, HO_30, HO_35, HO474, HO477, BK422, HB⟩ := n_; (try clear hb)))
                    (try simp only [Act.put, sI, s0, sS])
                    go_cut [39, 40] (fun v39 v40 wc => ∃ (kq : Nat) (x39_83 : Bool) (x40_83 : Bool), v39 = .bool x39_83 ∧ v40 = .bool x40_83 ∧ Aside0 (laws_FnTracks.j3 kq t400 t411 t412 t417 t427 t431 t432 t437 t440 t441 t445 t449 t450 y463 x36_3 t478 t479 x39_83 x40_83 = some r) ∧ Aside0 (kq ≤ k3) ∧ Aside0 (Kd.R k32 32 wc w.heap.size (fun k_ => some k_ ≠ ((.slice Ao92 y463.length co92) : Value).ownBlock ∧ k_ ≠ gb422) (.slice Ao20 t400.length co20) t400) ∧ Aside0 (Kd.Q (Kd.int .i64) 3 wc w.heap.size (fun k_ => some k_ ≠ (v428 : Value).ownBlock ∧ some k_ ≠ ((.slice Ao35 t431.length co35) : Value).ownBlock ∧ some k_ ≠ (v443 : Value).ownBlock ∧ some k_ ≠ ((.slice Ao39 t445.length co39) : Value).ownBlock) (.slice Ao30 t417.length co30) t417) ∧ Aside0 (Kd.R (Kd.int .i64) 3 wc w.heap.size (fun k_ => some k_ ≠ ((.slice Ao30 t417.length co30) : Value).ownBlock ∧ some k_ ≠ ((.slice Ao35 t431.length co35) : Value).ownBlock ∧ some k_ ≠ (v443 : Value).ownBlock ∧ some k_ ≠ ((.slice Ao39 t445.length co39) : Value).ownBlock) v428 t427) ∧ Aside0 (Kd.Q (Kd.int .i64) 3 wc w.heap.size (fun k_ => some k_ ≠ ((.slice Ao30 t417.length co30) : Value).ownBlock ∧ some k_ ≠ (v428 : Value).ownBlock ∧ some k_ ≠ (v443 : Value).ownBlock ∧ some k_ ≠ ((.slice Ao39 t445.length co39) : Value).ownBlock) (.slice Ao35 t431.length co35) t431) ∧ Aside0 (Kd.R (Kd.int .i64) 3 wc w.heap.size (fun k_ => some k_ ≠ ((.slice Ao30 t417.length co30) : Value).ownBlock ∧ some k_ ≠ (v428 : Value).ownBlock ∧ some k_ ≠ ((.slice Ao35 t431.length co35) : Value).ownBlock ∧ some k_ ≠ ((.slice Ao39 t445.length co39) : Value).ownBlock) v443 t440) ∧ Aside0 (Kd.Q (Kd.int .i64) 3 wc w.heap.size (fun k_ => some k_ ≠ ((.slice Ao30 t417.length co30) : Value).ownBlock ∧ some k_ ≠ (v428 : Value).ownBlock ∧ some k_ ≠ ((.slice Ao35 t431.length co35) : Value).ownBlock ∧ some k_ ≠ (v443 : Value).ownBlock) (.slice Ao39 t445.length co39) t445) ∧ Aside0 (Kd.R k32 32 wc w.heap.size (fun k_ => some k_ ≠ ((.slice Ao20 t400.length co20) : Value).ownBlock ∧ k_ ≠ gb422) (.slice Ao92 y463.length co92) y463) ∧ Aside0 (wc.heap[gb422]? = some (.cells #[.int .i64 t420, .int .i64 t421] 32 (0, 0))) ∧ Aside0 (Below w.heap.size w wc))
                    case first =>
                     as_aux_lemma =>
                      have H := HC84.out
                      clear HC84
                      obtain ⟨y480, hy480⟩ : ∃ y_ : List Int, y_ = (([] : List Int)) := ⟨_, rfl⟩
                      replace H : (if y480.length + t417.length < 17592186044416 then ((some (y480 ++ t417 : List Int)).bind fun y483 => ((some (([x36_3] : List Int) : List Int)).bind fun y486 => (if y483.length + y486.length < 17592186044416 then ((spec_IsRouting.f k3 y463 (y483 ++ y486)).bind fun bt492 => (laws_FnTracks.j3 k3 t400 t411 t412 t417 t427 t431 t432 t437 t440 t441 t445 t449 t450 y463 x36_3 t478 t479 bt492.1 bt492.2)) else (none)))) else (none)) = some r := by first | (rw [hy480]; with_reducible exact H) | (have H2_ := (oS _ _).symm.trans H; rw [hy480]; with_reducible exact H2_) | (have H2_ := (oS _ _).symm.trans H; with_reducible exact H2_) | with_reducible exact H | (rw [hy480]; exact H) | exact H
                      have Ny480 := aM hy480
                      clear hy480
                      by_cases c95 : y480.length + t417.length < 17592186044416
                      rotate_left
                      ·rw [if_neg c95] at H
                       exact absurd H (by simp)
                      rw [if_pos c95] at H
                      have LMc95 := aM c95
                      clear c95
                      obtain ⟨y483, hy483⟩ : ∃ y_ : List Int, y_ = (y480 ++ t417) := ⟨_, rfl⟩
                      replace H : ((some (([x36_3] : List Int) : List Int)).bind fun y486 => (if y483.length + y486.length < 17592186044416 then ((spec_IsRouting.f k3 y463 (y483 ++ y486)).bind fun bt492 => (laws_FnTracks.j3 k3 t400 t411 t412 t417 t427 t431 t432 t437 t440 t441 t445 t449 t450 y463 x36_3 t478 t479 bt492.1 bt492.2)) else (none))) = some r := by first | (rw [hy483]; with_reducible exact H) | (have H2_ := (oS _ _).symm.trans H; rw [hy483]; with_reducible exact H2_) | (have H2_ := (oS _ _).symm.trans H; with_reducible exact H2_) | with_reducible exact H | (rw [hy483]; exact H) | exact H
                      have Ny483 := aM hy483
                      clear hy483
                      obtain ⟨y486, hy486⟩ : ∃ y_ : List Int, y_ = (([x36_3] : List Int)) := ⟨_, rfl⟩
                      replace H : (if y483.length + y486.length < 17592186044416 then ((spec_IsRouting.f k3 y463 (y483 ++ y486)).bind fun bt492 => (laws_FnTracks.j3 k3 t400 t411 t412 t417 t427 t431 t432 t437 t440 t441 t445 t449 t450 y463 x36_3 t478 t479 bt492.1 bt492.2)) else (none)) = some r := by first | (rw [hy486]; with_reducible exact H) | (have H2_ := (oS _ _).symm.trans H; rw [hy486]; with_reducible exact H2_) | (have H2_ := (oS _ _).symm.trans H; with_reducible exact H2_) | with_reducible exact H | (rw [hy486]; exact H) | exact H
                      have Ny486 := aM hy486
                      clear hy486
                      by_cases c96 : y483.length + y486.length < 17592186044416
                      rotate_left
                      ·rw [if_neg c96] at H
                       exact absurd H (by simp)
                      rw [if_pos c96] at H
                      have LMc96 := aM c96
                      clear c96
                      obtain ⟨y489, hy489⟩ : ∃ y_ : List Int, y_ = (y483 ++ y486) := ⟨_, rfl⟩
                      replace H : ((spec_IsRouting.f k3 y463 y489).bind fun bt492 => (laws_FnTracks.j3 k3 t400 t411 t412 t417 t427 t431 t432 t437 t440 t441 t445 t449 t450 y463 x36_3 t478 t479 bt492.1 bt492.2)) = some r := by first | (rw [hy489]; with_reducible exact H) | (have H2_ := (oS _ _).symm.trans H; rw [hy489]; with_reducible exact H2_) | (have H2_ := (oS _ _).symm.trans H; with_reducible exact H2_) | with_reducible exact H | (rw [hy489]; exact H) | exact H
                      have Ny489 := aM hy489
                      clear hy489
                      replace H := oB.mp H
                      obtain ⟨⟨t492, t493⟩, A970, H⟩ := H
                      (try dsimp only at H)
                      have A97 := aM A970
                      clear A970
                      have H' := aM H
                      clear H
                      go_wp2_with (first | ((with_reducible refine gate_dst (N := 226) rfl ?_); (try (refine gate_guard (by rfl) ?_; dsimp only)); refine Kd.R_lit (Kd.int .i64) _ 3 ?hg (N := 226) ?hd (xs := ([] : List Int)) (inner := []) (ok := fun _ => True) (okp := fun _ => True) ?hr ?hp (fun _ hk => hk) trivial (Below.refl _ _) (Nat.le_refl _) (by simp) ?_; (case hd => rfl); (case hg => rfl); (case hr => exact zf_); (case hp => exact (Reps.none _ _)); intro v481 w98 ho99 hb hg_ hnew_; clear hg_ hnew_; (first | rw [← Ny480.out] at ho99 | (simp only [Int.reduceToNat] at ho99; rw [← Ny480.out] at ho99)); have n_ := z (Kd.R_below (zr HO_5.out) hb) <| z (Kd.Q_elder' (zq HO_16.out) (Kd.R_base ho99) hb) <| z (Kd.R_elder' (zr HO_20.out) (Kd.R_base ho99) hb) <| z (Kd.Q_elder' (zq HO_22.out) (Kd.R_base ho99) hb) <| z (Kd.R_elder' (zr HO_27.out) (Kd.R_base ho99) hb) <| z (Kd.Q_elder' (zq HO_30.out) (Kd.R_base ho99) hb) <| z (Kd.R_below (zr HO_35.out) hb) <| z (Kd.R_elder' (zr HO474.out) (Kd.R_base ho99) hb) <| z (Kd.R_elder' (zr HO477.out) (Kd.R_base ho99) hb) <| z (Kd.R_lower (Kd.R_new' (Kd.R_new' (Kd.R_new' (Kd.R_new' (Kd.R_new' (Kd.R_new' (Kd.R_new' ho99 (Kd.Q_lt (zq HO_16.out))) (Kd.R_lt (zr HO_20.out))) (Kd.Q_lt (zq HO_22.out))) (Kd.R_lt (zr HO_27.out))) (Kd.Q_lt (zq HO_30.out))) (Kd.R_lt (zr HO474.out))) (Kd.R_lt (zr HO477.out))) (below_size zh_)) <| z (blk_below (g := gb422) (o := .cells #[.int .i64 t420, .int .i64 t421] 32 (0, 0)) (zb BK422.out) hb) <| z1 (below_step zh_ hb); clear HO_5 HO_16 HO_20 HO_22 HO_27 HO_30 HO_35 HO474 HO477 BK422 HB; obtain ⟨HO_5, HO_16, HO_20, HO_22, HO_27, HO_30, HO_35, HO474, HO477, HO482, BK422, HB⟩ := n_; clear hb ho99) | ((with_reducible refine gate_builtin (b := .append) (xs := #[.tmp 226, .tmp 227]) rfl ?_); (try (refine gate_guard (by rfl) ?_; dsimp only)); at_builtin; refine Kd.R_append_rows (Kd.int .i64) (w0 := w) w.heap.size rfl (.tmp 226) (.tmp 227) 24 3 (.int .i64 0) 8 rfl Try.underlying24 info3 rfl (by decide) (by omega) v481 y480 t417 _ _ _ (fun k_ => some k_ ≠ (.slice Ao30 t417.length co30 : Value).ownBlock ∧ some k_ ≠ (v428 : Value).ownBlock ∧ some k_ ≠ (.slice Ao35 t431.length co35 : Value).ownBlock ∧ some k_ ≠ (v443 : Value).ownBlock ∧ some k_ ≠ (.slice Ao39 t445.length co39 : Value).ownBlock ∧ some k_ ≠ (.slice Ao91 y472.length co91 : Value).ownBlock ∧ some k_ ≠ (.slice Ao93 y475.length co93 : Value).ownBlock) (fun _ => False) rfl rfl ?aO ?aR (fun _ _ h => h) (fun _ h => h.elim) ?aF ?aB ?aS ?aL ?_; (case aR => repeat (first | exact (Kd.Q_reads' HO_16.out).2.2 | (with_reducible refine cA ?_ _) | (with_reducible refine cN ?_ _) | (with_reducible refine cD ?_))); (case aB => exact zdd_); (case aF => exact (fun k_ hk => ⟨Kd.fresh' (Kd.Q_lt (zq HO_16.out)) k_ hk, Kd.fresh' (Kd.R_lt (zr HO_20.out)) k_ hk, Kd.fresh' (Kd.Q_lt (zq HO_22.out)) k_ hk, Kd.fresh' (Kd.R_lt (zr HO_27.out)) k_ hk, Kd.fresh' (Kd.Q_lt (zq HO_30.out)) k_ hk, Kd.fresh' (Kd.R_lt (zr HO474.out)) k_ hk, Kd.fresh' (Kd.R_lt (zr HO477.out)) k_ hk⟩)); (case aO => exact (by refine zr ?_; exact Kd.R_mono HO482.out (fun _ hk => ⟨hk.1.1.1.1.1.1.2, ⟨hk.1.1.1.1.1.2, ⟨hk.1.1.1.1.2, ⟨hk.1.1.1.2, ⟨hk.1.1.2, ⟨hk.1.2, hk.2⟩⟩⟩⟩⟩⟩))); (case aS => exact zde_); (case aL => have := LMc95.out; omega); intro v484 w100 ho hb hg hat; rw [← Ny483.out] at ho; have n_ := z (Kd.R_over' (zr HO_5.out) (Kd.R_typed (zr HO482.out)) (by decide) hg) <| z (Kd.Q_after (ok := (fun k_ => some k_ ≠ (v428 : Value).ownBlock ∧ some k_ ≠ (.slice Ao35 t431.length co35 : Value).ownBlock ∧ some k_ ≠ (v443 : Value).ownBlock ∧ some k_ ≠ (.slice Ao39 t445.length co39 : Value).ownBlock ∧ some k_ ≠ (.slice Ao91 y472.length co91 : Value).ownBlock ∧ some k_ ≠ (.slice Ao93 y475.length co93 : Value).ownBlock)) (by refine zq ?_; exact Kd.Q_mono HO_16.out (fun _ hk => ⟨⟨hk.1.1.1, ⟨hk.1.1.2.1, ⟨hk.1.1.2.2.1, ⟨hk.1.1.2.2.2.1, ⟨hk.1.1.2.2.2.2, hk.1.2⟩⟩⟩⟩⟩, hk.2⟩)) hg hat) <| z (Kd.R_after (ok := (fun k_ => some k_ ≠ (.slice Ao30 t417.length co30 : Value).ownBlock ∧ some k_ ≠ (.slice Ao35 t431.length co35 : Value).ownBlock ∧ some k_ ≠ (v443 : Value).ownBlock ∧ some k_ ≠ (.slice Ao39 t445.length co39 : Value).ownBlock ∧ some k_ ≠ (.slice Ao91 y472.length co91 : Value).ownBlock ∧ some k_ ≠ (.slice Ao93 y475.length co93 : Value).ownBlock)) (by refine zr ?_; exact Kd.R_mono HO_20.out (fun _ hk => ⟨⟨hk.1.1.1, ⟨hk.1.1.2.1, ⟨hk.1.1.2.2.1, ⟨hk.1.1.2.2.2.1, ⟨hk.1.1.2.2.2.2, hk.1.2⟩⟩⟩⟩⟩, hk.2⟩)) hg hat) <| z (Kd.Q_after (ok := (fun k_ => some k_ ≠ (.slice Ao30 t417.length co30 : Value).ownBlock ∧ some k_ ≠ (v428 : Value).ownBlock ∧ some k_ ≠ (v443 : Value).ownBlock ∧ some k_ ≠ (.slice Ao39 t445.length co39 : Value).ownBlock ∧ some k_ ≠ (.slice Ao91 y472.length co91 : Value).ownBlock ∧ some k_ ≠ (.slice Ao93 y475.length co93 : Value).ownBlock)) (by refine zq ?_; exact Kd.Q_mono HO_22.out (fun _ hk => ⟨⟨hk.1.1.1, ⟨hk.1.1.2.1, ⟨hk.1.1.2.2.1, ⟨hk.1.1.2.2.2.1, ⟨hk.1.1.2.2.2.2, hk.1.2⟩⟩⟩⟩⟩, hk.2⟩)) hg hat) <| z (Kd.R_after (ok := (fun k_ => some k_ ≠ (.slice Ao30 t417.length co30 : Value).ownBlock ∧ some k_ ≠ (v428 : Value).ownBlock ∧ some k_ ≠ (.slice Ao35 t431.length co35 : Value).ownBlock ∧ some k_ ≠ (.slice Ao39 t445.length co39 : Value).ownBlock ∧ some k_ ≠ (.slice Ao91 y472.length co91 : Value).ownBlock ∧ some k_ ≠ (.slice Ao93 y475.length co93 : Value).ownBlock)) (by refine zr ?_; exact Kd.R_mono HO_27.out (fun _ hk => ⟨⟨hk.1.1.1, ⟨hk.1.1.2.1, ⟨hk.1.1.2.2.1, ⟨hk.1.1.2.2.2.1, ⟨hk.1.1.2.2.2.2, hk.1.2⟩⟩⟩⟩⟩, hk.2⟩)) hg hat) <| z (Kd.Q_after (ok := (fun k_ => some k_ ≠ (.slice Ao30 t417.length co30 : Value).ownBlock ∧ some k_ ≠ (v428 : Value).ownBlock ∧ some k_ ≠ (.slice Ao35 t431.length co35 : Value).ownBlock ∧ some k_ ≠ (v443 : Value).ownBlock ∧ some k_ ≠ (.slice Ao91 y472.length co91 : Value).ownBlock ∧ some k_ ≠ (.slice Ao93 y475.length co93 : Value).ownBlock)) (by refine zq ?_; exact Kd.Q_mono HO_30.out (fun _ hk => ⟨⟨hk.1.1.1, ⟨hk.1.1.2.1, ⟨hk.1.1.2.2.1, ⟨hk.1.1.2.2.2.1, ⟨hk.1.1.2.2.2.2, hk.1.2⟩⟩⟩⟩⟩, hk.2⟩)) hg hat) <| z (Kd.R_over' (zr HO_35.out) (Kd.R_typed (zr HO482.out)) (by decide) hg) <| z (blk_grown (g := gb422) (o := .cells #[.int .i64 t420, .int .i64 t421] 32 (0, 0)) (zb BK422.out) hg (Kd.R_ne HO482.out BK422.out (by decide))) <| z (Kd.R_after (ok := (fun k_ => some k_ ≠ (.slice Ao30 t417.length co30 : Value).ownBlock ∧ some k_ ≠ (v428 : Value).ownBlock ∧ some k_ ≠ (.slice Ao35 t431.length co35 : Value).ownBlock ∧ some k_ ≠ (v443 : Value).ownBlock ∧ some k_ ≠ (.slice Ao39 t445.length co39 : Value).ownBlock ∧ some k_ ≠ (.slice Ao93 y475.length co93 : Value).ownBlock)) (by refine zr ?_; exact Kd.R_mono HO474.out (fun _ hk => ⟨⟨hk.1.1.1, ⟨hk.1.1.2.1, ⟨hk.1.1.2.2.1, ⟨hk.1.1.2.2.2.1, ⟨hk.1.1.2.2.2.2, hk.1.2⟩⟩⟩⟩⟩, hk.2⟩)) hg hat) <| z (Kd.R_after (ok := (fun k_ => some k_ ≠ (.slice Ao30 t417.length co30 : Value).ownBlock ∧ some k_ ≠ (v428 : Value).ownBlock ∧ some k_ ≠ (.slice Ao35 t431.length co35 : Value).ownBlock ∧ some k_ ≠ (v443 : Value).ownBlock ∧ some k_ ≠ (.slice Ao39 t445.length co39 : Value).ownBlock ∧ some k_ ≠ (.slice Ao91 y472.length co91 : Value).ownBlock)) (zr HO477.out) hg hat) <| z (hb) <| z1 (ho); clear HO_5 HO_16 HO_20 HO_22 HO_27 HO_30 HO_35 BK422 HO474 HO477 HB HO482; obtain ⟨HO_5, HO_16, HO_20, HO_22, HO_27, HO_30, HO_35, BK422, HO474, HO477, HB, HO485⟩ := n_; clear ho hb hg hat) | ((with_reducible refine gate_dst (N := 230) rfl ?_); (try (refine gate_guard (by rfl) ?_; dsimp only)); refine Kd.R_lit (Kd.int .i64) _ 3 ?hg (N := 230) ?hd (xs := ([x36_3] : List Int)) (inner := [.int .i64 x36_3]) (ok := fun _ => True) (okp := fun _ => True) ?hr ?hp (fun _ hk => hk) trivial (Below.refl _ _) (Nat.le_refl _) (by simp) ?_; (case hd => rfl); (case hg => rfl); (case hr => exact zf_); (case hp => exact (Reps.one (show Kd.M (Kd.int .i64) _ _ _ x36_3 [.int .i64 x36_3] from rfl) (Reps.none _ _))); intro v487 w101 ho102 hb hg_ hnew_; clear hg_ hnew_; (first | rw [← Ny486.out] at ho102 | (simp only [Int.reduceToNat] at ho102; rw [← Ny486.out] at ho102)); have n_ := z (Kd.R_below (zr HO_5.out) hb) <| z (Kd.Q_elder' (zq HO_16.out) (Kd.R_base ho102) hb) <| z (Kd.R_elder' (zr HO_20.out) (Kd.R_base ho102) hb) <| z (Kd.Q_elder' (zq HO_22.out) (Kd.R_base ho102) hb) <| z (Kd.R_elder' (zr HO_27.out) (Kd.R_base ho102) hb) <| z (Kd.Q_elder' (zq HO_30.out) (Kd.R_base ho102) hb) <| z (Kd.R_below (zr HO_35.out) hb) <| z (Kd.R_elder' (zr HO474.out) (Kd.R_base ho102) hb) <| z (Kd.R_elder' (zr HO477.out) (Kd.R_base ho102) hb) <| z (Kd.R_elder' (zr HO485.out) (Kd.R_base ho102) hb) <| z (Kd.R_lower (Kd.R_new' (Kd.R_new' (Kd.R_new' (Kd.R_new' (Kd.R_new' (Kd.R_new' (Kd.R_new' (Kd.R_new' ho102 (Kd.Q_lt (zq HO_16.out))) (Kd.R_lt (zr HO_20.out))) (Kd.Q_lt (zq HO_22.out))) (Kd.R_lt (zr HO_27.out))) (Kd.Q_lt (zq HO_30.out))) (Kd.R_lt (zr HO474.out))) (Kd.R_lt (zr HO477.out))) (Kd.R_lt (zr HO485.out))) (below_size zh_)) <| z (blk_below (g := gb422) (o := .cells #[.int .i64 t420, .int .i64 t421] 32 (0, 0)) (zb BK422.out) hb) <| z1 (below_step zh_ hb); clear HO_5 HO_16 HO_20 HO_22 HO_27 HO_30 HO_35 HO474 HO477 HO485 BK422 HB; obtain ⟨HO_5, HO_16, HO_20, HO_22, HO_27, HO_30, HO_35, HO474, HO477, HO485, HO488, BK422, HB⟩ := n_; clear hb ho102; obtain ⟨Ao104, co104, eo104⟩ := Kd.R_slice HO488.out; subst eo104) | ((with_reducible refine gate_builtin (b := .append) (xs := #[.tmp 228, .tmp 230]) rfl ?_); (try (refine gate_guard (by rfl) ?_; dsimp only)); at_builtin; refine Kd.R_append_rows (Kd.int .i64) (w0 := w) w.heap.size rfl (.tmp 228) (.tmp 230) 24 3 (.int .i64 0) 8 rfl Try.underlying24 info3 rfl (by decide) (by omega) v484 y483 y486 _ _ _ (fun k_ => some k_ ≠ (.slice Ao30 t417.length co30 : Value).ownBlock ∧ some k_ ≠ (v428 : Value).ownBlock ∧ some k_ ≠ (.slice Ao35 t431.length co35 : Value).ownBlock ∧ some k_ ≠ (v443 : Value).ownBlock ∧ some k_ ≠ (.slice Ao39 t445.length co39 : Value).ownBlock ∧ some k_ ≠ (.slice Ao91 y472.length co91 : Value).ownBlock ∧ some k_ ≠ (.slice Ao93 y475.length co93 : Value).ownBlock ∧ some k_ ≠ (.slice Ao104 y486.length co104 : Value).ownBlock) (fun _ => False) rfl rfl ?aO ?aR (fun _ _ h => h) (fun _ h => h.elim) ?aF ?aB ?aS ?aL ?_; (case aR => repeat (first | exact (Kd.R_reads' HO488.out).2.2 | (with_reducible refine cA ?_ _) | (with_reducible refine cN ?_ _) | (with_reducible refine cD ?_))); (case aB => exact zdd_); (case aF => exact (fun k_ hk => ⟨Kd.fresh' (Kd.Q_lt (zq HO_16.out)) k_ hk, Kd.fresh' (Kd.R_lt (zr HO_20.out)) k_ hk, Kd.fresh' (Kd.Q_lt (zq HO_22.out)) k_ hk, Kd.fresh' (Kd.R_lt (zr HO_27.out)) k_ hk, Kd.fresh' (Kd.Q_lt (zq HO_30.out)) k_ hk, Kd.fresh' (Kd.R_lt (zr HO474.out)) k_ hk, Kd.fresh' (Kd.R_lt (zr HO477.out)) k_ hk, Kd.fresh' (Kd.R_lt (zr HO488.out)) k_ hk⟩)); (case aO => exact (by refine zr ?_; exact Kd.R_mono HO485.out (fun _ hk => ⟨hk.1.1, ⟨hk.1.2.1, ⟨hk.1.2.2.1, ⟨hk.1.2.2.2.1, ⟨hk.1.2.2.2.2.1, ⟨hk.1.2.2.2.2.2.1, ⟨hk.1.2.2.2.2.2.2, hk.2⟩⟩⟩⟩⟩⟩⟩))); (case aS => exact zde_); (case aL => have := LMc96.out; omega); intro v490 w103 ho hb hg hat; rw [← Ny489.out] at ho; have n_ := z (Kd.R_over' (zr HO_5.out) (Kd.R_typed (zr HO485.out)) (by decide) hg) <| z (Kd.Q_after (ok := (fun k_ => some k_ ≠ (v428 : Value).ownBlock ∧ some k_ ≠ (.slice Ao35 t431.length co35 : Value).ownBlock ∧ some k_ ≠ (v443 : Value).ownBlock ∧ some k_ ≠ (.slice Ao39 t445.length co39 : Value).ownBlock ∧ some k_ ≠ (.slice Ao91 y472.length co91 : Value).ownBlock ∧ some k_ ≠ (.slice Ao93 y475.length co93 : Value).ownBlock ∧ some k_ ≠ (.slice Ao104 y486.length co104 : Value).ownBlock)) (by refine zq ?_; exact Kd.Q_mono HO_16.out (fun _ hk => ⟨⟨hk.1.1.1, ⟨hk.1.1.2.1, ⟨hk.1.1.2.2.1, ⟨hk.1.1.2.2.2.1, ⟨hk.1.1.2.2.2.2.1, ⟨hk.1.1.2.2.2.2.2, hk.2⟩⟩⟩⟩⟩⟩, hk.1.2⟩)) hg hat) <| z (Kd.R_after (ok := (fun k_ => some k_ ≠ (.slice Ao30 t417.length co30 : Value).ownBlock ∧ some k_ ≠ (.slice Ao35 t431.length co35 : Value).ownBlock ∧ some k_ ≠ (v443 : Value).ownBlock ∧ some k_ ≠ (.slice Ao39 t445.length co39 : Value).ownBlock ∧ some k_ ≠ (.slice Ao91 y472.length co91 : Value).ownBlock ∧ some k_ ≠ (.slice Ao93 y475.length co93 : Value).ownBlock ∧ some k_ ≠ (.slice Ao104 y486.length co104 : Value).ownBlock)) (by refine zr ?_; exact Kd.R_mono HO_20.out (fun _ hk => ⟨⟨hk.1.1.1, ⟨hk.1.1.2.1, ⟨hk.1.1.2.2.1, ⟨hk.1.1.2.2.2.1, ⟨hk.1.1.2.2.2.2.1, ⟨hk.1.1.2.2.2.2.2, hk.2⟩⟩⟩⟩⟩⟩, hk.1.2⟩)) hg hat) <| z (Kd.Q_after (ok := (fun k_ => some k_ ≠ (.slice Ao30 t417.length co30 : Value).ownBlock ∧ some k_ ≠ (v428 : Value).ownBlock ∧ some k_ ≠ (v443 : Value).ownBlock ∧ some k_ ≠ (.slice Ao39 t445.length co39 : Value).ownBlock ∧ some k_ ≠ (.slice Ao91 y472.length co91 : Value).ownBlock ∧ some k_ ≠ (.slice Ao93 y475.length co93 : Value).ownBlock ∧ some k_ ≠ (.slice Ao104 y486.length co104 : Value).ownBlock)) (by refine zq ?_; exact Kd.Q_mono HO_22.out (fun _ hk => ⟨⟨hk.1.1.1, ⟨hk.1.1.2.1, ⟨hk.1.1.2.2.1, ⟨hk.1.1.2.2.2.1, ⟨hk.1.1.2.2.2.2.1, ⟨hk.1.1.2.2.2.2.2, hk.2⟩⟩⟩⟩⟩⟩, hk.1.2⟩)) hg hat) <| z (Kd.R_after (ok := (fun k_ => some k_ ≠ (.slice Ao30 t417.length co30 : Value).ownBlock ∧ some k_ ≠ (v428 : Value).ownBlock ∧ some k_ ≠ (.slice Ao35 t431.length co35 : Value).ownBlock ∧ some k_ ≠ (.slice Ao39 t445.length co39 : Value).ownBlock ∧ some k_ ≠ (.slice Ao91 y472.length co91 : Value).ownBlock ∧ some k_ ≠ (.slice Ao93 y475.length co93 : Value).ownBlock ∧ some k_ ≠ (.slice Ao104 y486.length co104 : Value).ownBlock)) (by refine zr ?_; exact Kd.R_mono HO_27.out (fun _ hk => ⟨⟨hk.1.1.1, ⟨hk.1.1.2.1, ⟨hk.1.1.2.2.1, ⟨hk.1.1.2.2.2.1, ⟨hk.1.1.2.2.2.2.1, ⟨hk.1.1.2.2.2.2.2, hk.2⟩⟩⟩⟩⟩⟩, hk.1.2⟩)) hg hat) <| z (Kd.Q_after (ok := (fun k_ => some k_ ≠ (.slice Ao30 t417.length co30 : Value).ownBlock ∧ some k_ ≠ (v428 : Value).ownBlock ∧ some k_ ≠ (.slice Ao35 t431.length co35 : Value).ownBlock ∧ some k_ ≠ (v443 : Value).ownBlock ∧ some k_ ≠ (.slice Ao91 y472.length co91 : Value).ownBlock ∧ some k_ ≠ (.slice Ao93 y475.length co93 : Value).ownBlock ∧ some k_ ≠ (.slice Ao104 y486.length co104 : Value).ownBlock)) (by refine zq ?_; exact Kd.Q_mono HO_30.out (fun _ hk => ⟨⟨hk.1.1.1, ⟨hk.1.1.2.1, ⟨hk.1.1.2.2.1, ⟨hk.1.1.2.2.2.1, ⟨hk.1.1.2.2.2.2.1, ⟨hk.1.1.2.2.2.2.2, hk.2⟩⟩⟩⟩⟩⟩, hk.1.2⟩)) hg hat) <| z (Kd.R_over' (zr HO_35.out) (Kd.R_typed (zr HO485.out)) (by decide) hg) <| z (blk_grown (g := gb422) (o := .cells #[.int .i64 t420, .int .i64 t421] 32 (0, 0)) (zb BK422.out) hg (Kd.R_ne HO485.out BK422.out (by decide))) <| z (Kd.R_after (ok := (fun k_ => some k_ ≠ (.slice Ao30 t417.length co30 : Value).ownBlock ∧ some k_ ≠ (v428 : Value).ownBlock ∧ some k_ ≠ (.slice Ao35 t431.length co35 : Value).ownBlock ∧ some k_ ≠ (v443 : Value).ownBlock ∧ some k_ ≠ (.slice Ao39 t445.length co39 : Value).ownBlock ∧ some k_ ≠ (.slice Ao93 y475.length co93 : Value).ownBlock ∧ some k_ ≠ (.slice Ao104 y486.length co104 : Value).ownBlock)) (by refine zr ?_; exact Kd.R_mono HO474.out (fun _ hk => ⟨⟨hk.1.1.1, ⟨hk.1.1.2.1, ⟨hk.1.1.2.2.1, ⟨hk.1.1.2.2.2.1, ⟨hk.1.1.2.2.2.2.1, ⟨hk.1.1.2.2.2.2.2, hk.2⟩⟩⟩⟩⟩⟩, hk.1.2⟩)) hg hat) <| z (Kd.R_after (ok := (fun k_ => some k_ ≠ (.slice Ao30 t417.length co30 : Value).ownBlock ∧ some k_ ≠ (v428 : Value).ownBlock ∧ some k_ ≠ (.slice Ao35 t431.length co35 : Value).ownBlock ∧ some k_ ≠ (v443 : Value).ownBlock ∧ some k_ ≠ (.slice Ao39 t445.length co39 : Value).ownBlock ∧ some k_ ≠ (.slice Ao91 y472.length co91 : Value).ownBlock ∧ some k_ ≠ (.slice Ao104 y486.length co104 : Value).ownBlock)) (by refine zr ?_; exact Kd.R_mono HO477.out (fun _ hk => ⟨⟨hk.1.1.1, ⟨hk.1.1.2.1, ⟨hk.1.1.2.2.1, ⟨hk.1.1.2.2.2.1, ⟨hk.1.1.2.2.2.2.1, ⟨hk.1.1.2.2.2.2.2, hk.2⟩⟩⟩⟩⟩⟩, hk.1.2⟩)) hg hat) <| z (Kd.R_after (ok := (fun k_ => some k_ ≠ (.slice Ao30 t417.length co30 : Value).ownBlock ∧ some k_ ≠ (v428 : Value).ownBlock ∧ some k_ ≠ (.slice Ao35 t431.length co35 : Value).ownBlock ∧ some k_ ≠ (v443 : Value).ownBlock ∧ some k_ ≠ (.slice Ao39 t445.length co39 : Value).ownBlock ∧ some k_ ≠ (.slice Ao91 y472.length co91 : Value).ownBlock ∧ some k_ ≠ (.slice Ao93 y475.length co93 : Value).ownBlock)) (by refine zr ?_; exact Kd.R_mono HO488.out (fun _ hk => ⟨⟨hk.1.1.1.1.1.1.1.2, ⟨hk.1.1.1.1.1.1.2, ⟨hk.1.1.1.1.1.2, ⟨hk.1.1.1.1.2, ⟨hk.1.1.1.2, ⟨hk.1.1.2, hk.1.2⟩⟩⟩⟩⟩⟩, hk.2⟩)) hg hat) <| z (hb) <| z1 (ho); clear HO_5 HO_16 HO_20 HO_22 HO_27 HO_30 HO_35 BK422 HO474 HO477 HO488 HB HO485; obtain ⟨HO_5, HO_16, HO_20, HO_22, HO_27, HO_30, HO_35, BK422, HO474, HO477, HO488, HB, HO491⟩ := n_; clear ho hb hg hat; obtain ⟨Ao105, co105, eo105⟩ := Kd.R_slice HO491.out; subst eo105) | ((with_reducible refine gate_callee (f := 11) rfl ?_); refine goesL_ (some 232) rfl rfl Try.func11 (by kernel_rfl) rfl #[.slice Ao92 y463.length co92, .slice Ao105 y489.length co105] rfl zd_ ?_; (with_reducible refine (spec_IsRouting.calls k3 _ _ y463 _ _ y489 t492 t493 _ ?side1 ?side2 ?side3 ?side4 A97.out).mono ?_); (case side1 => repeat (first | exact (Kd.R_reads' HO_35.out).2.2 | (with_reducible refine cA ?_ _) | (with_reducible refine cN ?_ _) | (with_reducible refine cD ?_))); (case side2 => exact (Kd.R_reads' HO_35.out).2.1); (case side3 => repeat (first | exact (Kd.R_reads' HO491.out).2.2 | (with_reducible refine cA ?_ _) | (with_reducible refine cN ?_ _) | (with_reducible refine cD ?_))); (case side4 => exact (Kd.R_reads' HO491.out).2.1); rintro e w106 ⟨rfl, hb⟩; refine ⟨_, rfl, ?_⟩; have n_ := z (Kd.R_below (zr HO_5.out) hb) <| z (Kd.Q_below (zq HO_16.out) hb) <| z (Kd.R_below (zr HO_20.out) hb) <| z (Kd.Q_below (zq HO_22.out) hb) <| z (Kd.R_below (zr HO_27.out) hb) <| z (Kd.Q_below (zq HO_30.out) hb) <| z (Kd.R_below (zr HO_35.out) hb) <| z (Kd.R_below (zr HO474.out) hb) <| z (Kd.R_below (zr HO477.out) hb) <| z (Kd.R_below (zr HO488.out) hb) <| z (Kd.R_below (zr HO491.out) hb) <| z (blk_below (g := gb422) (o := .cells #[.int .i64 t420, .int .i64 t421] 32 (0, 0)) (zb BK422.out) hb) <| z1 (below_step zh_ hb); clear HO_5 HO_16 HO_20 HO_22 HO_27 HO_30 HO_35 HO474 HO477 HO488 HO491 BK422 HB; obtain ⟨HO_5, HO_16, HO_20, HO_22, HO_27, HO_30, HO_35, HO474, HO477, HO488, HO491, BK422, HB⟩ := n_; (try clear hb)))
                      go_meet
                      case rel => exact ⟨_, (t492), (t493), zc_, zc_, H', ⟨by have := HJ17.out; have := HJ64.out; have := HK3.out; first | omega | exact Nat.le_refl _⟩, ⟨zr HO_5.out⟩, ⟨by refine zq ?_; exact Kd.Q_mono HO_16.out (fun _ hk => ⟨hk.1.1, ⟨hk.1.2.1, ⟨hk.1.2.2.1, hk.1.2.2.2.1⟩⟩⟩)⟩, ⟨by refine zr ?_; exact Kd.R_mono HO_20.out (fun _ hk => ⟨hk.1.1, ⟨hk.1.2.1, ⟨hk.1.2.2.1, hk.1.2.2.2.1⟩⟩⟩)⟩, ⟨by refine zq ?_; exact Kd.Q_mono HO_22.out (fun _ hk => ⟨hk.1.1, ⟨hk.1.2.1, ⟨hk.1.2.2.1, hk.1.2.2.2.1⟩⟩⟩)⟩, ⟨by refine zr ?_; exact Kd.R_mono HO_27.out (fun _ hk => ⟨hk.1.1, ⟨hk.1.2.1, ⟨hk.1.2.2.1, hk.1.2.2.2.1⟩⟩⟩)⟩, ⟨by refine zq ?_; exact Kd.Q_mono HO_30.out (fun _ hk => ⟨hk.1.1, ⟨hk.1.2.1, ⟨hk.1.2.2.1, hk.1.2.2.2.1⟩⟩⟩)⟩, ⟨zr HO_35.out⟩, ⟨zb BK422.out⟩, ⟨zh_⟩⟩
                    case rest =>
                     as_aux_lemma =>
                      clear HC84
                      try clear c1
                      try clear c2
                      try clear p2
                      try clear c6
                      try clear p6
                      try clear c7
                      try clear c8
                      try clear c9
                      try clear c10
                      try clear c11
                      try clear p64
                      try clear c66
                      try clear c68
                      try clear c69
                      try clear c70
                      try clear c80
                      try clear c80b0
                      try clear c81
                      try clear c82
                      try clear c95
                      try clear c96
                      try clear hcz28_0
                      try clear hcz28_1
                      try clear hcz32_0
                      try clear hcz32_1
                      try clear hfz28_0
                      try clear hfz28_1
                      try clear hfz32_0
                      try clear hfz32_1
                      try clear p2
                      try clear p6
                      try clear p64
                      obtain ⟨kq, x39_83, x40_83, rfl, rfl, HA, HJ83, HO_5, HO_16, HO_20, HO_22, HO_27, HO_30, HO_35, BK422, HB⟩ := hcut
                      cases kq with
                      | zero => exact absurd HA.out (by simp [laws_FnTracks.j3])
                      | succ kj83 =>
                       have H := HA.out
                       clear HA
                       simp only [laws_FnTracks.j3] at H
                       by_cases c107 : (t479 != x40_83) = true
                       ·rw [if_pos c107] at H
                        exact absurd H (by simp)
                       rw [if_neg c107] at H
                       have c107b0 : (t479 != x40_83) = false := by simpa using c107
                       (try (have c107b1 : decide (t479 = x40_83) = true := by simpa using c107))
                       (try (have c107b2 : (t479 == x40_83) = true := by simpa using c107))
                       clear c107
                       by_cases c108 : (t478 != x39_83) = true
                       ·rw [if_pos c108] at H
                        exact absurd H (by simp)
                       rw [if_neg c108] at H
                       have c108b0 : (t478 != x39_83) = false := by simpa using c108
                       (try (have c108b1 : decide (t478 = x39_83) = true := by simpa using c108))
                       (try (have c108b2 : (t478 == x39_83) = true := by simpa using c108))
                       clear c108
                       by_cases c109 : x40_83 = true
                       ·subst c109
                        rw [if_pos rfl] at H
                        replace H := oB.mp H
                        obtain ⟨t494, A1100, H⟩ := H
                        (try dsimp only at H)
                        have A110 := aM A1100
                        clear A1100
                        by_cases c111 : t494 = true
                        ·subst c111
                         rw [if_pos rfl] at H
                         by_cases c112 : x39_83 = true
                         ·subst c112
                          rw [if_pos rfl] at H
                          have H' := aM H
                          clear H
                          obtain ⟨Ao113, co113, eo113⟩ := Kd.R_slice HO_20.out
                          subst eo113
                          go_wp2_with (first | (go_at_call 24; (with_reducible refine (laws_qHas.calls kj83 _ _ t427 x36_3 true _ ?side1 ?side2 A110.out).mono ?_); (case side1 => repeat (first | exact (Kd.R_reads' HO_20.out).2.2 | (with_reducible refine cA ?_ _) | (with_reducible refine cN ?_ _) | (with_reducible refine cD ?_))); (case side2 => exact (Kd.R_reads' HO_20.out).2.1); rintro e w' ⟨rfl, ⟨nd, rfl⟩⟩))
                          go_roundg kj83
                          case measure => have := HJ17.out; have := HJ64.out; have := HK3.out; have := HJ83.out; omega
                          case rel => exact ⟨(wrap64 (x36_3 + 1)), zc_, H', ⟨by have := HJ17.out; have := HJ64.out; have := HK3.out; have := HJ83.out; omega⟩, ⟨zr HO_5.out⟩, ⟨zq HO_16.out⟩, ⟨zr HO_20.out⟩, ⟨zq HO_22.out⟩, ⟨zr HO_27.out⟩, ⟨zq HO_30.out⟩, ⟨zr HO_35.out⟩, ⟨zb BK422.out⟩, ⟨zh_⟩⟩
                         ·replace c112 := Bool.eq_false_iff.mpr c112
                          subst c112
                          rw [if_neg (show ¬ (false = true) by decide)] at H
                          exact absurd H (by simp)
                        ·replace c111 := Bool.eq_false_iff.mpr c111
                         subst c111
                         rw [if_neg (show ¬ (false = true) by decide)] at H
                         have H' := aM H
                         clear H
                         obtain ⟨Ao114, co114, eo114⟩ := Kd.R_slice HO_20.out
                         subst eo114
                         go_wp2_with (first | (go_at_call 24; (with_reducible refine (laws_qHas.calls kj83 _ _ t427 x36_3 false _ ?side1 ?side2 A110.out).mono ?_); (case side1 => repeat (first | exact (Kd.R_reads' HO_20.out).2.2 | (with_reducible refine cA ?_ _) | (with_reducible refine cN ?_ _) | (with_reducible refine cD ?_))); (case side2 => exact (Kd.R_reads' HO_20.out).2.1); rintro e w' ⟨rfl, ⟨nd, rfl⟩⟩))
                         go_roundg kj83
                         case measure => have := HJ17.out; have := HJ64.out; have := HK3.out; have := HJ83.out; omega
                         case rel => exact ⟨(wrap64 (x36_3 + 1)), zc_, H', ⟨by have := HJ17.out; have := HJ64.out; have := HK3.out; have := HJ83.out; omega⟩, ⟨zr HO_5.out⟩, ⟨zq HO_16.out⟩, ⟨zr HO_20.out⟩, ⟨zq HO_22.out⟩, ⟨zr HO_27.out⟩, ⟨zq HO_30.out⟩, ⟨zr HO_35.out⟩, ⟨zb BK422.out⟩, ⟨zh_⟩⟩
                       ·replace c109 := Bool.eq_false_iff.mpr c109
                        subst c109
                        rw [if_neg (show ¬ (false = true) by decide)] at H
                        have H' := aM H
                        clear H
                        go_wp2
                        go_roundg kj83
                        case measure => have := HJ17.out; have := HJ64.out; have := HK3.out; have := HJ83.out; omega
                        case rel => exact ⟨(wrap64 (x36_3 + 1)), zc_, H', ⟨by have := HJ17.out; have := HJ64.out; have := HK3.out; have := HJ83.out; omega⟩, ⟨zr HO_5.out⟩, ⟨zq HO_16.out⟩, ⟨zr HO_20.out⟩, ⟨zq HO_22.out⟩, ⟨zr HO_27.out⟩, ⟨zq HO_30.out⟩, ⟨zr HO_35.out⟩, ⟨zb BK422.out⟩, ⟨zh_⟩⟩
                   ·rw [if_neg c80] at H
                    have c80b0 : decide (x36_3 < 20) = false := decide_eq_false c80
                    clear c80
                    (first | rw [c80b0] | (simp only [i64_w, i32_w]; rw [c80b0]) | skip)
                    have H' := aM H
                    clear H
                    go_wp2
                    go_meet
                    case rel => exact ⟨_, H', ⟨by have := HJ17.out; have := HJ64.out; have := HK3.out; first | omega | exact Nat.le_refl _⟩, ⟨by refine zr ?_; exact Kd.R_mono HO_5.out (fun _ hk => hk.2)⟩, ⟨by refine zq ?_; exact Kd.Q_mono HO_22.out (fun _ hk => ⟨hk.2.2.1, hk.2.2.2⟩)⟩, ⟨by refine zr ?_; exact Kd.R_mono HO_27.out (fun _ hk => ⟨hk.2.2.1, hk.2.2.2⟩)⟩, ⟨by refine zq ?_; exact Kd.Q_mono HO_30.out (fun _ hk => ⟨hk.2.2.1, hk.2.2.2⟩)⟩, ⟨zb BK422.out⟩, ⟨zh_⟩⟩
               ·replace c68 := Bool.eq_false_iff.mpr c68
                subst c68
                rw [if_neg (show ¬ (false = true) by decide)] at H
                have H' := aM H
                clear H
                go_wp2
                go_meet
                case rel => exact ⟨_, H', ⟨by have := HJ17.out; have := HJ64.out; first | omega | exact Nat.le_refl _⟩, ⟨by refine zr ?_; exact Kd.R_mono HO_5.out (fun _ hk => hk.2)⟩, ⟨by refine zq ?_; exact Kd.Q_mono HO_22.out (fun _ hk => ⟨hk.2.2.1, hk.2.2.2⟩)⟩, ⟨by refine zr ?_; exact Kd.R_mono HO_27.out (fun _ hk => ⟨hk.2.2.1, hk.2.2.2⟩)⟩, ⟨by refine zq ?_; exact Kd.Q_mono HO_30.out (fun _ hk => ⟨hk.2.2.1, hk.2.2.2⟩)⟩, ⟨zb BK422.out⟩, ⟨zh_⟩⟩
             case rest =>
              as_aux_lemma =>
               clear HC67
               try clear c1
               try clear c2
               try clear p2
               try clear c6
               try clear p6
               try clear c7
               try clear c8
               try clear c9
               try clear c10
               try clear c11
               try clear p64
               try clear c66
               try clear c68
               try clear c69
               try clear c70
               try clear c80
               try clear c80b0
               try clear c81
               try clear c82
               try clear c95
               try clear c96
               try clear c107
               try clear c107b0
               try clear c107b1
               try clear c107b2
               try clear c108
               try clear c108b0
               try clear c108b1
               try clear c108b2
               try clear c109
               try clear c111
               try clear c112
               try clear hcz28_0
               try clear hcz28_1
               try clear hcz32_0
               try clear hcz32_1
               try clear hfz28_0
               try clear hfz28_1
               try clear hfz32_0
               try clear hfz32_1
               try clear p2
               try clear p6
               try clear p64
               obtain ⟨kq, HA, HJ66, HO_5, HO_22, HO_27, HO_30, BK422, HB⟩ := hcut
               cases kq with
               | zero => exact absurd HA.out (by simp [laws_FnTracks.j4])
               | succ kj66 =>
                have H := HA.out
                clear HA
                simp only [laws_FnTracks.j4] at H
                have HC115 := aM H
                clear H
                go_upto_if 255 with (fail)
                go_cut [] (fun wc => ∃ (kq : Nat), Aside0 (laws_FnTracks.j6 kq t400 t411 t412 t445 t449 t450 = some r) ∧ Aside0 (kq ≤ kj66) ∧ Aside0 (Kd.R k32 32 wc w.heap.size (fun k_ => k_ ≠ gb422) (.slice Ao20 t400.length co20) t400) ∧ Aside0 (Kd.Q (Kd.int .i64) 3 wc w.heap.size (fun _ => True) (.slice Ao39 t445.length co39) t445) ∧ Aside0 (wc.heap[gb422]? = some (.cells #[.int .i64 t420, .int .i64 t421] 32 (0, 0))) ∧ Aside0 (Below w.heap.size w wc))
                case first =>
                 as_aux_lemma =>
                  have H := HC115.out
                  clear HC115
                  by_cases c116 : t437 = true
                  ·subst c116
                   rw [if_pos rfl] at H
                   have H' := aM H
                   clear H
                   obtain ⟨Ao117, co117, eo117⟩ := Kd.R_slice HO_27.out
                   subst eo117
                   go_wp2
                   go_loopg [258] kj66 (fun kq v258 w' => ∃ (x258_4 : Int), v258 = .int .i64 x258_4 ∧ Aside0 (laws_FnTracks.l1 kq t400 t411 t412 t431 t432 t441 t445 t449 t450 t440 (t440.length : Int) x258_4 = some r) ∧ Aside0 (kq ≤ kj66) ∧ Aside0 (Kd.R k32 32 w' w.heap.size (fun k_ => k_ ≠ gb422) (.slice Ao20 t400.length co20) t400) ∧ Aside0 (Kd.Q (Kd.int .i64) 3 w' w.heap.size (fun k_ => some k_ ≠ ((.slice Ao39 t445.length co39) : Value).ownBlock ∧ some k_ ≠ ((.slice Ao117 t440.length co117) : Value).ownBlock) (.slice Ao35 t431.length co35) t431) ∧ Aside0 (Kd.Q (Kd.int .i64) 3 w' w.heap.size (fun k_ => some k_ ≠ ((.slice Ao35 t431.length co35) : Value).ownBlock ∧ some k_ ≠ ((.slice Ao117 t440.length co117) : Value).ownBlock) (.slice Ao39 t445.length co39) t445) ∧ Aside0 (Kd.R (Kd.int .i64) 3 w' w.heap.size (fun k_ => some k_ ≠ ((.slice Ao35 t431.length co35) : Value).ownBlock ∧ some k_ ≠ ((.slice Ao39 t445.length co39) : Value).ownBlock) (.slice Ao117 t440.length co117) t440) ∧ Aside0 (w'.heap[gb422]? = some (.cells #[.int .i64 t420, .int .i64 t421] 32 (0, 0))) ∧ Aside0 (Below w.heap.size w w'))
                   case atStart => exact ⟨(0), zc_, H', ⟨Nat.le_refl _⟩, ⟨zr HO_5.out⟩, ⟨by refine zq ?_; exact Kd.Q_mono HO_22.out (fun _ hk => ⟨hk.2, hk.1⟩)⟩, ⟨zq HO_30.out⟩, ⟨zr HO_27.out⟩, ⟨zb BK422.out⟩, ⟨zh_⟩⟩
                   case round =>
                    as_aux_lemma =>
                     clear H'
                     try clear c1
                     try clear c2
                     try clear p2
                     try clear c6
                     try clear p6
                     try clear c7
                     try clear c8
                     try clear c9
                     try clear c10
                     try clear c11
                     try clear p64
                     try clear c66
                     try clear c68
                     try clear c69
                     try clear c70
                     try clear c80
                     try clear c80b0
                     try clear c81
                     try clear c82
                     try clear c95
                     try clear c96
                     try clear c107
                     try clear c107b0
                     try clear c107b1
                     try clear c107b2
                     try clear c108
                     try clear c108b0
                     try clear c108b1
                     try clear c108b2
                     try clear c109
                     try clear c111
                     try clear c112
                     try clear c116
                     try clear hcz28_0
                     try clear hcz28_1
                     try clear hcz32_0
                     try clear hcz32_1
                     try clear hfz28_0
                     try clear hfz28_1
                     try clear hfz32_0
                     try clear hfz32_1
                     try clear p2
                     try clear p6
                     try clear p64
                     obtain ⟨x258_4, rfl, HA, HK4, HO_5, HO_22, HO_30, HO_256, BK422, HB⟩ := hrel
                     cases gk with
                     | zero => exact absurd HA.out (by simp [laws_FnTracks.l1])
                     | succ k4 =>
                      have H := HA.out
                      clear HA
                      simp only [laws_FnTracks.l1] at H
                      by_cases c118 : x258_4 < (t440.length : Int)
                      ·rw [if_pos c118] at H
                       have c118b0 : decide (x258_4 < (t440.length : Int)) = true := decide_eq_true c118
                       clear c118
                       (first | rw [c118b0] | (simp only [i64_w, i32_w]; rw [c118b0]) | skip)
                       by_cases c119 : 0 ≤ x258_4
                       rotate_left
                       ·rw [if_neg c119] at H
                        exact absurd H (by simp)
                       rw [if_pos c119] at H
                       have c119b0 : decide (0 ≤ x258_4) = true := decide_eq_true c119
                       clear c119
                       by_cases c120 : x258_4 < (t440.length : Int)
                       rotate_left
                       ·rw [if_neg c120] at H
                        exact absurd H (by simp)
                       rw [if_pos c120] at H
                       have c120b0 : decide (x258_4 < (t440.length : Int)) = true := decide_eq_true c120
                       clear c120
                       by_cases c121 : x258_4 < (t431.length : Int)
                       rotate_left
                       ·rw [if_neg c121] at H
                        exact absurd H (by simp)
                       rw [if_pos c121] at H
                       have c121b0 : decide (x258_4 < (t431.length : Int)) = true := decide_eq_true c121
                       clear c121
                       by_cases c122 : t432 = 0
                       ·rw [if_pos c122] at H
                        exact absurd H (by simp)
                       rw [if_neg c122] at H
                       have c122b0 : (t432 == 0) = false := beq_eq_false_iff_ne.mpr c122
                       have c122b1 : (t432 != 0) = true := bne_iff_ne.mpr c122
                       by_cases c123 : (rd t440 x258_4) = (wrap64 (Int.tdiv (rd t431 x258_4) t432))
                       rotate_left
                       ·rw [if_neg c123] at H
                        exact absurd H (by simp)
                       rw [if_pos c123] at H
                       have c123b0 : ((rd t440 x258_4) == (wrap64 (Int.tdiv (rd t431 x258_4) t432))) = true := beq_iff_eq.mpr c123
                       have c123b1 : ((rd t440 x258_4) != (wrap64 (Int.tdiv (rd t431 x258_4) t432))) = false := bne_eq_false_iff_eq.mpr c123
                       clear c123
                       by_cases c124 : (rd t440 x258_4) ≥ t441
                       ·rw [if_pos c124] at H
                        exact absurd H (by simp)
                       rw [if_neg c124] at H
                       have c124b0 : decide (t441 ≤ (rd t440 x258_4)) = false := decide_eq_false c124
                       clear c124
                       have H' := aM H
                       clear H
                       have p495 : 0 ≤ (x258_4 : Int) := of_decide_eq_true zb_
                       have q495 : x258_4 < (t440.length : Int) := of_decide_eq_true zb_
                       obtain ⟨ad495, e495, hx495_0⟩ := Kd.at_int (Kd.R_reads' HO_256.out).2.2 x258_4 p495 q495
                       cases e495
                       replace p495 := eq_true p495
                       replace q495 := eq_true q495
                       have p496 : 0 ≤ (x258_4 : Int) := of_decide_eq_true zb_
                       have q496 : x258_4 < (t431.length : Int) := of_decide_eq_true zb_
                       obtain ⟨ad496, e496, hx496_0⟩ := Kd.at_int (Kd.Q_reads' HO_22.out).2.2 x258_4 p496 q496
                       cases e496
                       replace p496 := eq_true p496
                       replace q496 := eq_true q496
                       go_wp2
                       go_roundg k4
                       case measure => have := HJ17.out; have := HJ64.out; have := HJ66.out; have := HK4.out; omega
                       case rel => exact ⟨(wrap64 (x258_4 + 1)), zc_, H', ⟨by have := HJ17.out; have := HJ64.out; have := HJ66.out; have := HK4.out; omega⟩, ⟨zr HO_5.out⟩, ⟨zq HO_22.out⟩, ⟨zq HO_30.out⟩, ⟨zr HO_256.out⟩, ⟨zb BK422.out⟩, ⟨zh_⟩⟩
                      ·rw [if_neg c118] at H
                       have c118b0 : decide (x258_4 < (t440.length : Int)) = false := decide_eq_false c118
                       clear c118
                       (first | rw [c118b0] | (simp only [i64_w, i32_w]; rw [c118b0]) | skip)
                       have H' := aM H
                       clear H
                       go_wp2
                       go_meet
                       case rel => exact ⟨_, H', ⟨by have := HJ17.out; have := HJ64.out; have := HJ66.out; have := HK4.out; first | omega | exact Nat.le_refl _⟩, ⟨zr HO_5.out⟩, ⟨by refine zq ?_; exact Kd.Q_mono HO_30.out (fun _ hk => trivial)⟩, ⟨zb BK422.out⟩, ⟨zh_⟩⟩
                  ·replace c116 := Bool.eq_false_iff.mpr c116
                   subst c116
                   rw [if_neg (show ¬ (false = true) by decide)] at H
                   have H' := aM H
                   clear H
                   go_wp2
                   go_meet
                   case rel => exact ⟨_, H', ⟨by have := HJ17.out; have := HJ64.out; have := HJ66.out; first | omega | exact Nat.le_refl _⟩, ⟨zr HO_5.out⟩, ⟨by refine zq ?_; exact Kd.Q_mono HO_30.out (fun _ hk => trivial)⟩, ⟨zb BK422.out⟩, ⟨zh_⟩⟩
                case rest =>
                 as_aux_lemma =>
                  clear HC115
                  try clear c1
                  try clear c2
                  try clear p2
                  try clear p4
                  try clear q4
                  try clear hx4
                  try clear c6
                  try clear p6
                  try clear c7
                  try clear c8
                  try clear c9
                  try clear c10
                  try clear c11
                  try clear c12
                  try clear p49
                  try clear q49
                  try clear hx49
                  try clear p64
                  try clear c66
                  try clear c68
                  try clear c69
                  try clear c70
                  try clear c80
                  try clear c80b0
                  try clear c81
                  try clear c82
                  try clear c95
                  try clear c96
                  try clear c107
                  try clear c107b0
                  try clear c107b1
                  try clear c107b2
                  try clear c108
                  try clear c108b0
                  try clear c108b1
                  try clear c108b2
                  try clear c109
                  try clear c111
                  try clear c112
                  try clear c116
                  try clear c118
                  try clear c118b0
                  try clear c119
                  try clear c119b0
                  try clear c120
                  try clear c120b0
                  try clear c121
                  try clear c121b0
                  try clear c122
                  try clear c122b0
                  try clear c122b1
                  try clear c123
                  try clear c123b0
                  try clear c123b1
                  try clear c124
                  try clear c124b0
                  try clear hcz28_0
                  try clear hcz28_1
                  try clear hcz32_0
                  try clear hcz32_1
                  try clear hfz28_0
                  try clear hfz28_1
                  try clear hfz32_0
                  try clear hfz32_1
                  try clear hx495_0
                  try clear hx496_0
                  try clear p2
                  try clear p495
                  try clear p496
                  try clear p6
                  try clear p64
                  try clear q495
                  try clear q496
                  obtain ⟨kq, HA, HJ114, HO_5, HO_30, BK422, HB⟩ := hcut
                  cases kq with
                  | zero => exact absurd HA.out (by simp [laws_FnTracks.j6])
                  | succ kj114 =>
                   have H := HA.out
                   clear HA
                   simp only [laws_FnTracks.j6] at H
                   have HC125 := aM H
                   clear H
                   go_upto_region 35 with (fail)
                   go_cut [292] (fun v292 wc => ∃ (kq : Nat) (x292_124 : Bool), v292 = .bool x292_124 ∧ Aside0 (laws_FnTracks.j7 kq t400 t411 t412 x292_124 = some r) ∧ Aside0 (kq ≤ kj114) ∧ Aside0 (Kd.R k32 32 wc w.heap.size (fun k_ => k_ ≠ gb422) (.slice Ao20 t400.length co20) t400) ∧ Aside0 (wc.heap[gb422]? = some (.cells #[.int .i64 t420, .int .i64 t421] 32 (0, 0))) ∧ Aside0 (Below w.heap.size w wc))
                   case first =>
                    as_aux_lemma =>
                     have H := HC125.out
                     clear HC125
                     by_cases c126 : t449 = true
                     ·subst c126
                      rw [if_pos rfl] at H
                      by_cases c127 : t450 > (t445.length : Int)
                      ·rw [if_pos c127] at H
                       exact absurd H (by simp)
                      rw [if_neg c127] at H
                      have c127b0 : decide ((t445.length : Int) < t450) = false := decide_eq_false c127
                      clear c127
                      (first | rw [c127b0] | (simp only [i64_w, i32_w]; rw [c127b0]) | skip)
                      by_cases c128 : t450 = 0
                      ·rw [if_pos c128] at H
                       have c128b0 : (t450 == 0) = true := beq_iff_eq.mpr c128
                       have c128b1 : (t450 != 0) = false := bne_eq_false_iff_eq.mpr c128
                       clear c128
                       have H' := aM H
                       clear H
                       go_wp2
                       go_meet
                       case rel => exact ⟨_, (decide ((t445.length : Int) > 0)), zc_, H', ⟨zhe_⟩, ⟨zr HO_5.out⟩, ⟨zb BK422.out⟩, ⟨zh_⟩⟩
                      ·rw [if_neg c128] at H
                       have c128b0 : (t450 == 0) = false := beq_eq_false_iff_ne.mpr c128
                       have c128b1 : (t450 != 0) = true := bne_iff_ne.mpr c128
                       have H' := aM H
                       clear H
                       go_wp2
                       go_meet
                       case rel => exact ⟨_, (false), zc_, H', ⟨zhe_⟩, ⟨zr HO_5.out⟩, ⟨zb BK422.out⟩, ⟨zh_⟩⟩
                     ·replace c126 := Bool.eq_false_iff.mpr c126
                      subst c126
                      rw [if_neg (show ¬ (false = true) by decide)] at H
                      have H' := aM H
                      clear H
                      go_wp2
                      go_meet
                      case rel => exact ⟨_, (false), zc_, H', ⟨zhe_⟩, ⟨zr HO_5.out⟩, ⟨zb BK422.out⟩, ⟨zh_⟩⟩
                   case rest =>
                    as_aux_lemma =>
                     clear HC125
                     try clear c1
                     try clear c2
                     try clear p2
                     try clear p4
                     try clear q4
                     try clear hx4
                     try clear c6
                     try clear p6
                     try clear c7
                     try clear c8
                     try clear c9
                     try clear c10
                     try clear c11
                     try clear c12
                     try clear p49
                     try clear q49
                     try clear hx49
                     try clear p64
                     try clear c66
                     try clear c68
                     try clear c69
                     try clear c70
                     try clear c80
                     try clear c80b0
                     try clear c81
                     try clear c82
                     try clear c95
                     try clear c96
                     try clear c107
                     try clear c107b0
                     try clear c107b1
                     try clear c107b2
                     try clear c108
                     try clear c108b0
                     try clear c108b1
                     try clear c108b2
                     try clear c109
                     try clear c111
                     try clear c112
                     try clear c116
                     try clear c118
                     try clear c118b0
                     try clear c119
                     try clear c119b0
                     try clear c120
                     try clear c120b0
                     try clear c121
                     try clear c121b0
                     try clear c122
                     try clear c122b0
                     try clear c122b1
                     try clear c123
                     try clear c123b0
                     try clear c123b1
                     try clear c124
                     try clear c124b0
                     try clear c126
                     try clear c127
                     try clear c127b0
                     try clear c128
                     try clear c128b0
                     try clear c128b1
                     try clear hcz28_0
                     try clear hcz28_1
                     try clear hcz32_0
                     try clear hcz32_1
                     try clear hfz28_0
                     try clear hfz28_1
                     try clear hfz32_0
                     try clear hfz32_1
                     try clear hx495_0
                     try clear hx496_0
                     try clear p2
                     try clear p4
                     try clear p49
                     try clear p495
                     try clear p496
                     try clear p6
                     try clear p64
                     try clear q4
                     try clear q49
                     try clear q495
                     try clear q496
                     obtain ⟨kq, x292_124, rfl, HA, HJ124, HO_5, BK422, HB⟩ := hcut
                     cases kq with
                     | zero => exact absurd HA.out (by simp [laws_FnTracks.j7])
                     | succ kj124 =>
                      have H := HA.out
                      clear HA
                      simp only [laws_FnTracks.j7] at H
                      by_cases c129 : x292_124 = true
                      ·subst c129
                       rw [if_pos rfl] at H
                       exact absurd H (by simp)
                      ·replace c129 := Bool.eq_false_iff.mpr c129
                       subst c129
                       rw [if_neg (show ¬ (false = true) by decide)] at H
                       by_cases c130 : t411 = true
                       ·subst c130
                        rw [if_pos rfl] at H
                        have H' := aM H
                        clear H
                        go_wp2
                        go_loopg [43, 45] kj124 (fun kq v43 v45 w' => ∃ (x43_6 : Int) (x45_6 : Int), v43 = .int .i64 x43_6 ∧ v45 = .int .i64 x45_6 ∧ Aside0 (laws_FnTracks.l2 kq t400 t412 x43_6 0 x45_6 = some r) ∧ Aside0 (kq ≤ kj124) ∧ Aside0 (Kd.R k32 32 w' w.heap.size (fun k_ => k_ ≠ gb422) (.slice Ao20 t400.length co20) t400) ∧ Aside0 (w'.heap[gb422]? = some (.cells #[.int .i64 t420, .int .i64 t421] 32 (0, 0))) ∧ Aside0 (Below w.heap.size w w'))
                        case atStart => exact ⟨(0), (0), zc_, zc_, H', ⟨Nat.le_refl _⟩, ⟨zr HO_5.out⟩, ⟨zb BK422.out⟩, ⟨zh_⟩⟩
                        case round =>
                         as_aux_lemma =>
                          clear H'
                          try clear c1
                          try clear c2
                          try clear p2
                          try clear p4
                          try clear q4
                          try clear hx4
                          try clear c6
                          try clear p6
                          try clear c7
                          try clear c8
                          try clear c9
                          try clear c10
                          try clear c11
                          try clear c12
                          try clear c13
                          try clear p49
                          try clear q49
                          try clear hx49
                          try clear p64
                          try clear c66
                          try clear c68
                          try clear c69
                          try clear c70
                          try clear c80
                          try clear c80b0
                          try clear c81
                          try clear c82
                          try clear c95
                          try clear c96
                          try clear c107
                          try clear c107b0
                          try clear c107b1
                          try clear c107b2
                          try clear c108
                          try clear c108b0
                          try clear c108b1
                          try clear c108b2
                          try clear c109
                          try clear c111
                          try clear c112
                          try clear c116
                          try clear c118
                          try clear c118b0
                          try clear c119
                          try clear c119b0
                          try clear c120
                          try clear c120b0
                          try clear c121
                          try clear c121b0
                          try clear c122
                          try clear c122b0
                          try clear c122b1
                          try clear c123
                          try clear c123b0
                          try clear c123b1
                          try clear c124
                          try clear c124b0
                          try clear c126
                          try clear c127
                          try clear c127b0
                          try clear c128
                          try clear c128b0
                          try clear c128b1
                          try clear c129
                          try clear c130
                          try clear hcz28_0
                          try clear hcz28_1
                          try clear hcz32_0
                          try clear hcz32_1
                          try clear hfz28_0
                          try clear hfz28_1
                          try clear hfz32_0
                          try clear hfz32_1
                          try clear hx495_0
                          try clear hx496_0
                          try clear p2
                          try clear p4
                          try clear p49
                          try clear p495
                          try clear p496
                          try clear p6
                          try clear p64
                          try clear q4
                          try clear q49
                          try clear q495
                          try clear q496
                          obtain ⟨x43_6, x45_6, rfl, rfl, HA, HK6, HO_5, BK422, HB⟩ := hrel
                          cases gk with
                          | zero => exact absurd HA.out (by simp [laws_FnTracks.l2])
                          | succ k6 =>
                           have H := HA.out
                           clear HA
                           simp only [laws_FnTracks.l2] at H
                           by_cases c131 : x45_6 < (t412.size : Int)
                           ·rw [if_pos c131] at H
                            have c131b0 : decide (x45_6 < (t412.size : Int)) = true := decide_eq_true c131
                            clear c131
                            by_cases c132 : 0 ≤ x45_6
                            rotate_left
                            ·rw [if_neg c132] at H
                             exact absurd H (by simp)
                            rw [if_pos c132] at H
                            have c132b0 : decide (0 ≤ x45_6) = true := decide_eq_true c132
                            clear c132
                            by_cases c134 : (bt t412 x45_6) ≥ 97
                            ·rw [if_pos c134] at H
                             have c134b0 : decide (97 ≤ (bt t412 x45_6)) = true := decide_eq_true c134
                             clear c134
                             have H' := aM H
                             clear H
                             have p133 : 0 ≤ (x45_6 : Int) := of_decide_eq_true zb_
                             have q133 : x45_6 < (t412.size : Int) := of_decide_eq_true zb_
                             have hx133 := bt_at t412 x45_6
                             replace p133 := eq_true p133
                             replace q133 := eq_true q133
                             go_wp2
                             go_roundg k6
                             case measure => have := HJ17.out; have := HJ64.out; have := HJ66.out; have := HJ114.out; have := HJ124.out; have := HK6.out; omega
                             case rel => exact ⟨(wrap64 (x43_6 + 1)), (wrap64 (x45_6 + 1)), zc_, zc_, H', ⟨by have := HJ17.out; have := HJ64.out; have := HJ66.out; have := HJ114.out; have := HJ124.out; have := HK6.out; omega⟩, ⟨zr HO_5.out⟩, ⟨zb BK422.out⟩, ⟨zh_⟩⟩
                            ·rw [if_neg c134] at H
                             have c134b0 : decide (97 ≤ (bt t412 x45_6)) = false := decide_eq_false c134
                             clear c134
                             have H' := aM H
                             clear H
                             have p133 : 0 ≤ (x45_6 : Int) := of_decide_eq_true zb_
                             have q133 : x45_6 < (t412.size : Int) := of_decide_eq_true zb_
                             have hx133 := bt_at t412 x45_6
                             replace p133 := eq_true p133
                             replace q133 := eq_true q133
                             go_wp2
                             go_roundg k6
                             case measure => have := HJ17.out; have := HJ64.out; have := HJ66.out; have := HJ114.out; have := HJ124.out; have := HK6.out; omega
                             case rel => exact ⟨(x43_6), (wrap64 (x45_6 + 1)), zc_, zc_, H', ⟨by have := HJ17.out; have := HJ64.out; have := HJ66.out; have := HJ114.out; have := HJ124.out; have := HK6.out; omega⟩, ⟨zr HO_5.out⟩, ⟨zb BK422.out⟩, ⟨zh_⟩⟩
                           ·rw [if_neg c131] at H
                            have c131b0 : decide (x45_6 < (t412.size : Int)) = false := decide_eq_false c131
                            clear c131
                            have H' := aM H
                            clear H
                            go_wp2
                            go_loopg [44, 309] k6 (fun kq v44 v309 w' => ∃ (x44_7 : Int) (x309_7 : Int), v44 = .int .i64 x44_7 ∧ v309 = .int .i64 x309_7 ∧ Aside0 (laws_FnTracks.l3 kq x43_6 x44_7 t400 (t400.length : Int) x309_7 = some r) ∧ Aside0 (kq ≤ k6) ∧ Aside0 (Kd.R k32 32 w' w.heap.size (fun k_ => k_ ≠ gb422) (.slice Ao20 t400.length co20) t400) ∧ Aside0 (w'.heap[gb422]? = some (.cells #[.int .i64 t420, .int .i64 t421] 32 (0, 0))) ∧ Aside0 (Below w.heap.size w w'))
                            case atStart => exact ⟨(0), (0), zc_, zc_, H', ⟨Nat.le_refl _⟩, ⟨zr HO_5.out⟩, ⟨zb BK422.out⟩, ⟨zh_⟩⟩
                            case round =>
                             as_aux_lemma =>
                              clear H'
                              try clear c1
                              try clear p1
                              try clear q1
                              try clear hx1
                              try clear c2
                              try clear p2
                              try clear p4
                              try clear q4
                              try clear hx4
                              try clear c6
                              try clear p6
                              try clear c7
                              try clear c8
                              try clear c9
                              try clear c10
                              try clear c11
                              try clear c12
                              try clear c13
                              try clear p13
                              try clear q13
                              try clear hx13
                              try clear p49
                              try clear q49
                              try clear hx49
                              try clear p64
                              try clear c66
                              try clear c68
                              try clear c69
                              try clear c70
                              try clear c80
                              try clear c80b0
                              try clear c81
                              try clear c82
                              try clear c95
                              try clear c96
                              try clear c107
                              try clear c107b0
                              try clear c107b1
                              try clear c107b2
                              try clear c108
                              try clear c108b0
                              try clear c108b1
                              try clear c108b2
                              try clear c109
                              try clear c111
                              try clear c112
                              try clear c116
                              try clear c118
                              try clear c118b0
                              try clear c119
                              try clear c119b0
                              try clear c120
                              try clear c120b0
                              try clear c121
                              try clear c121b0
                              try clear c122
                              try clear c122b0
                              try clear c122b1
                              try clear c123
                              try clear c123b0
                              try clear c123b1
                              try clear c124
                              try clear c124b0
                              try clear c126
                              try clear c127
                              try clear c127b0
                              try clear c128
                              try clear c128b0
                              try clear c128b1
                              try clear c129
                              try clear c130
                              try clear c131
                              try clear c131b0
                              try clear c132
                              try clear c132b0
                              try clear p133
                              try clear q133
                              try clear hx133
                              try clear c134
                              try clear c134b0
                              try clear hcz28_0
                              try clear hcz28_1
                              try clear hcz32_0
                              try clear hcz32_1
                              try clear hfz28_0
                              try clear hfz28_1
                              try clear hfz32_0
                              try clear hfz32_1
                              try clear hx495_0
                              try clear hx496_0
                              try clear p133
                              try clear p2
                              try clear p4
                              try clear p49
                              try clear p495
                              try clear p496
                              try clear p6
                              try clear p64
                              try clear q133
                              try clear q4
                              try clear q49
                              try clear q495
                              try clear q496
                              obtain ⟨x44_7, x309_7, rfl, rfl, HA, HK7, HO_307, BK422, HB⟩ := hrel
                              cases gk with
                              | zero => exact absurd HA.out (by simp [laws_FnTracks.l3])
                              | succ k7 =>
                               have H := HA.out
                               clear HA
                               simp only [laws_FnTracks.l3] at H
                               by_cases c135 : x309_7 < (t400.length : Int)
                               ·rw [if_pos c135] at H
                                have c135b0 : decide (x309_7 < (t400.length : Int)) = true := decide_eq_true c135
                                clear c135
                                by_cases c136 : 0 ≤ x309_7
                                rotate_left
                                ·rw [if_neg c136] at H
                                 exact absurd H (by simp)
                                rw [if_pos c136] at H
                                have c136b0 : decide (0 ≤ x309_7) = true := decide_eq_true c136
                                clear c136
                                by_cases c137 : x309_7 < (t400.length : Int)
                                rotate_left
                                ·rw [if_neg c137] at H
                                 exact absurd H (by simp)
                                rw [if_pos c137] at H
                                have c137b0 : decide (x309_7 < (t400.length : Int)) = true := decide_eq_true c137
                                clear c137
                                have H' := aM H
                                clear H
                                have p497 : 0 ≤ (x309_7 : Int) := of_decide_eq_true zb_
                                have q497 : x309_7 < (t400.length : Int) := of_decide_eq_true zb_
                                obtain ⟨ad497, e497, hx497_0, hx497_1⟩ := at_T32 (Kd.R_reads' HO_307.out).2.2 x309_7 p497 q497
                                cases e497
                                replace p497 := eq_true p497
                                replace q497 := eq_true q497
                                go_wp2_with (first | ((with_reducible refine gate_dst (N := 47) rfl ?_); (try (refine gate_guard (by rfl) ?_; dsimp only)); refine box_event ?hg (N := 47) ?hd (cs := #[.int .i64 0, .int .i64 0]) (t := 32) ?hr ?_; (case hd => rfl); (case hg => rfl); (case hr => exact zf_); intro gb498 hg w138 hbox hb; have n_ := z (Kd.R_below (Kd.R_elderB (zr HO_307.out) gb498 (Nat.le_of_eq hg.symm)) hb) <| z (blk_below (g := gb422) (o := .cells #[.int .i64 t420, .int .i64 t421] 32 (0, 0)) (zb BK422.out) hb) <| z (below_step zh_ hb) <| z (hbox) <| z ((by rw [hg]; exact (below_size zh_) : w.heap.size ≤ gb498)) <| z ((by rw [hg]; exact (below_size zh_) : w.heap.size ≤ gb498)) <| z ((by rw [hg]; exact Nat.ne_of_lt (blk_lt (g := gb422) (o := .cells #[.int .i64 t420, .int .i64 t421] 32 (0, 0)) (zb BK422.out)) : gb422 ≠ gb498)) <| z1 ((by rw [hg]; exact Nat.ne_of_gt (blk_lt (g := gb422) (o := .cells #[.int .i64 t420, .int .i64 t421] 32 (0, 0)) (zb BK422.out)) : gb498 ≠ gb422)); clear HO_307 BK422 HB; obtain ⟨HO_307, BK422, HB, BK498, GW498, GE498, NB422_498, NB498_422⟩ := n_; clear hb hbox hg; have hnb139 := NB498_422.out; have hnc139 := NB422_498.out; have hcz140_0 : w138.cell? ⟨gb498, 0, none⟩ = some (.int .i64 0) := (blk_cell BK498.out 0).trans rfl; have hcz140_1 : w138.cell? ⟨gb498, 1, none⟩ = some (.int .i64 0) := (blk_cell BK498.out 1).trans rfl; have hfz140_0 := blk_frozen BK498.out 0; have hfz140_1 := blk_frozen BK498.out 1))
                                go_roundg k7
                                case measure => have := HJ17.out; have := HJ64.out; have := HJ66.out; have := HJ114.out; have := HJ124.out; have := HK6.out; have := HK7.out; omega
                                case rel => exact ⟨(wrap64 (x44_7 + (wrap64 ((wrap64 (((rd_T32 t400 x309_7).f1) - ((rd_T32 t400 x309_7).f0))) + 1)))), (wrap64 (x309_7 + 1)), zc_, zc_, H', ⟨by have := HJ17.out; have := HJ64.out; have := HJ66.out; have := HJ114.out; have := HJ124.out; have := HK6.out; have := HK7.out; omega⟩, ⟨by refine zr ?_; exact Kd.R_mono (Kd.R_far (p := ⟨gb498, 1, none⟩) (Kd.R_far (p := ⟨gb498, 0, none⟩) (Kd.R_mono HO_307.out (fun k_ hk => (⟨hk, hk.2⟩ : _ ∧ k_ ≠ gb498))) (fun _ hk => hk.2) (.int .i64 ((rd_T32 t400 x309_7).f0))) (fun _ hk => hk.2) (.int .i64 ((rd_T32 t400 x309_7).f1))) (fun _ hk => hk.1.1)⟩, ⟨by refine zb ?_; refine blk_far ?_ NB422_498.out _; refine zb ?_; refine blk_far ?_ NB422_498.out _; refine zb ?_; exact BK422.out⟩, ⟨by repeat (first | (with_reducible first | exact HB.out | apply pA | apply pN | apply p1 | refine below_set ?_ GE422.out | refine below_set ?_ GE498.out) | exact HB.out)⟩⟩
                               ·rw [if_neg c135] at H
                                have c135b0 : decide (x309_7 < (t400.length : Int)) = false := decide_eq_false c135
                                clear c135
                                obtain rfl := Option.some.inj H
                                go_wp2
                                go_ret
                                exact ⟨zg_, zh_⟩
                       ·replace c130 := Bool.eq_false_iff.mpr c130
                        subst c130
                        rw [if_neg (show ¬ (false = true) by decide)] at H
                        obtain rfl := Option.some.inj H
                        go_wp2
                        go_ret
                        exact ⟨zg_, zh_⟩

/-- THE ONE PURE STATEMENT of laws_FnTracks: yours. -/
def laws_FnTracks.Pure : Prop := ∀ (l0 : List Int) (l1 : List Int), l0.length ≤ maxLen → l0.length * 1 ≤ 140737488351232 → (∀ x ∈ l0, (Lit.int .u8 x).wf = true) → l1.length ≤ maxLen → l1.length * 1 ≤ 140737488351232 → (∀ x ∈ l1, (Lit.int .u8 x).wf = true) → ∃ k, laws_FnTracks.f k l0 l1 = some true
theorem laws_FnTracks.walk (P : laws_FnTracks.Pure) (a0 : Option Addr) (len0 cap0 : Nat) (z0 : List Int) (a1 : Option Addr) (len1 cap1 : Nat) (z1 : List Int) (w : World) (w0 : (a0 = none ∧ len0 = 0 ∧ cap0 = 0 ∧ z0 = []) ∨ ∃ x, a0 = some x ∧ len0 ≤ cap0 ∧ cap0 ≤ maxLen ∧ z0.length = cap0 ∧ (∀ i, i < z0.length → w.cell? (x.add i) = some (.int .u8 (z0.getD i 0))) ∧ ∀ n ∈ z0, (Lit.int .u8 n).wf = true) (y0 : len0 * 1 ≤ 140737488351232) (w1 : (a1 = none ∧ len1 = 0 ∧ cap1 = 0 ∧ z1 = []) ∨ ∃ x, a1 = some x ∧ len1 ≤ cap1 ∧ cap1 ≤ maxLen ∧ z1.length = cap1 ∧ (∀ i, i < z1.length → w.cell? (x.add i) = some (.int .u8 (z1.getD i 0))) ∧ ∀ n ∈ z1, (Lit.int .u8 n).wf = true) (y1 : len1 * 1 ≤ 140737488351232) :
  Calls Try.prog 3 #[.slice a0 len0 cap0, .slice a1 len1 cap1] w fun e w' => e = .returned (.bool true) ∧ Below w.heap.size w w' := by
 obtain ⟨l0, rfl, hr0, hm0, hw0, hc0⟩ := ReadsInt.ofRowC w0
 obtain ⟨l1, rfl, hr1, hm1, hw1, hc1⟩ := ReadsInt.ofRowC w1
 obtain ⟨k, h⟩ := P l0 l1 hm0 y0 hw0 hm1 y1 hw1
 refine (laws_FnTracks.calls k _ _ l0 _ _ l1 true w (Kd.C_of_reads (d := (0 : Int)) (h1 := fun _ => rfl) hr0) hc0 (Kd.C_of_reads (d := (0 : Int)) (h1 := fun _ => rfl) hr1) hc1 h).mono ?_
 rintro e w' ⟨rfl, hd⟩
 exact ⟨rfl, hd⟩

end Go.Proofs.Ytbkighlfgaifeaa.QFnTracks
