/- Functions of FnCrossings, each as a Lean function, with the proof that the Go code comes to its answers. -/
import Derived.Test.YtbkighlfgaifeaaSFnCrossingsx0
import Derived.Test.YtbkighlfgaifeaaSFnCrossingsx1
import Derived.Test.YtbkighlfgaifeaaSFnCrossingsx2
import Derived.Test.YtbkighlfgaifeaaSFnCrossingsx3
import Derived.Test.YtbkighlfgaifeaaSFnCrossingsx5
import Derived.Test.YtbkighlfgaifeaaSFnCrossingsx6
import Derived.Test.YtbkighlfgaifeaaSFnCrossingsx7
import Derived.Test.YtbkighlfgaifeaaSFnCrossingsx8
import Derived.Test.YtbkighlfgaifeaaSFnCrossingsx9
import Derived.Test.YtbkighlfgaifeaaSFnCrossingsx12
import Derived.Test.YtbkighlfgaifeaaSFnCrossingsx15
import Derived.Test.YtbkighlfgaifeaaSFnCrossingsx19
namespace Go.Proofs.Ytbkighlfgaifeaa.QFnCrossings
open Go.RowKit Go.Proofs.YtbkighlfgaifeaaW.PrintWords Go.Proofs.YtbkighlfgaifeaaW.PrintLast Go.Proofs.YtbkighlfgaifeaaW.PrintMore
open Go.Proofs.YtbkighlfgaifeaaW.PrintWords renaming pw_below_drewN → pN, below_drew1 → p1, below_alloc → pA
open Go.Proofs.YtbkighlfgaifeaaW.PrintWords.Kd renaming R_alloc → kA, R_drewN → kN, R_drew → kD, Q_alloc → qA, Q_drewN → qN, Q_drew → qD, C_alloc → cA, C_drewN → cN, C_drew → cD
open Go.Proofs.YtbkighlfgaifeaaW.PrintWords.Aside0 renaming mk → aM
open List renaming setIfInBounds_toArray → sI, set_cons_zero → s0, set_cons_succ → sS, map_toArray → mT, length_take → lT, length_drop → lD, map_cons → mC, map_nil → mN
open Option renaming bind_eq_some_iff → oB
attribute [local go_sem] max2_int min2_int max_two min_two max_three min_three max_four min_four
set_option linter.unusedVariables false
set_option linter.unusedSimpArgs false

/-! ### laws_FnCrossings: function 6 -/
mutual
def laws_FnCrossings.j2 : Nat → List Int → Option (Bool)
 | 0, _ => none
 | k + 1, x1 => (spec_DrawMovePoints.f x1).bind fun bt460 => ((impl_MovePoints.f k bt460.1 bt460.2.1 bt460.2.2).bind fun bt467 => ((spec_MovePoints.f k bt460.1 bt460.2.1 bt460.2.2).bind fun bt471 => (if (bt467.2 != bt471.2) = true then (none) else ((laws_sameLists.f k bt467.1 bt471.1).bind fun t475 => (if t475 = true then (if bt467.2 = true then (laws_FnCrossings.l2 k x1 bt460.1 bt460.2.1 bt460.2.2 bt467.1 bt471.1 (bt471.1.length : Int) 0) else (laws_FnCrossings.j4 k x1)) else (none))))))
def laws_FnCrossings.j4 : Nat → List Int → Option (Bool)
 | 0, _ => none
 | k + 1, x1 => (spec_DrawLevelWires.f x1).bind fun bt485 => ((impl_LevelWires.f k bt485.1 bt485.2.1 bt485.2.2.1 bt485.2.2.2).bind fun bt494 => ((spec_LevelWires.f k bt485.1 bt485.2.1 bt485.2.2.1 bt485.2.2.2).bind fun bt498 => (if (bt494.2 != bt498.2) = true then (none) else ((laws_sameLists.f k bt494.1 bt498.1).bind fun t502 => (if t502 = true then (if bt494.2 = true then ((spec_LevelsOf.f k bt485.1 bt485.2.1 bt485.2.2.1).bind fun bt503 => (if bt503.2 = true then (if (wrap64 (bt485.2.2.2 + 1)) ≥ (bt503.1.length : Int) then (none) else (laws_FnCrossings.l3 k bt485.2.2.2 bt503.1 bt498.1 (bt498.1.length : Int) 0 bt485.1 bt485.2.1 bt485.2.2.1)) else (none))) else (some true)) else (none))))))
def laws_FnCrossings.l3 : Nat → Int → List (List Int) → List (List Int) → Int → Int → Int → List (S57) → List Int → Option (Bool)
 | 0, _, _, _, _, _, _, _, _ => none
 | k + 1, x28, x33, x255, x256, x257, x494000, x494001, x494002 => if x257 < x256 then (if 0 ≤ x257 then (if x257 < (x255.length : Int) then (if 0 ≤ (wrap64 (x28 + 1)) then (if (wrap64 (x28 + 1)) < (x33.length : Int) then (if 1 < ((rd_L2 x255 x257).length : Int) then (if 0 ≤ (rd (rd_L2 x255 x257) 1) then (if (rd (rd_L2 x255 x257) 1) < ((rd_L2 x33 (wrap64 (x28 + 1))).length : Int) then (if 0 ≤ (wrap64 ((rd (rd_L2 x33 (wrap64 (x28 + 1))) (rd (rd_L2 x255 x257) 1)) - x494000)) then (if (wrap64 ((rd (rd_L2 x33 (wrap64 (x28 + 1))) (rd (rd_L2 x255 x257) 1)) - x494000)) < (x494001.length : Int) then (if 0 ≤ x28 then (if x28 < (x33.length : Int) then (if 0 < ((rd_L2 x255 x257).length : Int) then (if 0 ≤ (rd (rd_L2 x255 x257) 0) then (if (rd (rd_L2 x255 x257) 0) < ((rd_L2 x33 x28).length : Int) then (if (rd (rd_L2 x33 x28) (rd (rd_L2 x255 x257) 0)) = ((rd_T57 x494001 (wrap64 ((rd (rd_L2 x33 (wrap64 (x28 + 1))) (rd (rd_L2 x255 x257) 1)) - x494000))).f1) then (laws_FnCrossings.l3 k x28 x33 x255 x256 (wrap64 (x257 + 1)) x494000 x494001 x494002) else (if (rd (rd_L2 x33 x28) (rd (rd_L2 x255 x257) 0)) = ((rd_T57 x494001 (wrap64 ((rd (rd_L2 x33 (wrap64 (x28 + 1))) (rd (rd_L2 x255 x257) 1)) - x494000))).f2) then (laws_FnCrossings.l3 k x28 x33 x255 x256 (wrap64 (x257 + 1)) x494000 x494001 x494002) else (none))) else (none)) else (none)) else (none)) else (none)) else (none)) else (none)) else (none)) else (none)) else (none)) else (none)) else (none)) else (none)) else (none)) else (none)) else (some true)
def laws_FnCrossings.l2 : Nat → List Int → List (List Int) → Int → List Int → List (List Int) → List (List Int) → Int → Int → Option (Bool)
 | 0, _, _, _, _, _, _, _, _ => none
 | k + 1, x1, x18, x19, x20, x21, x177, x178, x179 => if x179 < x178 then (if 0 ≤ x179 then (if x179 < (x177.length : Int) then (if 0 < ((rd_L2 x177 x179).length : Int) then (if x179 < (x18.length : Int) then (if 0 < ((rd_L2 x18 x179).length : Int) then (if (rd (rd_L2 x177 x179) 0) = (rd (rd_L2 x18 x179) 0) then (if 1 < ((rd_L2 x177 x179).length : Int) then (if 1 < ((rd_L2 x18 x179).length : Int) then (if 0 ≤ (rd (rd_L2 x18 x179) 1) then (if (rd (rd_L2 x18 x179) 1) < (x20.length : Int) then (if (rd (rd_L2 x177 x179) 1) = (rd x20 (rd (rd_L2 x18 x179) 1)) then (laws_FnCrossings.l2 k x1 x18 x19 x20 x21 x177 x178 (wrap64 (x179 + 1))) else (none)) else (none)) else (none)) else (none)) else (none)) else (none)) else (none)) else (none)) else (none)) else (none)) else (none)) else ((impl_AreLevelWires.f k x21 x19).bind fun t484 => (if t484 = true then (laws_FnCrossings.j4 k x1) else (none)))
def laws_FnCrossings.l0 : Nat → List Int → List (List Int) → Int → Bool → Int → Bool → Int → Int → Int → Option (Bool)
 | 0, _, _, _, _, _, _, _, _, _ => none
 | k + 1, x1, x9, x11, x12, x13, x14, x15, x82, x83 => if x83 < x82 then (if 0 ≤ x83 then (if x83 < (x9.length : Int) then (laws_FnCrossings.l1 k x1 x9 x11 x12 x13 x14 x15 x83 x82 x83 ((rd_L2 x9 x83).length : Int) 0) else (none)) else (none)) else (if x12 = true then (if x14 = true then (if x11 = x13 then (if x15 = x13 then (laws_FnCrossings.j2 k x1) else (none)) else (none)) else (none)) else (none))
def laws_FnCrossings.l1 : Nat → List Int → List (List Int) → Int → Bool → Int → Bool → Int → Int → Int → Int → Int → Int → Option (Bool)
 | 0, _, _, _, _, _, _, _, _, _, _, _, _ => none
 | k + 1, x1, x9, x11, x12, x13, x14, x15, x16, x82, x83, x90, x91 => if x91 < x90 then (if x91 > x16 then (if 0 ≤ x16 then (if x16 < (x9.length : Int) then (if 0 ≤ x91 then (if x91 < ((rd_L2 x9 x16).length : Int) then (if (rd (rd_L2 x9 x16) x91) < 0 then (none) else (if x16 = x91 then (if (rd (rd_L2 x9 x16) x91) = 0 then (laws_FnCrossings.l1 k x1 x9 x11 x12 x13 x14 (wrap64 (x15 + (rd (rd_L2 x9 x16) x91))) x16 x82 x83 x90 (wrap64 (x91 + 1))) else (none)) else (laws_FnCrossings.l1 k x1 x9 x11 x12 x13 x14 (wrap64 (x15 + (rd (rd_L2 x9 x16) x91))) x16 x82 x83 x90 (wrap64 (x91 + 1))))) else (none)) else (none)) else (none)) else (none)) else (if 0 ≤ x16 then (if x16 < (x9.length : Int) then (if 0 ≤ x91 then (if x91 < ((rd_L2 x9 x16).length : Int) then (if (rd (rd_L2 x9 x16) x91) < 0 then (none) else (if x16 = x91 then (if (rd (rd_L2 x9 x16) x91) = 0 then (laws_FnCrossings.l1 k x1 x9 x11 x12 x13 x14 x15 x16 x82 x83 x90 (wrap64 (x91 + 1))) else (none)) else (laws_FnCrossings.l1 k x1 x9 x11 x12 x13 x14 x15 x16 x82 x83 x90 (wrap64 (x91 + 1))))) else (none)) else (none)) else (none)) else (none))) else (laws_FnCrossings.l0 k x1 x9 x11 x12 x13 x14 x15 x82 (wrap64 (x83 + 1)))
end
def laws_FnCrossings.f (k : Nat) (l0 : List Int) (l1 : List Int) : Option (Bool) := (laws_big.f l0 l1).bind fun t431 => (if t431 = true then (some true) else ((spec_DrawCrossingTable.f l0).bind fun bt432 => ((impl_CrossingTable.f k bt432.1 bt432.2).bind fun bt436 => ((spec_CrossingTable.f k bt432.1 bt432.2).bind fun bt440 => (if (bt436.2 != bt440.2) = true then (none) else ((laws_sameLists.f k bt436.1 bt440.1).bind fun t444 => (if t444 = true then (if bt436.2 = true then ((impl_CountCrossings.f k bt432.1 bt432.2).bind fun bt445 => ((spec_CountCrossings.f k bt432.1 bt432.2).bind fun bt447 => (laws_FnCrossings.l0 k l1 bt440.1 bt445.1 bt445.2 bt447.1 bt447.2 0 (bt440.1.length : Int) 0))) else (laws_FnCrossings.j2 k l1)) else (none))))))))
def laws_FnCrossings.T35 : Bool × List (List Nat × List Nat) := (true, [([], []), ([0], [0]), ([1], [1]), ([], []), ([], []), ([3, 4], [3, 4]), ([5], [5]), ([6], [6]), ([7], [7]), ([2, 8], [2, 8]), ([9], [9]), ([10], [10]), ([11, 10], [10, 11]), ([12, 10], [10, 12]), ([10], [10]), ([10], [10]), ([10], [10]), ([15, 16, 10], [10, 15, 16]), ([17, 10], [10, 17]), ([18, 10], [10, 18]), ([19, 10], [10, 19]), ([14, 20, 10], [10, 14, 20]), ([21, 10], [10, 21]), ([13, 22, 10], [10, 13, 22]), ([10, 23], [10, 23])])
def laws_FnCrossings.B35 : List Nat := [0, 1, 3, 0, 0, 24, 56, 120, 248, 511, 1023, 2047, 4095, 8191, 2047, 2047, 2047, 100351, 231423, 493567, 1017855, 2082815, 4179967, 8388607, 16777215]
theorem laws_FnCrossings.tab35 : rtab .any (opsOf Try.f6 35) = laws_FnCrossings.T35 := by kernel_rfl
theorem laws_FnCrossings.bits35 : waitsOk laws_FnCrossings.T35.2 laws_FnCrossings.B35 = true := by kernel_rfl
def laws_FnCrossings.T52 : Bool × List (List Nat × List Nat) := (true, [([], []), ([0], [0]), ([], []), ([], []), ([3], [3]), ([2, 4], [2, 4]), ([5], [5]), ([], []), ([7], [7]), ([8], [8]), ([6, 9], [6, 9]), ([10], [10]), ([], []), ([12], [12]), ([11, 13], [11, 13]), ([1, 14], [1, 14]), ([15], [15]), ([], []), ([17, 16, 0, 1, 2, 3, 4, 5, 6, 7, 8, 9, 10, 11, 12, 13, 14, 15, 16, 17], [16, 17])])
def laws_FnCrossings.B52 : List Nat := [0, 1, 0, 0, 8, 28, 60, 0, 128, 384, 1020, 2044, 0, 4096, 16380, 32767, 65535, 0, 262143]
theorem laws_FnCrossings.tab52 : rtab .any (opsOf Try.f6 52) = laws_FnCrossings.T52 := by kernel_rfl
theorem laws_FnCrossings.bits52 : waitsOk laws_FnCrossings.T52.2 laws_FnCrossings.B52 = true := by kernel_rfl
def laws_FnCrossings.T53 : Bool × List (List Nat × List Nat) := (true, [([], []), ([], []), ([0, 1], [0, 1]), ([2], [2]), ([], []), ([4], [4]), ([5], [5]), ([3, 6], [3, 6]), ([7], [7]), ([8, 0, 1, 2, 3, 4, 5, 6, 7, 8], [8])])
def laws_FnCrossings.B53 : List Nat := [0, 0, 3, 7, 0, 16, 48, 127, 255, 511]
theorem laws_FnCrossings.tab53 : rtab .any (opsOf Try.f6 53) = laws_FnCrossings.T53 := by kernel_rfl
theorem laws_FnCrossings.bits53 : waitsOk laws_FnCrossings.T53.2 laws_FnCrossings.B53 = true := by kernel_rfl
set_option maxHeartbeats 64000000 in
set_option maxRecDepth 100000 in
theorem laws_FnCrossings.calls (k : Nat) (A0 : Option Addr) (c0 : Nat) (l0 : List Int) (A1 : Option Addr) (c1 : Nat) (l1 : List Int) (r : Bool) (w : World) (hr0 : Kd.C (Kd.int .u8) w A0 l0.length l0) (hc0 : l0.length ≤ c0) (hr1 : Kd.C (Kd.int .u8) w A1 l1.length l1) (hc1 : l1.length ≤ c1) (h : laws_FnCrossings.f k l0 l1 = some r) :
  Calls Try.prog 6 #[.slice A0 l0.length c0, .slice A1 l1.length c1] w fun e w' => e = .returned (.bool r) ∧ Below w.heap.size w w' := by
 have hu49 := Try.underlying49
 have hu57 := Try.underlying57
 have HR0 := aM hr0
 have HC0 := aM hc0
 clear hr0 hc0
 have HR1 := aM hr1
 have HC1 := aM hc1
 clear hr1 hc1
 have HB := aM (Below.refl w.heap.size w)
 have H : ((laws_big.f l0 l1).bind fun t431 => (if t431 = true then (some true) else ((spec_DrawCrossingTable.f l0).bind fun bt432 => ((impl_CrossingTable.f k bt432.1 bt432.2).bind fun bt436 => ((spec_CrossingTable.f k bt432.1 bt432.2).bind fun bt440 => (if (bt436.2 != bt440.2) = true then (none) else ((laws_sameLists.f k bt436.1 bt440.1).bind fun t444 => (if t444 = true then (if bt436.2 = true then ((impl_CountCrossings.f k bt432.1 bt432.2).bind fun bt445 => ((spec_CountCrossings.f k bt432.1 bt432.2).bind fun bt447 => (laws_FnCrossings.l0 k l1 bt440.1 bt445.1 bt445.2 bt447.1 bt447.2 0 (bt440.1.length : Int) 0))) else (laws_FnCrossings.j2 k l1)) else (none))))))))) = some r := h
 clear h
 replace H := oB.mp H
 obtain ⟨t431, A30, H⟩ := H
 (try dsimp only at H)
 have A3 := aM A30
 clear A30
 by_cases c4 : t431 = true
 ·subst c4
  rw [if_pos rfl] at H; obtain rfl := Option.some.inj H
  go_enter Try.func6, Try.ntmps6
  go_wp2_with (first | ((with_reducible refine gate_callee (f := 25) rfl ?_); refine goesL_ (some 41) rfl rfl Try.func25 (by kernel_rfl) rfl #[.slice A0 l0.length c0, .slice A1 l1.length c1] rfl zd_ ?_; (with_reducible refine (laws_big.calls _ _ l0 _ _ l1 true _ ?side1 ?side2 ?side3 ?side4 A3.out).mono ?_); (case side1 => exact zba_); (case side2 => exact HC0.out); (case side3 => repeat (first | exact HR1.out | (with_reducible refine cA ?_ _) | (with_reducible refine cN ?_ _) | (with_reducible refine cD ?_))); (case side4 => exact HC1.out); rintro e w' ⟨rfl, ⟨nd, rfl⟩⟩; refine ⟨_, rfl, ?_⟩))
  go_ret
  exact ⟨zg_, zc_⟩
 ·replace c4 := Bool.eq_false_iff.mpr c4
  subst c4; rw [if_neg (show ¬ (false = true) by decide)] at H; replace H := oB.mp H; obtain ⟨⟨t432, t433⟩, A50, H⟩ := H; (try dsimp only at H); have A5 := aM A50; clear A50; replace H := oB.mp H; obtain ⟨⟨t436, t437⟩, A60, H⟩ := H; (try dsimp only at H); have A6 := aM A60; clear A60; replace H := oB.mp H; obtain ⟨⟨t440, t441⟩, A70, H⟩ := H; (try dsimp only at H); have A7 := aM A70; clear A70
  by_cases c8 : (t437 != t441) = true
  ·rw [if_pos c8] at H
   exact absurd H (by simp)
  rw [if_neg c8] at H; have c8b0 : (t437 != t441) = false := by simpa using c8
  (try (have c8b1 : decide (t437 = t441) = true := by simpa using c8)); (try (have c8b2 : (t437 == t441) = true := by simpa using c8)); clear c8; replace H := oB.mp H; obtain ⟨t444, A90, H⟩ := H; (try dsimp only at H); have A9 := aM A90; clear A90
  by_cases c10 : t444 = true
  ·subst c10
   rw [if_pos rfl] at H; have HC11 := aM H; clear H
   go_enter Try.func6, Try.ntmps6
   go_upto_if 68 with (first | ((with_reducible refine gate_callee (f := 25) rfl ?_); refine goesL_ (some 41) rfl rfl Try.func25 (by kernel_rfl) rfl #[.slice A0 l0.length c0, .slice A1 l1.length c1] rfl zd_ ?_; (with_reducible refine (laws_big.calls _ _ l0 _ _ l1 false _ ?side1 ?side2 ?side3 ?side4 A3.out).mono ?_); (case side1 => exact zba_); (case side2 => exact HC0.out); (case side3 => repeat (first | exact HR1.out | (with_reducible refine cA ?_ _) | (with_reducible refine cN ?_ _) | (with_reducible refine cD ?_))); (case side4 => exact HC1.out); rintro e w' ⟨rfl, ⟨nd, rfl⟩⟩; refine ⟨_, rfl, ?_⟩) | ((with_reducible refine gate_callee (f := 61) rfl ?_); refine goesL_ (some 44) rfl rfl Try.func61 (by kernel_rfl) rfl #[.slice A0 l0.length c0] rfl zd_ ?_; (with_reducible refine (spec_DrawCrossingTable.calls _ _ l0 t432 t433 _ ?side1 ?side2 A5.out).mono ?_); (case side1 => exact zba_); (case side2 => exact HC0.out); rintro e w12 ⟨v434, rfl, ho0, hb⟩; refine ⟨_, rfl, ?_⟩; have n_ := z (Kd.S_lower ho0 (below_size zc_)) <| z1 (below_step zc_ hb); clear HB; obtain ⟨HO435, HB⟩ := n_; clear hb; (try clear ho0); obtain ⟨Ao13, co13, eo13⟩ := Kd.S_slice HO435.out; subst eo13) | ((with_reducible refine gate_callee (f := 62) rfl ?_); refine goesL_ (some 50) rfl rfl Try.func62 (by kernel_rfl) rfl #[.slice Ao13 t432.length co13, .int .i64 t433] rfl zd_ ?_; (with_reducible refine (impl_CrossingTable.calls k _ _ t432 t433 t436 t437 _ ?side1 ?side2 A6.out).mono ?_); (case side1 => exact zfh_); (case side2 => exact (Kd.S_reads' HO435.out).2.1); rintro e w14 ⟨v438, rfl, ho0, hb⟩; refine ⟨_, rfl, ?_⟩; have n_ := z (Kd.S_elder' (zs HO435.out) (Kd.S_base ho0) hb) <| z (Kd.S_lower (Kd.S_new' ho0 (Kd.S_lt (zs HO435.out))) (below_size zc_)) <| z1 (below_step zc_ hb); clear HO435 HB; obtain ⟨HO435, HO439, HB⟩ := n_; clear hb; (try clear ho0)) | ((with_reducible refine gate_callee (f := 63) rfl ?_); refine goesL_ (some 56) rfl rfl Try.func63 (by kernel_rfl) rfl #[.slice Ao13 t432.length co13, .int .i64 t433] rfl zd_ ?_; (with_reducible refine (spec_CrossingTable.calls k _ _ t432 t433 t440 t441 _ ?side1 ?side2 A7.out).mono ?_); (case side1 => exact zfh_); (case side2 => exact (Kd.S_reads' HO435.out).2.1); rintro e w15 ⟨v442, rfl, ho0, hb⟩; refine ⟨_, rfl, ?_⟩; have n_ := z (Kd.S_elder' (zs HO435.out) (Kd.S_base ho0) hb) <| z (Kd.S_elder' (zs HO439.out) (Kd.S_base ho0) hb) <| z (Kd.S_lower (Kd.S_new' (Kd.S_new' ho0 (Kd.S_lt (zs HO435.out))) (Kd.S_lt (zs HO439.out))) (below_size zc_)) <| z1 (below_step zc_ hb); clear HO435 HO439 HB; obtain ⟨HO435, HO439, HO443, HB⟩ := n_; clear hb; (try clear ho0); obtain ⟨Ao16, co16, eo16⟩ := Kd.S_slice HO439.out; subst eo16; obtain ⟨Ao17, co17, eo17⟩ := Kd.S_slice HO443.out; subst eo17) | (go_at_call 36; (with_reducible refine (laws_sameLists.calls k _ _ t436 _ _ t440 true _ ?side1 ?side2 ?side3 ?side4 A9.out).mono ?_); (case side1 => repeat (first | exact (Kd.S_reads' HO439.out).2.2 | (with_reducible refine cA ?_ _) | (with_reducible refine cN ?_ _) | (with_reducible refine cD ?_))); (case side2 => exact (Kd.S_reads' HO439.out).2.1); (case side3 => repeat (first | exact (Kd.S_reads' HO443.out).2.2 | (with_reducible refine cA ?_ _) | (with_reducible refine cN ?_ _) | (with_reducible refine cD ?_))); (case side4 => exact (Kd.S_reads' HO443.out).2.1); rintro e w' ⟨rfl, ⟨nd, rfl⟩⟩))
   (try simp only [Act.put, sI, s0, sS])
   go_cut [] (fun wc => ∃ (kq : Nat), Aside0 (laws_FnCrossings.j2 kq l1 = some r) ∧ Aside0 (kq ≤ k) ∧ Aside0 (Below w.heap.size w wc))
   case first =>
    as_aux_lemma =>
     have H := HC11.out; clear HC11
     by_cases c18 : t437 = true
     ·subst c18
      rw [if_pos rfl] at H; replace H := oB.mp H; obtain ⟨⟨t445, t446⟩, A190, H⟩ := H; (try dsimp only at H); have A19 := aM A190; clear A190; replace H := oB.mp H; obtain ⟨⟨t447, t448⟩, A200, H⟩ := H; (try dsimp only at H); have A20 := aM A200; clear A200; have H' := aM H; clear H
      go_wp2_with (first | ((with_reducible refine gate_callee (f := 64) rfl ?_); refine goesL_ (some 72) rfl rfl Try.func64 (by kernel_rfl) rfl #[.slice Ao13 t432.length co13, .int .i64 t433] rfl zd_ ?_; (with_reducible refine (impl_CountCrossings.calls k _ _ t432 t433 t445 t446 _ ?side1 ?side2 A19.out).mono ?_); (case side1 => exact zfh_); (case side2 => exact (Kd.S_reads' HO435.out).2.1); rintro e w' ⟨rfl, ⟨nd, rfl⟩⟩; refine ⟨_, rfl, ?_⟩) | ((with_reducible refine gate_callee (f := 65) rfl ?_); refine goesL_ (some 78) rfl rfl Try.func65 (by kernel_rfl) rfl #[.slice Ao13 t432.length co13, .int .i64 t433] rfl zd_ ?_; (with_reducible refine (spec_CountCrossings.calls k _ _ t432 t433 t447 t448 _ ?side1 ?side2 A20.out).mono ?_); (case side1 => exact zfh_); (case side2 => exact (Kd.S_reads' HO435.out).2.1); rintro e w' ⟨rfl, ⟨nd, rfl⟩⟩; refine ⟨_, rfl, ?_⟩))
      go_loopg [15, 83] k (fun kq v15 v83 w' => ∃ (x15_1 : Int) (x83_1 : Int), v15 = .int .i64 x15_1 ∧ v83 = .int .i64 x83_1 ∧ Aside0 (laws_FnCrossings.l0 kq l1 t440 t445 t446 t447 t448 x15_1 (t440.length : Int) x83_1 = some r) ∧ Aside0 (kq ≤ k) ∧ Aside0 (Kd.S (Kd.slice 3 (Kd.int .i64)) 24 w' w.heap.size (fun _ => True) (.slice Ao17 t440.length co17) t440) ∧ Aside0 (Below w.heap.size w w'))
      case atStart => exact ⟨(0), (0), zb_, zb_, H', ⟨Nat.le_refl _⟩, ⟨by refine zs ?_; exact Kd.S_mono HO443.out (fun _ hk => trivial)⟩, ⟨zc_⟩⟩
      case round =>
       as_aux_lemma =>
        clear H'; (try clear c1); (try clear c8b0); (try clear c8b1); (try clear c8b2); obtain ⟨x15_1, x83_1, rfl, rfl, HA, HK1, HO_9, HB⟩ := hrel
        cases gk with
        | zero => exact absurd HA.out (by simp [laws_FnCrossings.l0])
        | succ k1 =>
         have H := HA.out; clear HA
         simp only [laws_FnCrossings.l0] at H
         by_cases c21 : x83_1 < (t440.length : Int)
         ·rw [if_pos c21] at H
          have c21b0 := decide_eq_true c21; clear c21; (first | rw [c21b0] | (simp only [i64_w, i32_w]; rw [c21b0]) | skip)
          by_cases c22 : 0 ≤ x83_1
          rotate_left
          ·rw [if_neg c22] at H
           exact absurd H (by simp)
          rw [if_pos c22] at H; have c22b0 := decide_eq_true c22; clear c22
          by_cases c23 : x83_1 < (t440.length : Int)
          rotate_left
          ·rw [if_neg c23] at H
           exact absurd H (by simp)
          rw [if_pos c23] at H; have c23b0 := decide_eq_true c23; clear c23; have H' := aM H; clear H; have p449 : 0 ≤ (x83_1 : Int) := of_decide_eq_true za_; have q449 : x83_1 < (t440.length : Int) := of_decide_eq_true za_; obtain ⟨ad449, A449_0, c449_0, e449, hx449_0, hl449_0, hi449_0⟩ := at_L2 (Kd.S_reads' HO_9.out).2.2 x83_1 p449 q449
          cases e449
          obtain ⟨ce449, hce449, hMe449, hcc449⟩ := Kd.S_get HO_9.out [] x83_1 p449 (by first | exact q449 | exact of_decide_eq_true za_ | (have e_ := (Kd.S_reads' HO_9.out).1; omega)); obtain ⟨ve449_0, rfl, ge449_0⟩ := hMe449; have hv449_0 := hcc449 0 _ rfl; rw [Nat.add_zero, show ((Kd.slice 3 (Kd.int .i64))).sz = 1 from rfl, Nat.mul_one] at hv449_0; replace hv449_0 := Option.some.inj (hv449_0.symm.trans hx449_0); rw [hv449_0] at ge449_0; have HL449_0 := aM (show Kd.R (Kd.int .i64) 3 _ _ _ _ (rd_L2 t440 x83_1) from ge449_0); clear hv449_0 ge449_0 hcc449 hce449; have HR449_0 := aM hi449_0; have HC449_0 := aM hl449_0; clear hi449_0 hl449_0; replace p449 := eq_true p449; replace q449 := eq_true q449
          go_wp2
          go_loopg [15, 91] k1 (fun kq v15 v91 w' => ∃ (x15_2 : Int) (x91_2 : Int), v15 = .int .i64 x15_2 ∧ v91 = .int .i64 x91_2 ∧ Aside0 (laws_FnCrossings.l1 kq l1 t440 t445 t446 t447 t448 x15_2 x83_1 (t440.length : Int) x83_1 ((rd_L2 t440 x83_1).length : Int) x91_2 = some r) ∧ Aside0 (kq ≤ k1) ∧ Aside0 (Kd.S (Kd.slice 3 (Kd.int .i64)) 24 w' w.heap.size (fun _ => True) (.slice (some ad449) t440.length co17) t440) ∧ Aside0 (Kd.C (Kd.int .i64) w' A449_0 (rd_L2 t440 x83_1).length (rd_L2 t440 x83_1)) ∧ Aside0 (Below w.heap.size w w'))
          case atStart => exact ⟨(x15_1), (0), zb_, zb_, H', ⟨Nat.le_refl _⟩, ⟨zs HO_9.out⟩, ⟨zei_⟩, ⟨zc_⟩⟩
          case round =>
           as_aux_lemma =>
            clear H'; (try clear c21b0); (try clear c22b0); (try clear c23b0); (try clear hx449_0); (try clear p449); (try clear q449); obtain ⟨x15_2, x91_2, rfl, rfl, HA, HK2, HO_9, HR449_0, HB⟩ := hrel
            cases gk with
            | zero => exact absurd HA.out (by simp [laws_FnCrossings.l1])
            | succ k2 =>
             have H := HA.out; clear HA
             simp only [laws_FnCrossings.l1] at H
             by_cases c24 : x91_2 < ((rd_L2 t440 x83_1).length : Int)
             ·rw [if_pos c24] at H
              have c24b0 := decide_eq_true c24; clear c24
              by_cases c25 : x91_2 > x83_1
              ·rw [if_pos c25] at H
               have c25b0 : decide (x83_1 < x91_2) = true := decide_eq_true c25; clear c25
               by_cases c26 : 0 ≤ x83_1
               rotate_left
               ·rw [if_neg c26] at H
                exact absurd H (by simp)
               rw [if_pos c26] at H; have c26b0 := decide_eq_true c26; clear c26
               by_cases c27 : x83_1 < (t440.length : Int)
               rotate_left
               ·rw [if_neg c27] at H
                exact absurd H (by simp)
               rw [if_pos c27] at H; have c27b0 := decide_eq_true c27; clear c27
               by_cases c28 : 0 ≤ x91_2
               rotate_left
               ·rw [if_neg c28] at H
                exact absurd H (by simp)
               rw [if_pos c28] at H; have c28b0 := decide_eq_true c28; clear c28
               by_cases c29 : x91_2 < ((rd_L2 t440 x83_1).length : Int)
               rotate_left
               ·rw [if_neg c29] at H
                exact absurd H (by simp)
               rw [if_pos c29] at H; have c29b0 := decide_eq_true c29; clear c29
               by_cases c30 : (rd (rd_L2 t440 x83_1) x91_2) < 0
               ·rw [if_pos c30] at H
                exact absurd H (by simp)
               rw [if_neg c30] at H; have c30b0 := decide_eq_false c30; clear c30
               by_cases c31 : x83_1 = x91_2
               ·rw [if_pos c31] at H
                have c31b0 := beq_iff_eq.mpr c31; have c31b1 := bne_eq_false_iff_eq.mpr c31; clear c31
                by_cases c32 : (rd (rd_L2 t440 x83_1) x91_2) = 0
                rotate_left
                ·rw [if_neg c32] at H
                 exact absurd H (by simp)
                rw [if_pos c32] at H; have c32b0 := beq_iff_eq.mpr c32; have c32b1 := bne_eq_false_iff_eq.mpr c32; clear c32; have H' := aM H; clear H; have p450 : 0 ≤ (x83_1 : Int) := of_decide_eq_true za_; have q450 : x83_1 < (t440.length : Int) := of_decide_eq_true za_; obtain ⟨ad450, A450_0, c450_0, e450, hx450_0, hl450_0, hi450_0⟩ := at_L2 (Kd.S_reads' HO_9.out).2.2 x83_1 p450 q450; obtain rfl : ad449 = ad450 := (by injection e450); obtain ⟨ce450, hce450, hMe450, hcc450⟩ := Kd.S_get HO_9.out [] x83_1 p450 (by first | exact q450 | exact of_decide_eq_true za_ | (have e_ := (Kd.S_reads' HO_9.out).1; omega)); obtain ⟨ve450_0, rfl, ge450_0⟩ := hMe450; have hv450_0 := hcc450 0 _ rfl; rw [Nat.add_zero, show ((Kd.slice 3 (Kd.int .i64))).sz = 1 from rfl, Nat.mul_one] at hv450_0; replace hv450_0 := Option.some.inj (hv450_0.symm.trans hx450_0); rw [hv450_0] at ge450_0; have HL450_0 := aM (show Kd.R (Kd.int .i64) 3 _ _ _ _ (rd_L2 t440 x83_1) from ge450_0); clear hv450_0 ge450_0 hcc450 hce450; have HR450_0 := aM hi450_0; have HC450_0 := aM hl450_0; clear hi450_0 hl450_0; replace p450 := eq_true p450; replace q450 := eq_true q450; have p451 : 0 ≤ (x91_2 : Int) := of_decide_eq_true za_; have q451 : x91_2 < ((rd_L2 t440 x83_1).length : Int) := of_decide_eq_true za_; obtain ⟨ad451, e451, hx451_0⟩ := Kd.at_int (by repeat (first | (with_reducible exact HR450_0.out) | (with_reducible refine cA ?_ _) | (with_reducible refine cN ?_ _) | (with_reducible refine cD ?_) | exact HR450_0.out)) x91_2 p451 q451
                cases e451
                replace p451 := eq_true p451; replace q451 := eq_true q451; have p452 : 0 ≤ (x83_1 : Int) := of_decide_eq_true za_; have q452 : x83_1 < (t440.length : Int) := of_decide_eq_true za_; obtain ⟨ad452, A452_0, c452_0, e452, hx452_0, hl452_0, hi452_0⟩ := at_L2 (Kd.S_reads' HO_9.out).2.2 x83_1 p452 q452; obtain rfl : ad449 = ad452 := (by injection e452); obtain ⟨ce452, hce452, hMe452, hcc452⟩ := Kd.S_get HO_9.out [] x83_1 p452 (by first | exact q452 | exact of_decide_eq_true za_ | (have e_ := (Kd.S_reads' HO_9.out).1; omega)); obtain ⟨ve452_0, rfl, ge452_0⟩ := hMe452; have hv452_0 := hcc452 0 _ rfl; rw [Nat.add_zero, show ((Kd.slice 3 (Kd.int .i64))).sz = 1 from rfl, Nat.mul_one] at hv452_0; replace hv452_0 := Option.some.inj (hv452_0.symm.trans hx452_0); rw [hv452_0] at ge452_0; have HL452_0 := aM (show Kd.R (Kd.int .i64) 3 _ _ _ _ (rd_L2 t440 x83_1) from ge452_0); clear hv452_0 ge452_0 hcc452 hce452; have HR452_0 := aM hi452_0; have HC452_0 := aM hl452_0; clear hi452_0 hl452_0; replace p452 := eq_true p452; replace q452 := eq_true q452; have ea_ := Option.some.inj (hx450_0.symm.trans hx452_0)
                injection ea_ with ea_ en_ ec_
                subst ea_; subst ec_; clear en_; have p453 : 0 ≤ (x91_2 : Int) := of_decide_eq_true za_; have q453 : x91_2 < ((rd_L2 t440 x83_1).length : Int) := of_decide_eq_true za_; obtain ⟨ad453, e453, hx453_0⟩ := Kd.at_int (by repeat (first | (with_reducible exact HR452_0.out) | (with_reducible refine cA ?_ _) | (with_reducible refine cN ?_ _) | (with_reducible refine cD ?_) | exact HR452_0.out)) x91_2 p453 q453
                cases e453
                replace p453 := eq_true p453; replace q453 := eq_true q453; have p454 : 0 ≤ (x83_1 : Int) := of_decide_eq_true za_; have q454 : x83_1 < (t440.length : Int) := of_decide_eq_true za_; obtain ⟨ad454, A454_0, c454_0, e454, hx454_0, hl454_0, hi454_0⟩ := at_L2 (Kd.S_reads' HO_9.out).2.2 x83_1 p454 q454; obtain rfl : ad449 = ad454 := (by injection e454); obtain ⟨ce454, hce454, hMe454, hcc454⟩ := Kd.S_get HO_9.out [] x83_1 p454 (by first | exact q454 | exact of_decide_eq_true za_ | (have e_ := (Kd.S_reads' HO_9.out).1; omega)); obtain ⟨ve454_0, rfl, ge454_0⟩ := hMe454; have hv454_0 := hcc454 0 _ rfl; rw [Nat.add_zero, show ((Kd.slice 3 (Kd.int .i64))).sz = 1 from rfl, Nat.mul_one] at hv454_0; replace hv454_0 := Option.some.inj (hv454_0.symm.trans hx454_0); rw [hv454_0] at ge454_0; have HL454_0 := aM (show Kd.R (Kd.int .i64) 3 _ _ _ _ (rd_L2 t440 x83_1) from ge454_0); clear hv454_0 ge454_0 hcc454 hce454; have HR454_0 := aM hi454_0; have HC454_0 := aM hl454_0; clear hi454_0 hl454_0; replace p454 := eq_true p454; replace q454 := eq_true q454; have ea_ := Option.some.inj (hx450_0.symm.trans hx454_0)
                injection ea_ with ea_ en_ ec_
                subst ea_; subst ec_; clear en_; have p455 : 0 ≤ (x91_2 : Int) := of_decide_eq_true za_; have q455 : x91_2 < ((rd_L2 t440 x83_1).length : Int) := of_decide_eq_true za_; obtain ⟨ad455, e455, hx455_0⟩ := Kd.at_int (by repeat (first | (with_reducible exact HR454_0.out) | (with_reducible refine cA ?_ _) | (with_reducible refine cN ?_ _) | (with_reducible refine cD ?_) | exact HR454_0.out)) x91_2 p455 q455
                cases e455
                replace p455 := eq_true p455; replace q455 := eq_true q455
                go_wp2
                go_roundg k2
                case measure => have := HK1.out; have := HK2.out; omega
                case rel => exact ⟨(wrap64 (x15_2 + (rd (rd_L2 t440 x83_1) x91_2))), (wrap64 (x91_2 + 1)), zb_, zb_, H', ⟨zcg_⟩, ⟨zs HO_9.out⟩, ⟨zei_⟩, ⟨zc_⟩⟩
               ·rw [if_neg c31] at H
                have c31b0 := beq_eq_false_iff_ne.mpr c31; have c31b1 := bne_iff_ne.mpr c31; have H' := aM H; clear H; have p450 : 0 ≤ (x83_1 : Int) := of_decide_eq_true za_; have q450 : x83_1 < (t440.length : Int) := of_decide_eq_true za_; obtain ⟨ad450, A450_0, c450_0, e450, hx450_0, hl450_0, hi450_0⟩ := at_L2 (Kd.S_reads' HO_9.out).2.2 x83_1 p450 q450; obtain rfl : ad449 = ad450 := (by injection e450); obtain ⟨ce450, hce450, hMe450, hcc450⟩ := Kd.S_get HO_9.out [] x83_1 p450 (by first | exact q450 | exact of_decide_eq_true za_ | (have e_ := (Kd.S_reads' HO_9.out).1; omega)); obtain ⟨ve450_0, rfl, ge450_0⟩ := hMe450; have hv450_0 := hcc450 0 _ rfl; rw [Nat.add_zero, show ((Kd.slice 3 (Kd.int .i64))).sz = 1 from rfl, Nat.mul_one] at hv450_0; replace hv450_0 := Option.some.inj (hv450_0.symm.trans hx450_0); rw [hv450_0] at ge450_0; have HL450_0 := aM (show Kd.R (Kd.int .i64) 3 _ _ _ _ (rd_L2 t440 x83_1) from ge450_0); clear hv450_0 ge450_0 hcc450 hce450; have HR450_0 := aM hi450_0; have HC450_0 := aM hl450_0; clear hi450_0 hl450_0; replace p450 := eq_true p450; replace q450 := eq_true q450; have p451 : 0 ≤ (x91_2 : Int) := of_decide_eq_true za_; have q451 : x91_2 < ((rd_L2 t440 x83_1).length : Int) := of_decide_eq_true za_; obtain ⟨ad451, e451, hx451_0⟩ := Kd.at_int (by repeat (first | (with_reducible exact HR450_0.out) | (with_reducible refine cA ?_ _) | (with_reducible refine cN ?_ _) | (with_reducible refine cD ?_) | exact HR450_0.out)) x91_2 p451 q451
                cases e451
                replace p451 := eq_true p451; replace q451 := eq_true q451; have p452 : 0 ≤ (x83_1 : Int) := of_decide_eq_true za_; have q452 : x83_1 < (t440.length : Int) := of_decide_eq_true za_; obtain ⟨ad452, A452_0, c452_0, e452, hx452_0, hl452_0, hi452_0⟩ := at_L2 (Kd.S_reads' HO_9.out).2.2 x83_1 p452 q452; obtain rfl : ad449 = ad452 := (by injection e452); obtain ⟨ce452, hce452, hMe452, hcc452⟩ := Kd.S_get HO_9.out [] x83_1 p452 (by first | exact q452 | exact of_decide_eq_true za_ | (have e_ := (Kd.S_reads' HO_9.out).1; omega)); obtain ⟨ve452_0, rfl, ge452_0⟩ := hMe452; have hv452_0 := hcc452 0 _ rfl; rw [Nat.add_zero, show ((Kd.slice 3 (Kd.int .i64))).sz = 1 from rfl, Nat.mul_one] at hv452_0; replace hv452_0 := Option.some.inj (hv452_0.symm.trans hx452_0); rw [hv452_0] at ge452_0; have HL452_0 := aM (show Kd.R (Kd.int .i64) 3 _ _ _ _ (rd_L2 t440 x83_1) from ge452_0); clear hv452_0 ge452_0 hcc452 hce452; have HR452_0 := aM hi452_0; have HC452_0 := aM hl452_0; clear hi452_0 hl452_0; replace p452 := eq_true p452; replace q452 := eq_true q452; have ea_ := Option.some.inj (hx450_0.symm.trans hx452_0)
                injection ea_ with ea_ en_ ec_
                subst ea_; subst ec_; clear en_; have p453 : 0 ≤ (x91_2 : Int) := of_decide_eq_true za_; have q453 : x91_2 < ((rd_L2 t440 x83_1).length : Int) := of_decide_eq_true za_; obtain ⟨ad453, e453, hx453_0⟩ := Kd.at_int (by repeat (first | (with_reducible exact HR452_0.out) | (with_reducible refine cA ?_ _) | (with_reducible refine cN ?_ _) | (with_reducible refine cD ?_) | exact HR452_0.out)) x91_2 p453 q453
                cases e453
                replace p453 := eq_true p453; replace q453 := eq_true q453
                go_wp2
                go_roundg k2
                case measure => have := HK1.out; have := HK2.out; omega
                case rel => exact ⟨(wrap64 (x15_2 + (rd (rd_L2 t440 x83_1) x91_2))), (wrap64 (x91_2 + 1)), zb_, zb_, H', ⟨zcg_⟩, ⟨zs HO_9.out⟩, ⟨zei_⟩, ⟨zc_⟩⟩
              ·rw [if_neg c25] at H
               have c25b0 : decide (x83_1 < x91_2) = false := decide_eq_false c25; clear c25
               by_cases c33 : 0 ≤ x83_1
               rotate_left
               ·rw [if_neg c33] at H
                exact absurd H (by simp)
               rw [if_pos c33] at H; have c33b0 := decide_eq_true c33; clear c33
               by_cases c34 : x83_1 < (t440.length : Int)
               rotate_left
               ·rw [if_neg c34] at H
                exact absurd H (by simp)
               rw [if_pos c34] at H; have c34b0 := decide_eq_true c34; clear c34
               by_cases c35 : 0 ≤ x91_2
               rotate_left
               ·rw [if_neg c35] at H
                exact absurd H (by simp)
               rw [if_pos c35] at H; have c35b0 := decide_eq_true c35; clear c35
               by_cases c36 : x91_2 < ((rd_L2 t440 x83_1).length : Int)
               rotate_left
               ·rw [if_neg c36] at H
                exact absurd H (by simp)
               rw [if_pos c36] at H; have c36b0 := decide_eq_true c36; clear c36
               by_cases c37 : (rd (rd_L2 t440 x83_1) x91_2) < 0
               ·rw [if_pos c37] at H
                exact absurd H (by simp)
               rw [if_neg c37] at H; have c37b0 := decide_eq_false c37; clear c37
               by_cases c38 : x83_1 = x91_2
               ·rw [if_pos c38] at H
                have c38b0 := beq_iff_eq.mpr c38; have c38b1 := bne_eq_false_iff_eq.mpr c38; clear c38
                by_cases c39 : (rd (rd_L2 t440 x83_1) x91_2) = 0
                rotate_left
                ·rw [if_neg c39] at H
                 exact absurd H (by simp)
                rw [if_pos c39] at H; have c39b0 := beq_iff_eq.mpr c39; have c39b1 := bne_eq_false_iff_eq.mpr c39; clear c39; have H' := aM H; clear H; have p456 : 0 ≤ (x83_1 : Int) := of_decide_eq_true za_; have q456 : x83_1 < (t440.length : Int) := of_decide_eq_true za_; obtain ⟨ad456, A456_0, c456_0, e456, hx456_0, hl456_0, hi456_0⟩ := at_L2 (Kd.S_reads' HO_9.out).2.2 x83_1 p456 q456; obtain rfl : ad449 = ad456 := (by injection e456); obtain ⟨ce456, hce456, hMe456, hcc456⟩ := Kd.S_get HO_9.out [] x83_1 p456 (by first | exact q456 | exact of_decide_eq_true za_ | (have e_ := (Kd.S_reads' HO_9.out).1; omega)); obtain ⟨ve456_0, rfl, ge456_0⟩ := hMe456; have hv456_0 := hcc456 0 _ rfl; rw [Nat.add_zero, show ((Kd.slice 3 (Kd.int .i64))).sz = 1 from rfl, Nat.mul_one] at hv456_0; replace hv456_0 := Option.some.inj (hv456_0.symm.trans hx456_0); rw [hv456_0] at ge456_0; have HL456_0 := aM (show Kd.R (Kd.int .i64) 3 _ _ _ _ (rd_L2 t440 x83_1) from ge456_0); clear hv456_0 ge456_0 hcc456 hce456; have HR456_0 := aM hi456_0; have HC456_0 := aM hl456_0; clear hi456_0 hl456_0; replace p456 := eq_true p456; replace q456 := eq_true q456; have p457 : 0 ≤ (x91_2 : Int) := of_decide_eq_true za_; have q457 : x91_2 < ((rd_L2 t440 x83_1).length : Int) := of_decide_eq_true za_; obtain ⟨ad457, e457, hx457_0⟩ := Kd.at_int (by repeat (first | (with_reducible exact HR456_0.out) | (with_reducible refine cA ?_ _) | (with_reducible refine cN ?_ _) | (with_reducible refine cD ?_) | exact HR456_0.out)) x91_2 p457 q457
                cases e457
                replace p457 := eq_true p457; replace q457 := eq_true q457; have p458 : 0 ≤ (x83_1 : Int) := of_decide_eq_true za_; have q458 : x83_1 < (t440.length : Int) := of_decide_eq_true za_; obtain ⟨ad458, A458_0, c458_0, e458, hx458_0, hl458_0, hi458_0⟩ := at_L2 (Kd.S_reads' HO_9.out).2.2 x83_1 p458 q458; obtain rfl : ad449 = ad458 := (by injection e458); obtain ⟨ce458, hce458, hMe458, hcc458⟩ := Kd.S_get HO_9.out [] x83_1 p458 (by first | exact q458 | exact of_decide_eq_true za_ | (have e_ := (Kd.S_reads' HO_9.out).1; omega)); obtain ⟨ve458_0, rfl, ge458_0⟩ := hMe458; have hv458_0 := hcc458 0 _ rfl; rw [Nat.add_zero, show ((Kd.slice 3 (Kd.int .i64))).sz = 1 from rfl, Nat.mul_one] at hv458_0; replace hv458_0 := Option.some.inj (hv458_0.symm.trans hx458_0); rw [hv458_0] at ge458_0; have HL458_0 := aM (show Kd.R (Kd.int .i64) 3 _ _ _ _ (rd_L2 t440 x83_1) from ge458_0); clear hv458_0 ge458_0 hcc458 hce458; have HR458_0 := aM hi458_0; have HC458_0 := aM hl458_0; clear hi458_0 hl458_0; replace p458 := eq_true p458; replace q458 := eq_true q458; have ea_ := Option.some.inj (hx456_0.symm.trans hx458_0)
                injection ea_ with ea_ en_ ec_
                subst ea_; subst ec_; clear en_; have p459 : 0 ≤ (x91_2 : Int) := of_decide_eq_true za_; have q459 : x91_2 < ((rd_L2 t440 x83_1).length : Int) := of_decide_eq_true za_; obtain ⟨ad459, e459, hx459_0⟩ := Kd.at_int (by repeat (first | (with_reducible exact HR458_0.out) | (with_reducible refine cA ?_ _) | (with_reducible refine cN ?_ _) | (with_reducible refine cD ?_) | exact HR458_0.out)) x91_2 p459 q459
                cases e459
                replace p459 := eq_true p459; replace q459 := eq_true q459
                go_wp2
                go_roundg k2
                case measure => have := HK1.out; have := HK2.out; omega
                case rel => exact ⟨(x15_2), (wrap64 (x91_2 + 1)), zb_, zb_, H', ⟨zcg_⟩, ⟨zs HO_9.out⟩, ⟨zei_⟩, ⟨zc_⟩⟩
               ·rw [if_neg c38] at H
                have c38b0 := beq_eq_false_iff_ne.mpr c38; have c38b1 := bne_iff_ne.mpr c38; have H' := aM H; clear H; have p456 : 0 ≤ (x83_1 : Int) := of_decide_eq_true za_; have q456 : x83_1 < (t440.length : Int) := of_decide_eq_true za_; obtain ⟨ad456, A456_0, c456_0, e456, hx456_0, hl456_0, hi456_0⟩ := at_L2 (Kd.S_reads' HO_9.out).2.2 x83_1 p456 q456; obtain rfl : ad449 = ad456 := (by injection e456); obtain ⟨ce456, hce456, hMe456, hcc456⟩ := Kd.S_get HO_9.out [] x83_1 p456 (by first | exact q456 | exact of_decide_eq_true za_ | (have e_ := (Kd.S_reads' HO_9.out).1; omega)); obtain ⟨ve456_0, rfl, ge456_0⟩ := hMe456; have hv456_0 := hcc456 0 _ rfl; rw [Nat.add_zero, show ((Kd.slice 3 (Kd.int .i64))).sz = 1 from rfl, Nat.mul_one] at hv456_0; replace hv456_0 := Option.some.inj (hv456_0.symm.trans hx456_0); rw [hv456_0] at ge456_0; have HL456_0 := aM (show Kd.R (Kd.int .i64) 3 _ _ _ _ (rd_L2 t440 x83_1) from ge456_0); clear hv456_0 ge456_0 hcc456 hce456; have HR456_0 := aM hi456_0; have HC456_0 := aM hl456_0; clear hi456_0 hl456_0; replace p456 := eq_true p456; replace q456 := eq_true q456; have p457 : 0 ≤ (x91_2 : Int) := of_decide_eq_true za_; have q457 : x91_2 < ((rd_L2 t440 x83_1).length : Int) := of_decide_eq_true za_; obtain ⟨ad457, e457, hx457_0⟩ := Kd.at_int (by repeat (first | (with_reducible exact HR456_0.out) | (with_reducible refine cA ?_ _) | (with_reducible refine cN ?_ _) | (with_reducible refine cD ?_) | exact HR456_0.out)) x91_2 p457 q457
                cases e457
                replace p457 := eq_true p457; replace q457 := eq_true q457
                go_wp2
                go_roundg k2
                case measure => have := HK1.out; have := HK2.out; omega
                case rel => exact ⟨(x15_2), (wrap64 (x91_2 + 1)), zb_, zb_, H', ⟨zcg_⟩, ⟨zs HO_9.out⟩, ⟨zei_⟩, ⟨zc_⟩⟩
             ·rw [if_neg c24] at H
              have c24b0 := decide_eq_false c24; clear c24; have H' := aM H; clear H
              go_wp2
              go_roundg k2
              case measure => have := HK1.out; have := HK2.out; omega
              case rel => exact ⟨(x15_2), (wrap64 (x83_1 + 1)), zb_, zb_, H', ⟨zcg_⟩, ⟨zs HO_9.out⟩, ⟨zc_⟩⟩
         ·rw [if_neg c21] at H
          have c21b0 := decide_eq_false c21; clear c21; (first | rw [c21b0] | (simp only [i64_w, i32_w]; rw [c21b0]) | skip)
          by_cases c40 : t446 = true
          ·subst c40
           rw [if_pos rfl] at H
           by_cases c41 : t448 = true
           ·subst c41
            rw [if_pos rfl] at H
            by_cases c42 : t445 = t447
            rotate_left
            ·rw [if_neg c42] at H
             exact absurd H (by simp)
            rw [if_pos c42] at H; have c42b0 := beq_iff_eq.mpr c42; have c42b1 := bne_eq_false_iff_eq.mpr c42; clear c42
            by_cases c43 : x15_1 = t447
            rotate_left
            ·rw [if_neg c43] at H
             exact absurd H (by simp)
            rw [if_pos c43] at H; have c43b0 := beq_iff_eq.mpr c43; have c43b1 := bne_eq_false_iff_eq.mpr c43; clear c43; have H' := aM H; clear H
            go_wp2
            go_meet
            case rel => exact ⟨_, H', ⟨by have := HK1.out; first | omega | exact Nat.le_refl _⟩, ⟨zc_⟩⟩
           ·replace c41 := Bool.eq_false_iff.mpr c41
            subst c41; rw [if_neg (show ¬ (false = true) by decide)] at H; exact absurd H (by simp)
          ·replace c40 := Bool.eq_false_iff.mpr c40
           subst c40; rw [if_neg (show ¬ (false = true) by decide)] at H; exact absurd H (by simp)
     ·replace c18 := Bool.eq_false_iff.mpr c18
      subst c18; rw [if_neg (show ¬ (false = true) by decide)] at H; have H' := aM H; clear H
      go_wp2
      go_meet
      case rel => exact ⟨_, H', ⟨zbf_⟩, ⟨zc_⟩⟩
   case rest =>
    as_aux_lemma =>
     clear HC11; (try clear c1); (try clear c8b0); (try clear c8b1); (try clear c8b2); obtain ⟨kq, HA, HJ10, HB⟩ := hcut
     cases kq with
     | zero => exact absurd HA.out (by simp [laws_FnCrossings.j2])
     | succ kj10 =>
      have H := HA.out; clear HA
      simp only [laws_FnCrossings.j2] at H
      replace H := oB.mp H; obtain ⟨⟨t460, t461, t462⟩, A440, H⟩ := H; (try dsimp only at H); have A44 := aM A440; clear A440; replace H := oB.mp H; obtain ⟨⟨t467, t468⟩, A450, H⟩ := H; (try dsimp only at H); have A45 := aM A450; clear A450; replace H := oB.mp H; obtain ⟨⟨t471, t472⟩, A460, H⟩ := H; (try dsimp only at H); have A46 := aM A460; clear A460
      by_cases c47 : (t468 != t472) = true
      ·rw [if_pos c47] at H
       exact absurd H (by simp)
      rw [if_neg c47] at H; have c47b0 : (t468 != t472) = false := by simpa using c47
      (try (have c47b1 : decide (t468 = t472) = true := by simpa using c47)); (try (have c47b2 : (t468 == t472) = true := by simpa using c47)); clear c47; replace H := oB.mp H; obtain ⟨t475, A480, H⟩ := H; (try dsimp only at H); have A48 := aM A480; clear A480
      by_cases c49 : t475 = true
      ·subst c49
       rw [if_pos rfl] at H; have HC50 := aM H; clear H
       go_upto_if 176 with (first | ((with_reducible refine gate_callee (f := 66) rfl ?_); refine goesL_ (some 149) rfl rfl Try.func66 (by kernel_rfl) rfl #[.slice A1 l1.length c1] rfl zd_ ?_; (with_reducible refine (spec_DrawMovePoints.calls _ _ l1 t460 t461 t462 _ ?side1 ?side2 A44.out).mono ?_); (case side1 => exact zhc_); (case side2 => exact HC1.out); rintro e w51 ⟨v463, v465, rfl, ho0, ho1, hb⟩; refine ⟨_, rfl, ?_⟩; have n_ := z (Kd.S_lower ho0 (below_size zc_)) <| z (Kd.R_lower ho1 (below_size zc_)) <| z1 (below_step zc_ hb); clear HB; obtain ⟨HO464, HO466, HB⟩ := n_; clear hb; (try clear ho0); (try clear ho1); obtain ⟨Ao52, co52, eo52⟩ := Kd.S_slice HO464.out; subst eo52; obtain ⟨Ao53, co53, eo53⟩ := Kd.R_slice HO466.out; subst eo53) | ((with_reducible refine gate_callee (f := 67) rfl ?_); refine goesL_ (some 157) rfl rfl Try.func67 (by kernel_rfl) rfl #[.slice Ao52 t460.length co52, .int .i64 t461, .slice Ao53 t462.length co53] rfl zd_ ?_; (with_reducible refine (impl_MovePoints.calls kj10 _ _ t460 t461 _ _ t462 t467 t468 _ ?side1 ?side2 ?side3 ?side4 A45.out).mono ?_); (case side1 => repeat (first | exact (Kd.S_reads' HO464.out).2.2 | (with_reducible refine cA ?_ _) | (with_reducible refine cN ?_ _) | (with_reducible refine cD ?_))); (case side2 => exact (Kd.S_reads' HO464.out).2.1); (case side3 => repeat (first | exact (Kd.R_reads' HO466.out).2.2 | (with_reducible refine cA ?_ _) | (with_reducible refine cN ?_ _) | (with_reducible refine cD ?_))); (case side4 => exact (Kd.R_reads' HO466.out).2.1); rintro e w54 ⟨v469, rfl, ho0, hb⟩; refine ⟨_, rfl, ?_⟩; have n_ := z (Kd.S_elder' (zs HO464.out) (Kd.S_base ho0) hb) <| z (Kd.R_below (zr HO466.out) hb) <| z (Kd.S_lower (Kd.S_new' (Kd.S_new' ho0 (Kd.S_lt (zs HO464.out))) (Kd.R_lt (zr HO466.out))) (below_size zc_)) <| z1 (below_step zc_ hb); clear HO464 HO466 HB; obtain ⟨HO464, HO466, HO470, HB⟩ := n_; clear hb; (try clear ho0)) | ((with_reducible refine gate_callee (f := 68) rfl ?_); refine goesL_ (some 164) rfl rfl Try.func68 (by kernel_rfl) rfl #[.slice Ao52 t460.length co52, .int .i64 t461, .slice Ao53 t462.length co53] rfl zd_ ?_; (with_reducible refine (spec_MovePoints.calls kj10 _ _ t460 t461 _ _ t462 t471 t472 _ ?side1 ?side2 ?side3 ?side4 A46.out).mono ?_); (case side1 => repeat (first | exact (Kd.S_reads' HO464.out).2.2 | (with_reducible refine cA ?_ _) | (with_reducible refine cN ?_ _) | (with_reducible refine cD ?_))); (case side2 => exact (Kd.S_reads' HO464.out).2.1); (case side3 => repeat (first | exact (Kd.R_reads' HO466.out).2.2 | (with_reducible refine cA ?_ _) | (with_reducible refine cN ?_ _) | (with_reducible refine cD ?_))); (case side4 => exact (Kd.R_reads' HO466.out).2.1); rintro e w55 ⟨v473, rfl, ho0, hb⟩; refine ⟨_, rfl, ?_⟩; have n_ := z (Kd.S_elder' (zs HO464.out) (Kd.S_base ho0) hb) <| z (Kd.R_below (zr HO466.out) hb) <| z (Kd.S_elder' (zs HO470.out) (Kd.S_base ho0) hb) <| z (Kd.S_lower (Kd.S_new' (Kd.S_new' (Kd.S_new' ho0 (Kd.S_lt (zs HO464.out))) (Kd.R_lt (zr HO466.out))) (Kd.S_lt (zs HO470.out))) (below_size zc_)) <| z1 (below_step zc_ hb); clear HO464 HO466 HO470 HB; obtain ⟨HO464, HO466, HO470, HO474, HB⟩ := n_; clear hb; (try clear ho0); obtain ⟨Ao56, co56, eo56⟩ := Kd.S_slice HO470.out; subst eo56; obtain ⟨Ao57, co57, eo57⟩ := Kd.S_slice HO474.out; subst eo57) | (go_at_call 36; (with_reducible refine (laws_sameLists.calls kj10 _ _ t467 _ _ t471 true _ ?side1 ?side2 ?side3 ?side4 A48.out).mono ?_); (case side1 => repeat (first | exact (Kd.S_reads' HO470.out).2.2 | (with_reducible refine cA ?_ _) | (with_reducible refine cN ?_ _) | (with_reducible refine cD ?_))); (case side2 => exact (Kd.S_reads' HO470.out).2.1); (case side3 => repeat (first | exact (Kd.S_reads' HO474.out).2.2 | (with_reducible refine cA ?_ _) | (with_reducible refine cN ?_ _) | (with_reducible refine cD ?_))); (case side4 => exact (Kd.S_reads' HO474.out).2.1); rintro e w' ⟨rfl, ⟨nd, rfl⟩⟩))
       (try simp only [Act.put, sI, s0, sS])
       go_cut [] (fun wc => ∃ (kq : Nat), Aside0 (laws_FnCrossings.j4 kq l1 = some r) ∧ Aside0 (kq ≤ kj10) ∧ Aside0 (Below w.heap.size w wc))
       case first =>
        as_aux_lemma =>
         have H := HC50.out; clear HC50
         by_cases c58 : t468 = true
         ·subst c58
          rw [if_pos rfl] at H; have H' := aM H; clear H
          go_wp2
          go_loopg [179] kj10 (fun kq v179 w' => ∃ (x179_2 : Int), v179 = .int .i64 x179_2 ∧ Aside0 (laws_FnCrossings.l2 kq l1 t460 t461 t462 t467 t471 (t471.length : Int) x179_2 = some r) ∧ Aside0 (kq ≤ kj10) ∧ Aside0 (Kd.S (Kd.slice 3 (Kd.int .i64)) 24 w' w.heap.size (fun k_ => some k_ ≠ ((.slice Ao53 t462.length co53) : Value).ownBlock ∧ some k_ ≠ ((.slice Ao56 t467.length co56) : Value).ownBlock ∧ some k_ ≠ ((.slice Ao57 t471.length co57) : Value).ownBlock) (.slice Ao52 t460.length co52) t460) ∧ Aside0 (Kd.R (Kd.int .i64) 3 w' w.heap.size (fun _ => True) (.slice Ao53 t462.length co53) t462) ∧ Aside0 (Kd.S (Kd.slice 3 (Kd.int .i64)) 24 w' w.heap.size (fun k_ => some k_ ≠ ((.slice Ao52 t460.length co52) : Value).ownBlock ∧ some k_ ≠ ((.slice Ao53 t462.length co53) : Value).ownBlock ∧ some k_ ≠ ((.slice Ao57 t471.length co57) : Value).ownBlock) (.slice Ao56 t467.length co56) t467) ∧ Aside0 (Kd.S (Kd.slice 3 (Kd.int .i64)) 24 w' w.heap.size (fun k_ => some k_ ≠ ((.slice Ao52 t460.length co52) : Value).ownBlock ∧ some k_ ≠ ((.slice Ao53 t462.length co53) : Value).ownBlock ∧ some k_ ≠ ((.slice Ao56 t467.length co56) : Value).ownBlock) (.slice Ao57 t471.length co57) t471) ∧ Aside0 (Below w.heap.size w w'))
          case atStart => exact ⟨(0), zb_, H', ⟨Nat.le_refl _⟩, ⟨by refine zs ?_; exact Kd.S_mono HO464.out (fun _ hk => ⟨hk.1.1, ⟨hk.1.2, hk.2⟩⟩)⟩, ⟨zr HO466.out⟩, ⟨by refine zs ?_; exact Kd.S_mono HO470.out (fun _ hk => ⟨hk.1.1.2, ⟨hk.1.2, hk.2⟩⟩)⟩, ⟨by refine zs ?_; exact Kd.S_mono HO474.out (fun _ hk => ⟨hk.1.1.2, ⟨hk.1.2, hk.2⟩⟩)⟩, ⟨zc_⟩⟩
          case round =>
           as_aux_lemma =>
            clear H'; (try clear c1); (try clear c47b0); (try clear c47b1); (try clear c47b2); obtain ⟨x179_2, rfl, HA, HK2, HO_18, HO_20, HO_21, HO_177, HB⟩ := hrel
            cases gk with
            | zero => exact absurd HA.out (by simp [laws_FnCrossings.l2])
            | succ k2 =>
             have H := HA.out; clear HA
             simp only [laws_FnCrossings.l2] at H
             by_cases c59 : x179_2 < (t471.length : Int)
             ·rw [if_pos c59] at H
              have c59b0 := decide_eq_true c59; clear c59; (first | rw [c59b0] | (simp only [i64_w, i32_w]; rw [c59b0]) | skip)
              by_cases c60 : 0 ≤ x179_2
              rotate_left
              ·rw [if_neg c60] at H
               exact absurd H (by simp)
              rw [if_pos c60] at H; have c60b0 := decide_eq_true c60; clear c60
              by_cases c61 : x179_2 < (t471.length : Int)
              rotate_left
              ·rw [if_neg c61] at H
               exact absurd H (by simp)
              rw [if_pos c61] at H; have c61b0 := decide_eq_true c61; clear c61
              by_cases c62 : 0 < ((rd_L2 t471 x179_2).length : Int)
              rotate_left
              ·rw [if_neg c62] at H
               exact absurd H (by simp)
              rw [if_pos c62] at H; have c62b0 := decide_eq_true c62; have c62b1 : decide (0 < (rd_L2 t471 x179_2).length) = true := decide_eq_true (by omega); clear c62
              by_cases c63 : x179_2 < (t460.length : Int)
              rotate_left
              ·rw [if_neg c63] at H
               exact absurd H (by simp)
              rw [if_pos c63] at H; have c63b0 := decide_eq_true c63; clear c63
              by_cases c64 : 0 < ((rd_L2 t460 x179_2).length : Int)
              rotate_left
              ·rw [if_neg c64] at H
               exact absurd H (by simp)
              rw [if_pos c64] at H; have c64b0 := decide_eq_true c64; have c64b1 : decide (0 < (rd_L2 t460 x179_2).length) = true := decide_eq_true (by omega); clear c64
              by_cases c65 : (rd (rd_L2 t471 x179_2) 0) = (rd (rd_L2 t460 x179_2) 0)
              ·rw [if_pos c65] at H
               have c65b0 := beq_iff_eq.mpr c65; have c65b1 := bne_eq_false_iff_eq.mpr c65; clear c65
               by_cases c66 : 1 < ((rd_L2 t471 x179_2).length : Int)
               rotate_left
               ·rw [if_neg c66] at H
                exact absurd H (by simp)
               rw [if_pos c66] at H; have c66b0 := decide_eq_true c66; have c66b1 : decide (1 < (rd_L2 t471 x179_2).length) = true := decide_eq_true (by omega); clear c66
               by_cases c67 : 1 < ((rd_L2 t460 x179_2).length : Int)
               rotate_left
               ·rw [if_neg c67] at H
                exact absurd H (by simp)
               rw [if_pos c67] at H; have c67b0 := decide_eq_true c67; have c67b1 : decide (1 < (rd_L2 t460 x179_2).length) = true := decide_eq_true (by omega); clear c67
               by_cases c68 : 0 ≤ (rd (rd_L2 t460 x179_2) 1)
               rotate_left
               ·rw [if_neg c68] at H
                exact absurd H (by simp)
               rw [if_pos c68] at H; have c68b0 := decide_eq_true c68; clear c68
               by_cases c69 : (rd (rd_L2 t460 x179_2) 1) < (t462.length : Int)
               rotate_left
               ·rw [if_neg c69] at H
                exact absurd H (by simp)
               rw [if_pos c69] at H; have c69b0 := decide_eq_true c69; clear c69
               by_cases c70 : (rd (rd_L2 t471 x179_2) 1) = (rd t462 (rd (rd_L2 t460 x179_2) 1))
               rotate_left
               ·rw [if_neg c70] at H
                exact absurd H (by simp)
               rw [if_pos c70] at H; have c70b0 := beq_iff_eq.mpr c70; have c70b1 := bne_eq_false_iff_eq.mpr c70; clear c70; have H' := aM H; clear H; have p476 : 0 ≤ (x179_2 : Int) := of_decide_eq_true za_; have q476 : x179_2 < (t471.length : Int) := of_decide_eq_true za_; obtain ⟨ad476, A476_0, c476_0, e476, hx476_0, hl476_0, hi476_0⟩ := at_L2 (Kd.S_reads' HO_177.out).2.2 x179_2 p476 q476
               cases e476
               obtain ⟨ce476, hce476, hMe476, hcc476⟩ := Kd.S_get HO_177.out [] x179_2 p476 (by first | exact q476 | exact of_decide_eq_true za_ | (have e_ := (Kd.S_reads' HO_177.out).1; omega)); obtain ⟨ve476_0, rfl, ge476_0⟩ := hMe476; have hv476_0 := hcc476 0 _ rfl; rw [Nat.add_zero, show ((Kd.slice 3 (Kd.int .i64))).sz = 1 from rfl, Nat.mul_one] at hv476_0; replace hv476_0 := Option.some.inj (hv476_0.symm.trans hx476_0); rw [hv476_0] at ge476_0; have HL476_0 := aM (show Kd.R (Kd.int .i64) 3 _ _ _ _ (rd_L2 t471 x179_2) from ge476_0); clear hv476_0 ge476_0 hcc476 hce476; have HR476_0 := aM hi476_0; have HC476_0 := aM hl476_0; clear hi476_0 hl476_0; replace p476 := eq_true p476; replace q476 := eq_true q476; (try go_wp2); have n_ := z (Kd.S_drew HO_18.out) <| z (kD HO_20.out) <| z (Kd.S_drew HO_21.out) <| z (Kd.S_drew HO_177.out) <| z (kD HL476_0.out) <| z (cD HR476_0.out) <| z1 (p1 HB.out)
               clear HO_18 HO_20 HO_21 HO_177 HL476_0 HR476_0 HB; obtain ⟨HO_18, HO_20, HO_21, HO_177, HL476_0, HR476_0, HB⟩ := n_; have p477 : 0 ≤ (0 : Int) := (by omega); have q477 : 0 < ((rd_L2 t471 x179_2).length : Int) := of_decide_eq_true za_; obtain ⟨ad477, e477, hx477_0⟩ := Kd.at_int (by repeat (first | (with_reducible exact HR476_0.out) | (with_reducible refine cA ?_ _) | (with_reducible refine cN ?_ _) | (with_reducible refine cD ?_) | exact HR476_0.out)) 0 p477 q477
               cases e477
               have qi477 : (0 < (rd_L2 t471 x179_2).length) = True := eq_true (by omega); (try rw [show ((0 : Int)).toNat = 0 from rfl] at hx477_0); (try rw [Addr.add_zero'] at hx477_0); replace p477 := eq_true p477; replace q477 := eq_true q477; have p478 : 0 ≤ (x179_2 : Int) := of_decide_eq_true za_; have q478 : x179_2 < (t460.length : Int) := of_decide_eq_true za_; obtain ⟨ad478, A478_0, c478_0, e478, hx478_0, hl478_0, hi478_0⟩ := at_L2 (Kd.S_reads' HO_18.out).2.2 x179_2 p478 q478
               cases e478
               obtain ⟨ce478, hce478, hMe478, hcc478⟩ := Kd.S_get HO_18.out [] x179_2 p478 (by first | exact q478 | exact of_decide_eq_true za_ | (have e_ := (Kd.S_reads' HO_18.out).1; omega)); obtain ⟨ve478_0, rfl, ge478_0⟩ := hMe478; have hv478_0 := hcc478 0 _ rfl; rw [Nat.add_zero, show ((Kd.slice 3 (Kd.int .i64))).sz = 1 from rfl, Nat.mul_one] at hv478_0; replace hv478_0 := Option.some.inj (hv478_0.symm.trans hx478_0); rw [hv478_0] at ge478_0; have HL478_0 := aM (show Kd.R (Kd.int .i64) 3 _ _ _ _ (rd_L2 t460 x179_2) from ge478_0); clear hv478_0 ge478_0 hcc478 hce478; have HR478_0 := aM hi478_0; have HC478_0 := aM hl478_0; clear hi478_0 hl478_0; replace p478 := eq_true p478; replace q478 := eq_true q478; have p479 : 0 ≤ (0 : Int) := (by omega); have q479 : 0 < ((rd_L2 t460 x179_2).length : Int) := of_decide_eq_true za_; obtain ⟨ad479, e479, hx479_0⟩ := Kd.at_int (by repeat (first | (with_reducible exact HR478_0.out) | (with_reducible refine cA ?_ _) | (with_reducible refine cN ?_ _) | (with_reducible refine cD ?_) | exact HR478_0.out)) 0 p479 q479
               cases e479
               have qi479 : (0 < (rd_L2 t460 x179_2).length) = True := eq_true (by omega); (try rw [show ((0 : Int)).toNat = 0 from rfl] at hx479_0); (try rw [Addr.add_zero'] at hx479_0); replace p479 := eq_true p479; replace q479 := eq_true q479; have p480 : 0 ≤ (1 : Int) := (by omega); have q480 : 1 < ((rd_L2 t471 x179_2).length : Int) := of_decide_eq_true za_; obtain ⟨ad480, e480, hx480_0⟩ := Kd.at_int (by repeat (first | (with_reducible exact HR476_0.out) | (with_reducible refine cA ?_ _) | (with_reducible refine cN ?_ _) | (with_reducible refine cD ?_) | exact HR476_0.out)) 1 p480 q480; obtain rfl : ad477 = ad480 := (by injection e480); (try simp only [show (1 : Int).toNat = 1 from rfl, Nat.reduceMul, Nat.reduceEqDiff, Go.Addr.add, ↓reduceIte] at hx480_0); have qi480 : (1 < (rd_L2 t471 x179_2).length) = True := eq_true (by omega); (try rw [show ((1 : Int)).toNat = 1 from rfl] at hx480_0); replace p480 := eq_true p480; replace q480 := eq_true q480; have p481 : 0 ≤ (x179_2 : Int) := of_decide_eq_true za_; have q481 : x179_2 < (t460.length : Int) := of_decide_eq_true za_; obtain ⟨ad481, A481_0, c481_0, e481, hx481_0, hl481_0, hi481_0⟩ := at_L2 (Kd.S_reads' HO_18.out).2.2 x179_2 p481 q481; obtain rfl : ad478 = ad481 := (by injection e481); obtain ⟨ce481, hce481, hMe481, hcc481⟩ := Kd.S_get HO_18.out [] x179_2 p481 (by first | exact q481 | exact of_decide_eq_true za_ | (have e_ := (Kd.S_reads' HO_18.out).1; omega)); obtain ⟨ve481_0, rfl, ge481_0⟩ := hMe481; have hv481_0 := hcc481 0 _ rfl; rw [Nat.add_zero, show ((Kd.slice 3 (Kd.int .i64))).sz = 1 from rfl, Nat.mul_one] at hv481_0; replace hv481_0 := Option.some.inj (hv481_0.symm.trans hx481_0); rw [hv481_0] at ge481_0; have HL481_0 := aM (show Kd.R (Kd.int .i64) 3 _ _ _ _ (rd_L2 t460 x179_2) from ge481_0); clear hv481_0 ge481_0 hcc481 hce481; have HR481_0 := aM hi481_0; have HC481_0 := aM hl481_0; clear hi481_0 hl481_0; replace p481 := eq_true p481; replace q481 := eq_true q481; have ea_ := Option.some.inj (hx478_0.symm.trans hx481_0)
               injection ea_ with ea_ en_ ec_
               subst ea_; subst ec_; clear en_; have p482 : 0 ≤ (1 : Int) := (by omega); have q482 : 1 < ((rd_L2 t460 x179_2).length : Int) := of_decide_eq_true za_; obtain ⟨ad482, e482, hx482_0⟩ := Kd.at_int (by repeat (first | (with_reducible exact HR481_0.out) | (with_reducible refine cA ?_ _) | (with_reducible refine cN ?_ _) | (with_reducible refine cD ?_) | exact HR481_0.out)) 1 p482 q482; obtain rfl : ad479 = ad482 := (by injection e482); (try simp only [show (1 : Int).toNat = 1 from rfl, Nat.reduceMul, Nat.reduceEqDiff, Go.Addr.add, ↓reduceIte] at hx482_0); have qi482 : (1 < (rd_L2 t460 x179_2).length) = True := eq_true (by omega); (try rw [show ((1 : Int)).toNat = 1 from rfl] at hx482_0); replace p482 := eq_true p482; replace q482 := eq_true q482; have p483 : 0 ≤ ((rd (rd_L2 t460 x179_2) 1) : Int) := of_decide_eq_true za_; have q483 : (rd (rd_L2 t460 x179_2) 1) < (t462.length : Int) := of_decide_eq_true za_; obtain ⟨ad483, e483, hx483_0⟩ := Kd.at_int (Kd.R_reads' HO_20.out).2.2 (rd (rd_L2 t460 x179_2) 1) p483 q483
               cases e483
               replace p483 := eq_true p483; replace q483 := eq_true q483
               refine start_ (n := 25) (S := fun w' => w'.cell? ad477 = some (.int .i64 (rd (rd_L2 t471 x179_2) 0)) ∧ w'.cell? (ad478.add (x179_2).toNat) = some (.slice (some ad479) (rd_L2 t460 x179_2).length c478_0) ∧ w'.cell? ad479 = some (.int .i64 (rd (rd_L2 t460 x179_2) 0)) ∧ w'.cell? ⟨ad477.block, ad477.off + 1, none⟩ = some (.int .i64 (rd (rd_L2 t471 x179_2) 1)) ∧ w'.cell? (ad478.add (x179_2).toNat) = some (.slice (some ad479) (rd_L2 t460 x179_2).length c478_0) ∧ w'.cell? ⟨ad479.block, ad479.off + 1, none⟩ = some (.int .i64 (rd (rd_L2 t460 x179_2) 1)) ∧ w'.cell? (ad483.add ((rd (rd_L2 t460 x179_2) 1)).toNat) = some (.int .i64 (rd t462 (rd (rd_L2 t460 x179_2) 1)))) (ds := []) #[fi,fi,fi,fi,fi,fi,fi,fi,fi,fi,fi,fi,fi,fi,fi,fi,fi,fi,fi,fi,fi,fi,fi,fi,fi] (by kernel_rfl) rfl rfl ⟨hx477_0, hx478_0, hx479_0, hx480_0, hx481_0, hx482_0, hx483_0⟩ (fun hHeld => ?_); refine with_tabW laws_FnCrossings.tab35 laws_FnCrossings.bits35 (fun HT_ HW_ => ?_)
               generalize wr.drew = w71 at HO_18 HO_20 HO_21 HO_177 HL476_0 HR476_0 HB HL478_0 HL481_0 HR478_0 HR481_0 hx477_0 hx478_0 hx479_0 hx480_0 hx481_0 hx482_0 hx483_0 hHeld ⊢; refine py_ 0 184 HT_.out ?_; refine py_ 1 185 HT_.out ?_; refine py_ 3 187 HT_.out ?_; refine py_ 4 188 HT_.out ?_; refine py_ 5 189 HT_.out ?_
               refine take_ (i := 2) (N := some 186) (v := ?_) (a' := ?_) #[ti,ti,ti,ti,ti,ti,fi,fi,fi,fi,fi,fi,fi,fi,fi,fi,fi,fi,fi,fi,fi,fi,fi,fi,fi] rfl rfl (take_ofW HT_.out HW_.out (by kernel_rfl)) (fun _ _ _ h => h) (Or.inl ⟨by rfl, ?_⟩) hHeld ?_ ?_
               rotate_left
               ·rintro w' ⟨s0, s1, s2, s3, s4, s5, s6⟩
                go_simp
                with_reducible rfl
               rotate_left
               ·simp only [Act.put, sI, s0, sS, i64_w, i32_w]
                rfl
               refine take_ (i := 6) (N := some 190) (v := ?_) (a' := ?_) #[ti,ti,ti,ti,ti,ti,ti,fi,fi,fi,fi,fi,fi,fi,fi,fi,fi,fi,fi,fi,fi,fi,fi,fi,fi] rfl rfl (take_ofW HT_.out HW_.out (by kernel_rfl)) (fun _ _ _ h => h) (Or.inl ⟨by rfl, ?_⟩) hHeld ?_ ?_
               rotate_left
               ·rintro w' ⟨s0, s1, s2, s3, s4, s5, s6⟩
                go_simp
                with_reducible rfl
               rotate_left
               ·simp only [Act.put, sI, s0, sS, i64_w, i32_w]
                rfl
               refine py_ 7 191 HT_.out ?_
               refine take_ (i := 8) (N := some 192) (v := ?_) (a' := ?_) #[ti,ti,ti,ti,ti,ti,ti,ti,ti,fi,fi,fi,fi,fi,fi,fi,fi,fi,fi,fi,fi,fi,fi,fi,fi] rfl rfl (take_ofW HT_.out HW_.out (by kernel_rfl)) (fun _ _ _ h => h) (Or.inl ⟨by rfl, ?_⟩) hHeld ?_ ?_
               rotate_left
               ·rintro w' ⟨s0, s1, s2, s3, s4, s5, s6⟩
                go_simp
                with_reducible rfl
               rotate_left
               ·simp only [Act.put, sI, s0, sS, i64_w, i32_w]
                rfl
               refine py_ 9 193 HT_.out ?_; refine py_ 10 194 HT_.out ?_; refine py_ 11 195 HT_.out ?_; refine py_ 12 196 HT_.out ?_; refine py_ 14 198 HT_.out ?_; refine py_ 15 199 HT_.out ?_; refine py_ 16 200 HT_.out ?_; refine py_ 17 201 HT_.out ?_
               refine take_ (i := 13) (N := some 197) (v := ?_) (a' := ?_) #[ti,ti,ti,ti,ti,ti,ti,ti,ti,ti,ti,ti,ti,ti,ti,ti,ti,ti,fi,fi,fi,fi,fi,fi,fi] rfl rfl (take_ofW HT_.out HW_.out (by kernel_rfl)) (fun _ _ _ h => h) (Or.inl ⟨by rfl, ?_⟩) hHeld ?_ ?_
               rotate_left
               ·rintro w' ⟨s0, s1, s2, s3, s4, s5, s6⟩
                go_simp
                with_reducible rfl
               rotate_left
               ·simp only [Act.put, sI, s0, sS, i64_w, i32_w]
                rfl
               refine take_ (i := 18) (N := some 202) (v := ?_) (a' := ?_) #[ti,ti,ti,ti,ti,ti,ti,ti,ti,ti,ti,ti,ti,ti,ti,ti,ti,ti,ti,fi,fi,fi,fi,fi,fi] rfl rfl (take_ofW HT_.out HW_.out (by kernel_rfl)) (fun _ _ _ h => h) (Or.inl ⟨by rfl, ?_⟩) hHeld ?_ ?_
               rotate_left
               ·rintro w' ⟨s0, s1, s2, s3, s4, s5, s6⟩
                go_simp
                with_reducible rfl
               rotate_left
               ·simp only [Act.put, sI, s0, sS, i64_w, i32_w]
                rfl
               refine py_ 19 203 HT_.out ?_
               refine take_ (i := 20) (N := some 204) (v := ?_) (a' := ?_) #[ti,ti,ti,ti,ti,ti,ti,ti,ti,ti,ti,ti,ti,ti,ti,ti,ti,ti,ti,ti,ti,fi,fi,fi,fi] rfl rfl (take_ofW HT_.out HW_.out (by kernel_rfl)) (fun _ _ _ h => h) (Or.inl ⟨by rfl, ?_⟩) hHeld ?_ ?_
               rotate_left
               ·rintro w' ⟨s0, s1, s2, s3, s4, s5, s6⟩
                go_simp
                with_reducible rfl
               rotate_left
               ·simp only [Act.put, sI, s0, sS, i64_w, i32_w]
                rfl
               refine py_ 21 205 HT_.out ?_
               refine take_ (i := 22) (N := some 206) (v := ?_) (a' := ?_) #[ti,ti,ti,ti,ti,ti,ti,ti,ti,ti,ti,ti,ti,ti,ti,ti,ti,ti,ti,ti,ti,ti,ti,fi,fi] rfl rfl (take_ofW HT_.out HW_.out (by kernel_rfl)) (fun _ _ _ h => h) (Or.inl ⟨by rfl, ?_⟩) hHeld ?_ ?_
               rotate_left
               ·rintro w' ⟨s0, s1, s2, s3, s4, s5, s6⟩
                go_simp
                with_reducible rfl
               rotate_left
               ·simp only [Act.put, sI, s0, sS, i64_w, i32_w]
                rfl
               refine py_ 23 207 HT_.out ?_; refine py_ 24 208 HT_.out ?_
               refine done_ (done_of HT_.out (by kernel_rfl)) ?_
               (try go_wp2)
               go_roundg k2
               case measure => have := HJ10.out; have := HK2.out; omega
               case rel => exact ⟨(wrap64 (x179_2 + 1)), zb_, H', ⟨by have := HJ10.out; have := HK2.out; omega⟩, ⟨zs HO_18.out⟩, ⟨zr HO_20.out⟩, ⟨zs HO_21.out⟩, ⟨zs HO_177.out⟩, ⟨zc_⟩⟩
              ·rw [if_neg c65] at H
               have c65b0 := beq_eq_false_iff_ne.mpr c65; have c65b1 := bne_iff_ne.mpr c65; exact absurd H (by simp)
             ·rw [if_neg c59] at H
              have c59b0 := decide_eq_false c59; clear c59; (first | rw [c59b0] | (simp only [i64_w, i32_w]; rw [c59b0]) | skip); replace H := oB.mp H; obtain ⟨t484, A720, H⟩ := H; (try dsimp only at H); have A72 := aM A720; clear A720
              by_cases c73 : t484 = true
              ·subst c73
               rw [if_pos rfl] at H; have H' := aM H; clear H
               go_wp2_with (first | ((with_reducible refine gate_callee (f := 69) rfl ?_); refine goesL_ (some 212) rfl rfl Try.func69 (by kernel_rfl) rfl #[.slice Ao56 t467.length co56, .int .i64 t461] rfl zd_ ?_; (with_reducible refine (impl_AreLevelWires.calls k2 _ _ t467 t461 true _ ?side1 ?side2 A72.out).mono ?_); (case side1 => repeat (first | exact (Kd.S_reads' HO_21.out).2.2 | (with_reducible refine cA ?_ _) | (with_reducible refine cN ?_ _) | (with_reducible refine cD ?_))); (case side2 => exact (Kd.S_reads' HO_21.out).2.1); rintro e w' ⟨rfl, ⟨nd, rfl⟩⟩; refine ⟨_, rfl, ?_⟩))
               go_meet
               case rel => exact ⟨_, H', ⟨by have := HJ10.out; have := HK2.out; first | omega | exact Nat.le_refl _⟩, ⟨zc_⟩⟩
              ·replace c73 := Bool.eq_false_iff.mpr c73
               subst c73; rw [if_neg (show ¬ (false = true) by decide)] at H; exact absurd H (by simp)
         ·replace c58 := Bool.eq_false_iff.mpr c58
          subst c58; rw [if_neg (show ¬ (false = true) by decide)] at H; have H' := aM H; clear H
          go_wp2
          go_meet
          case rel => exact ⟨_, H', ⟨by have := HJ10.out; first | omega | exact Nat.le_refl _⟩, ⟨zc_⟩⟩
       case rest =>
        as_aux_lemma =>
         clear HC50; (try clear c1); (try clear c47b0); (try clear c47b1); (try clear c47b2); obtain ⟨kq, HA, HJ49, HB⟩ := hcut
         cases kq with
         | zero => exact absurd HA.out (by simp [laws_FnCrossings.j4])
         | succ kj49 =>
          have H := HA.out; clear HA
          simp only [laws_FnCrossings.j4] at H
          replace H := oB.mp H; obtain ⟨⟨t485, t486, t489, t492⟩, A740, H⟩ := H; (try dsimp only at H); have A74 := aM A740; clear A740; replace H := oB.mp H; obtain ⟨⟨t494, t497⟩, A750, H⟩ := H; (try dsimp only at H); have A75 := aM A750; clear A750; replace H := oB.mp H; obtain ⟨⟨t498, t501⟩, A760, H⟩ := H; (try dsimp only at H); have A76 := aM A760; clear A760
          by_cases c77 : (t497 != t501) = true
          ·rw [if_pos c77] at H
           exact absurd H (by simp)
          rw [if_neg c77] at H; have c77b0 : (t497 != t501) = false := by simpa using c77
          (try (have c77b1 : decide (t497 = t501) = true := by simpa using c77)); (try (have c77b2 : (t497 == t501) = true := by simpa using c77)); clear c77; replace H := oB.mp H; obtain ⟨t502, A780, H⟩ := H; (try dsimp only at H); have A78 := aM A780; clear A780
          by_cases c79 : t502 = true
          ·subst c79
           rw [if_pos rfl] at H
           by_cases c80 : t497 = true
           ·subst c80
            rw [if_pos rfl] at H; replace H := oB.mp H; obtain ⟨⟨t503, t506⟩, A810, H⟩ := H; (try dsimp only at H); have A81 := aM A810; clear A810
            by_cases c82 : t506 = true
            ·subst c82
             rw [if_pos rfl] at H
             by_cases c83 : (wrap64 (t492 + 1)) ≥ (t503.length : Int)
             ·rw [if_pos c83] at H
              exact absurd H (by simp)
             rw [if_neg c83] at H; have c83b0 : decide ((t503.length : Int) ≤ (wrap64 (t492 + 1))) = false := decide_eq_false c83; clear c83; have H' := aM H; clear H
             go_upto_region 46 with (first | ((with_reducible refine gate_callee (f := 70) rfl ?_); refine goesL_ (some 216) rfl rfl Try.func70 (by kernel_rfl) rfl #[.slice A1 l1.length c1] rfl zd_ ?_; (with_reducible refine (spec_DrawLevelWires.calls _ _ l1 t485 t486 t489 t492 _ ?side1 ?side2 A74.out).mono ?_); (case side1 => exact zhc_); (case side2 => exact HC1.out); rintro e w84 ⟨v487, v490, rfl, ho0, ho1, hb⟩; refine ⟨_, rfl, ?_⟩; have n_ := z (Kd.R_lower ho0 (below_size zc_)) <| z (Kd.R_lower ho1 (below_size zc_)) <| z1 (below_step zc_ hb); clear HB; obtain ⟨HO488, HO491, HB⟩ := n_; clear hb; (try clear ho0); (try clear ho1)) | ((with_reducible refine gate_dst (N := 27) rfl ?_); (try (refine gate_guard (by rfl) ?_; dsimp only)); refine box_event ?hg (N := 27) ?hd (cs := #[.int .i64 0, .slice none 0 0, .slice none 0 0]) (t := 49) ?hr ?_; (case hd => rfl); (case hg => rfl); (case hr => exact ze_); intro gb493 hg w85 hbox hb; have n_ := z (Kd.R_below (zr HO488.out) hb) <| z (Kd.R_below (zr HO491.out) hb) <| z (below_step zc_ hb) <| z (hbox) <| z ((by rw [hg]; exact (below_size zc_) : w.heap.size ≤ gb493)) <| z1 ((by rw [hg]; exact (below_size zc_) : w.heap.size ≤ gb493)); clear HO488 HO491 HB; obtain ⟨HO488, HO491, HB, BK493, GW493, GE493⟩ := n_; clear hb hbox hg; have hcz86_0 : w85.cell? ⟨gb493, 0, none⟩ = some (.int .i64 0) := (blk_cell BK493.out 0).trans rfl; have hcz86_1 : w85.cell? ⟨gb493, 1, none⟩ = some (.slice none 0 0) := (blk_cell BK493.out 1).trans rfl; have hcz86_2 : w85.cell? ⟨gb493, 2, none⟩ = some (.slice none 0 0) := (blk_cell BK493.out 2).trans rfl; have hfz86_0 := blk_frozen BK493.out 0; have hfz86_1 := blk_frozen BK493.out 1; have hfz86_2 := blk_frozen BK493.out 2; obtain ⟨Ao87, co87, eo87⟩ := Kd.R_slice HO488.out; subst eo87; obtain ⟨Ao88, co88, eo88⟩ := Kd.R_slice HO491.out; subst eo88) | ((with_reducible refine gate_callee (f := 71) rfl ?_); refine goesL_ (some 222) rfl rfl Try.func71 (by kernel_rfl) rfl #[.agg #[.int .i64 t485, .slice Ao87 t486.length co87, .slice Ao88 t489.length co88], .int .i64 t492] rfl zd_ ?_; (with_reducible refine (impl_LevelWires.calls kj49 t485 _ _ t486 _ _ t489 t492 t494 true _ ?side1 ?side2 ?side3 ?side4 A75.out).mono ?_); (case side1 => refine (Kd.R_reads' (e := 57) (base := w.heap.size) (ok := fun k_ => True) (n := t486.length) (c := co87) ?_).2.2; exact (by refine zr ?_; exact (Kd.R_mono (Kd.R_far (p := ⟨gb493, 2, none⟩) (Kd.R_far (p := ⟨gb493, 1, none⟩) (Kd.R_far (p := ⟨gb493, 0, none⟩) (Kd.R_types HO488.out BK493.out (by decide)) (fun _ hk => hk.2) (.int .i64 t485)) (fun _ hk => hk.2) (.slice Ao87 t486.length co87)) (fun _ hk => hk.2) (.slice Ao88 t489.length co88)) (fun _ h_ => h_.1)))); (case side2 => exact zej_); (case side3 => refine (Kd.R_reads' (e := 3) (base := w.heap.size) (ok := fun k_ => True) (n := t489.length) (c := co88) ?_).2.2; exact zhd_); (case side4 => exact zfa_); rintro e w89 ⟨v495, rfl, ho0, hb⟩; refine ⟨_, rfl, ?_⟩; have n_ := z (Kd.R_below (by refine zr ?_; exact (Kd.R_mono (Kd.R_far (p := ⟨gb493, 2, none⟩) (Kd.R_far (p := ⟨gb493, 1, none⟩) (Kd.R_far (p := ⟨gb493, 0, none⟩) (Kd.R_types HO488.out BK493.out (by decide)) (fun _ hk => hk.2) (.int .i64 t485)) (fun _ hk => hk.2) (.slice Ao87 t486.length co87)) (fun _ hk => hk.2) (.slice Ao88 t489.length co88)) (fun _ h_ => h_.1))) hb) <| z (Kd.R_below zhd_ hb) <| z (Kd.S_lower (Kd.S_new' ho0 (Kd.R_lt zhd_)) (below_size zbb_)) <| z (blk_below (g := gb493) (o := .cells #[.int .i64 t485, .slice Ao87 t486.length co87, .slice Ao88 t489.length co88] 49 (0, 0)) (by refine zb ?_; refine blk_put (cs := #[.int .i64 t485, .slice Ao87 t486.length co87, .slice none 0 0]) ?_ 2 _ rfl; refine zb ?_; refine blk_put (cs := #[.int .i64 t485, .slice none 0 0, .slice none 0 0]) ?_ 1 _ rfl; refine zb ?_; refine blk_put (cs := #[.int .i64 0, .slice none 0 0, .slice none 0 0]) ?_ 0 _ rfl; refine zb ?_; exact BK493.out) hb) <| z1 (below_step zbb_ hb); clear HO488 HO491 BK493 HB; obtain ⟨HO488, HO491, HO496, BK493, HB⟩ := n_; clear hb; (try clear hk); (try clear ho0); have hcz90_0 : w89.cell? ⟨gb493, 0, none⟩ = some (.int .i64 t485) := (blk_cell BK493.out 0).trans rfl; have hcz90_1 : w89.cell? ⟨gb493, 1, none⟩ = some (.slice Ao87 t486.length co87) := (blk_cell BK493.out 1).trans rfl; have hcz90_2 : w89.cell? ⟨gb493, 2, none⟩ = some (.slice Ao88 t489.length co88) := (blk_cell BK493.out 2).trans rfl; have hfz90_0 := blk_frozen BK493.out 0; have hfz90_1 := blk_frozen BK493.out 1; have hfz90_2 := blk_frozen BK493.out 2) | ((with_reducible refine gate_callee (f := 72) rfl ?_); refine goesL_ (some 228) rfl rfl Try.func72 (by kernel_rfl) rfl #[.agg #[.int .i64 t485, .slice Ao87 t486.length co87, .slice Ao88 t489.length co88], .int .i64 t492] rfl zd_ ?_; (with_reducible refine (spec_LevelWires.calls kj49 t485 _ _ t486 _ _ t489 t492 t498 t501 _ ?side1 ?side2 ?side3 ?side4 A76.out).mono ?_); (case side1 => exact zhe_); (case side2 => exact zej_); (case side3 => exact zhf_); (case side4 => exact zfa_); rintro e w91 ⟨v499, rfl, ho0, hb⟩; refine ⟨_, rfl, ?_⟩; have n_ := z (Kd.R_below (zr HO488.out) hb) <| z (Kd.R_below (zr HO491.out) hb) <| z (Kd.S_elder' (zs HO496.out) (Kd.S_base ho0) hb) <| z (Kd.S_lower (Kd.S_new' (Kd.S_new' ho0 (Kd.R_lt (zr HO491.out))) (Kd.S_lt (zs HO496.out))) (below_size zbb_)) <| z (blk_below (zb BK493.out) hb) <| z1 (below_step zbb_ hb); clear HO488 HO491 HO496 BK493 HB; obtain ⟨HO488, HO491, HO496, HO500, BK493, HB⟩ := n_; clear hb; (try clear ho0); obtain ⟨Ao92, co92, eo92⟩ := Kd.S_slice HO496.out; subst eo92; obtain ⟨Ao93, co93, eo93⟩ := Kd.S_slice HO500.out; subst eo93) | (go_at_call 36; (with_reducible refine (laws_sameLists.calls kj49 _ _ t494 _ _ t498 true _ ?side1 ?side2 ?side3 ?side4 A78.out).mono ?_); (case side1 => repeat (first | exact (Kd.S_reads' HO496.out).2.2 | (with_reducible refine cA ?_ _) | (with_reducible refine cN ?_ _) | (with_reducible refine cD ?_))); (case side2 => exact (Kd.S_reads' HO496.out).2.1); (case side3 => repeat (first | exact (Kd.S_reads' HO500.out).2.2 | (with_reducible refine cA ?_ _) | (with_reducible refine cN ?_ _) | (with_reducible refine cD ?_))); (case side4 => exact (Kd.S_reads' HO500.out).2.1); rintro e w' ⟨rfl, ⟨nd, rfl⟩⟩; have hcz94_0 : w91.cell? ⟨gb493, 0, none⟩ = some (.int .i64 t485) := (blk_cell BK493.out 0).trans rfl; have hcz94_1 : w91.cell? ⟨gb493, 1, none⟩ = some (.slice Ao87 t486.length co87) := (blk_cell BK493.out 1).trans rfl; have hcz94_2 : w91.cell? ⟨gb493, 2, none⟩ = some (.slice Ao88 t489.length co88) := (blk_cell BK493.out 2).trans rfl; have hfz94_0 := blk_frozen BK493.out 0; have hfz94_1 := blk_frozen BK493.out 1; have hfz94_2 := blk_frozen BK493.out 2))
             as_aux_lemma =>
              go_wp2_with (first | ((with_reducible refine gate_callee (f := 73) rfl ?_); refine goesL_ (some 243) rfl rfl Try.func73 (by kernel_rfl) rfl #[.agg #[.int .i64 t485, .slice Ao87 t486.length co87, .slice Ao88 t489.length co88]] rfl zd_ ?_; (with_reducible refine (spec_LevelsOf.calls kj49 t485 _ _ t486 _ _ t489 t503 true _ ?side1 ?side2 ?side3 ?side4 A81.out).mono ?_); (case side1 => exact zhe_); (case side2 => exact zej_); (case side3 => exact zhf_); (case side4 => exact zfa_); rintro e w95 ⟨v504, rfl, ho0, hb⟩; refine ⟨_, rfl, ?_⟩; have n_ := z (Kd.R_below (zr HO488.out) hb) <| z (Kd.R_below (zr HO491.out) hb) <| z (Kd.S_elder' (zs HO496.out) (Kd.S_base ho0) hb) <| z (Kd.S_elder' (zs HO500.out) (Kd.S_base ho0) hb) <| z (Kd.S_lower (Kd.S_new' (Kd.S_new' (Kd.S_new' ho0 (Kd.R_lt (zr HO491.out))) (Kd.S_lt (zs HO496.out))) (Kd.S_lt (zs HO500.out))) (below_size zbb_)) <| z (blk_below (zb BK493.out) hb) <| z1 (below_step zbb_ hb); clear HO488 HO491 HO496 HO500 BK493 HB; obtain ⟨HO488, HO491, HO496, HO500, HO505, BK493, HB⟩ := n_; clear hb; (try clear ho0); obtain ⟨Ao96, co96, eo96⟩ := Kd.S_slice HO505.out; subst eo96))
              go_loopg [257] kj49 (fun kq v257 w' => ∃ (x257_3 : Int), v257 = .int .i64 x257_3 ∧ Aside0 (laws_FnCrossings.l3 kq t492 t503 t498 (t498.length : Int) x257_3 t485 t486 t489 = some r) ∧ Aside0 (kq ≤ kj49) ∧ Aside0 (Kd.S (Kd.slice 3 (Kd.int .i64)) 24 w' w.heap.size (fun k_ => some k_ ≠ ((.slice Ao93 t498.length co93) : Value).ownBlock ∧ some k_ ≠ ((.slice Ao88 t489.length co88) : Value).ownBlock) (.slice Ao96 t503.length co96) t503) ∧ Aside0 (Kd.S (Kd.slice 3 (Kd.int .i64)) 24 w' w.heap.size (fun k_ => some k_ ≠ ((.slice Ao96 t503.length co96) : Value).ownBlock ∧ some k_ ≠ ((.slice Ao88 t489.length co88) : Value).ownBlock) (.slice Ao93 t498.length co93) t498) ∧ Aside0 (Kd.R k57 57 w' w.heap.size (fun _ => True) (.slice Ao87 t486.length co87) t486) ∧ Aside0 (Kd.R (Kd.int .i64) 3 w' w.heap.size (fun _ => True) (.slice Ao88 t489.length co88) t489) ∧ Aside0 (w'.heap[gb493]? = some (.cells #[.int .i64 t485, (.slice Ao87 t486.length co87), (.slice Ao88 t489.length co88)] 49 (0, 0))) ∧ Aside0 (Below w.heap.size w w'))
              case atStart => exact ⟨(0), zb_, H', ⟨Nat.le_refl _⟩, ⟨by refine zs ?_; exact Kd.S_mono HO505.out (fun _ hk => ⟨hk.2, hk.1.1.2⟩)⟩, ⟨by refine zs ?_; exact Kd.S_mono HO500.out (fun _ hk => ⟨hk.2, hk.1.1.2⟩)⟩, ⟨zr HO488.out⟩, ⟨zr HO491.out⟩, ⟨zb BK493.out⟩, ⟨zbb_⟩⟩
              case round =>
               as_aux_lemma =>
                clear H'; (try clear c1); (try clear c77b0); (try clear c77b1); (try clear c77b2); (try clear c83b0); (try clear hcz86_0); (try clear hcz86_1); (try clear hcz86_2); (try clear hcz90_0); (try clear hcz90_1); (try clear hcz90_2); (try clear hcz94_0); (try clear hcz94_1); (try clear hcz94_2); (try clear hfz86_0); (try clear hfz86_1); (try clear hfz86_2); (try clear hfz90_0); (try clear hfz90_1); (try clear hfz90_2); (try clear hfz94_0); (try clear hfz94_1); (try clear hfz94_2); obtain ⟨x257_3, rfl, HA, HK3, HO_33, HO_255, HO_494001, HO_494002, BK493, HB⟩ := hrel
                cases gk with
                | zero => exact absurd HA.out (by simp [laws_FnCrossings.l3])
                | succ k3 =>
                 have H := HA.out; clear HA
                 simp only [laws_FnCrossings.l3] at H
                 by_cases c97 : x257_3 < (t498.length : Int)
                 ·rw [if_pos c97] at H
                  have c97b0 := decide_eq_true c97; clear c97
                  by_cases c98 : 0 ≤ x257_3
                  rotate_left
                  ·rw [if_neg c98] at H
                   exact absurd H (by simp)
                  rw [if_pos c98] at H; have c98b0 := decide_eq_true c98; clear c98
                  by_cases c99 : x257_3 < (t498.length : Int)
                  rotate_left
                  ·rw [if_neg c99] at H
                   exact absurd H (by simp)
                  rw [if_pos c99] at H; have c99b0 := decide_eq_true c99; clear c99; obtain ⟨ji100, hji100⟩ : ∃ j_ : Int, (wrap64 (t492 + 1)) = j_ := ⟨_, rfl⟩; replace H : (if 0 ≤ (ji100) then (if (ji100) < (t503.length : Int) then (if 1 < ((rd_L2 t498 x257_3).length : Int) then (if 0 ≤ (rd (rd_L2 t498 x257_3) 1) then (if (rd (rd_L2 t498 x257_3) 1) < ((rd_L2 t503 (ji100)).length : Int) then (if 0 ≤ (wrap64 ((rd (rd_L2 t503 (ji100)) (rd (rd_L2 t498 x257_3) 1)) - t485)) then (if (wrap64 ((rd (rd_L2 t503 (ji100)) (rd (rd_L2 t498 x257_3) 1)) - t485)) < (t486.length : Int) then (if 0 ≤ t492 then (if t492 < (t503.length : Int) then (if 0 < ((rd_L2 t498 x257_3).length : Int) then (if 0 ≤ (rd (rd_L2 t498 x257_3) 0) then (if (rd (rd_L2 t498 x257_3) 0) < ((rd_L2 t503 t492).length : Int) then (if (rd (rd_L2 t503 t492) (rd (rd_L2 t498 x257_3) 0)) = ((rd_T57 t486 (wrap64 ((rd (rd_L2 t503 (ji100)) (rd (rd_L2 t498 x257_3) 1)) - t485))).f1) then (laws_FnCrossings.l3 k3 t492 t503 t498 (t498.length : Int) (wrap64 (x257_3 + 1)) t485 t486 t489) else (if (rd (rd_L2 t503 t492) (rd (rd_L2 t498 x257_3) 0)) = ((rd_T57 t486 (wrap64 ((rd (rd_L2 t503 (ji100)) (rd (rd_L2 t498 x257_3) 1)) - t485))).f2) then (laws_FnCrossings.l3 k3 t492 t503 t498 (t498.length : Int) (wrap64 (x257_3 + 1)) t485 t486 t489) else (none))) else (none)) else (none)) else (none)) else (none)) else (none)) else (none)) else (none)) else (none)) else (none)) else (none)) else (none)) else (none)) = some r := by first | (rw [hji100] at H; exact H) | (simp only [hji100] at H ⊢; exact H)
                  (try rw [hji100] at c83b0); have hji100w : (IntKind.i64.wrap (t492 + 1)) = ji100 := (i64_w _).trans hji100
                  by_cases c101 : 0 ≤ (ji100)
                  rotate_left
                  ·rw [if_neg c101] at H
                   exact absurd H (by simp)
                  rw [if_pos c101] at H; have c101b0 := decide_eq_true c101; clear c101
                  by_cases c102 : (ji100) < (t503.length : Int)
                  rotate_left
                  ·rw [if_neg c102] at H
                   exact absurd H (by simp)
                  rw [if_pos c102] at H; have c102b0 := decide_eq_true c102; clear c102
                  by_cases c103 : 1 < ((rd_L2 t498 x257_3).length : Int)
                  rotate_left
                  ·rw [if_neg c103] at H
                   exact absurd H (by simp)
                  rw [if_pos c103] at H; have c103b0 := decide_eq_true c103; have c103b1 : decide (1 < (rd_L2 t498 x257_3).length) = true := decide_eq_true (by omega); clear c103
                  by_cases c104 : 0 ≤ (rd (rd_L2 t498 x257_3) 1)
                  rotate_left
                  ·rw [if_neg c104] at H
                   exact absurd H (by simp)
                  rw [if_pos c104] at H; have c104b0 := decide_eq_true c104; clear c104
                  by_cases c105 : (rd (rd_L2 t498 x257_3) 1) < ((rd_L2 t503 (ji100)).length : Int)
                  rotate_left
                  ·rw [if_neg c105] at H
                   exact absurd H (by simp)
                  rw [if_pos c105] at H; have c105b0 := decide_eq_true c105; clear c105; obtain ⟨ji106, hji106⟩ : ∃ j_ : Int, (wrap64 ((rd (rd_L2 t503 (ji100)) (rd (rd_L2 t498 x257_3) 1)) - t485)) = j_ := ⟨_, rfl⟩; replace H : (if 0 ≤ (ji106) then (if (ji106) < (t486.length : Int) then (if 0 ≤ t492 then (if t492 < (t503.length : Int) then (if 0 < ((rd_L2 t498 x257_3).length : Int) then (if 0 ≤ (rd (rd_L2 t498 x257_3) 0) then (if (rd (rd_L2 t498 x257_3) 0) < ((rd_L2 t503 t492).length : Int) then (if (rd (rd_L2 t503 t492) (rd (rd_L2 t498 x257_3) 0)) = ((rd_T57 t486 (ji106)).f1) then (laws_FnCrossings.l3 k3 t492 t503 t498 (t498.length : Int) (wrap64 (x257_3 + 1)) t485 t486 t489) else (if (rd (rd_L2 t503 t492) (rd (rd_L2 t498 x257_3) 0)) = ((rd_T57 t486 (ji106)).f2) then (laws_FnCrossings.l3 k3 t492 t503 t498 (t498.length : Int) (wrap64 (x257_3 + 1)) t485 t486 t489) else (none))) else (none)) else (none)) else (none)) else (none)) else (none)) else (none)) else (none)) = some r := by first | (rw [hji106] at H; exact H) | (simp only [hji106] at H ⊢; exact H)
                  have hji106w : (IntKind.i64.wrap ((rd (rd_L2 t503 (ji100)) (rd (rd_L2 t498 x257_3) 1)) - t485)) = ji106 := (i64_w _).trans hji106
                  by_cases c107 : 0 ≤ (ji106)
                  rotate_left
                  ·rw [if_neg c107] at H
                   exact absurd H (by simp)
                  rw [if_pos c107] at H; have c107b0 := decide_eq_true c107; clear c107
                  by_cases c108 : (ji106) < (t486.length : Int)
                  rotate_left
                  ·rw [if_neg c108] at H
                   exact absurd H (by simp)
                  rw [if_pos c108] at H; have c108b0 := decide_eq_true c108; clear c108
                  by_cases c109 : 0 ≤ t492
                  rotate_left
                  ·rw [if_neg c109] at H
                   exact absurd H (by simp)
                  rw [if_pos c109] at H; have c109b0 := decide_eq_true c109; clear c109
                  by_cases c110 : t492 < (t503.length : Int)
                  rotate_left
                  ·rw [if_neg c110] at H
                   exact absurd H (by simp)
                  rw [if_pos c110] at H; have c110b0 := decide_eq_true c110; clear c110
                  by_cases c111 : 0 < ((rd_L2 t498 x257_3).length : Int)
                  rotate_left
                  ·rw [if_neg c111] at H
                   exact absurd H (by simp)
                  rw [if_pos c111] at H; have c111b0 := decide_eq_true c111; have c111b1 : decide (0 < (rd_L2 t498 x257_3).length) = true := decide_eq_true (by omega); clear c111
                  by_cases c112 : 0 ≤ (rd (rd_L2 t498 x257_3) 0)
                  rotate_left
                  ·rw [if_neg c112] at H
                   exact absurd H (by simp)
                  rw [if_pos c112] at H; have c112b0 := decide_eq_true c112; clear c112
                  by_cases c113 : (rd (rd_L2 t498 x257_3) 0) < ((rd_L2 t503 t492).length : Int)
                  rotate_left
                  ·rw [if_neg c113] at H
                   exact absurd H (by simp)
                  rw [if_pos c113] at H; have c113b0 := decide_eq_true c113; clear c113
                  by_cases c114 : (rd (rd_L2 t503 t492) (rd (rd_L2 t498 x257_3) 0)) = ((rd_T57 t486 (ji106)).f1)
                  ·rw [if_pos c114] at H
                   have c114b0 := beq_iff_eq.mpr c114; have c114b1 := bne_eq_false_iff_eq.mpr c114; clear c114; have H' := aM H; clear H; have p507 : 0 ≤ (x257_3 : Int) := of_decide_eq_true za_; have q507 : x257_3 < (t498.length : Int) := of_decide_eq_true za_; obtain ⟨ad507, A507_0, c507_0, e507, hx507_0, hl507_0, hi507_0⟩ := at_L2 (Kd.S_reads' HO_255.out).2.2 x257_3 p507 q507
                   cases e507
                   obtain ⟨ce507, hce507, hMe507, hcc507⟩ := Kd.S_get HO_255.out [] x257_3 p507 (by first | exact q507 | exact of_decide_eq_true za_ | (have e_ := (Kd.S_reads' HO_255.out).1; omega)); obtain ⟨ve507_0, rfl, ge507_0⟩ := hMe507; have hv507_0 := hcc507 0 _ rfl; rw [Nat.add_zero, show ((Kd.slice 3 (Kd.int .i64))).sz = 1 from rfl, Nat.mul_one] at hv507_0; replace hv507_0 := Option.some.inj (hv507_0.symm.trans hx507_0); rw [hv507_0] at ge507_0; have HL507_0 := aM (show Kd.R (Kd.int .i64) 3 _ _ _ _ (rd_L2 t498 x257_3) from ge507_0); clear hv507_0 ge507_0 hcc507 hce507; have HR507_0 := aM hi507_0; have HC507_0 := aM hl507_0; clear hi507_0 hl507_0; replace p507 := eq_true p507; replace q507 := eq_true q507; (try go_wp2); have n_ := z (Kd.S_drew HO_33.out) <| z (Kd.S_drew HO_255.out) <| z (kD HO_494001.out) <| z (kD HO_494002.out) <| z (kD HL507_0.out) <| z (blk_drew BK493.out) <| z (cD HR507_0.out) <| z1 (p1 HB.out)
                   clear HO_33 HO_255 HO_494001 HO_494002 HL507_0 BK493 HR507_0 HB; obtain ⟨HO_33, HO_255, HO_494001, HO_494002, HL507_0, BK493, HR507_0, HB⟩ := n_; have p508 : 0 ≤ ((ji100) : Int) := of_decide_eq_true za_; have q508 : (ji100) < (t503.length : Int) := of_decide_eq_true za_; obtain ⟨ad508, A508_0, c508_0, e508, hx508_0, hl508_0, hi508_0⟩ := at_L2 (Kd.S_reads' HO_33.out).2.2 (ji100) p508 q508
                   cases e508
                   obtain ⟨ce508, hce508, hMe508, hcc508⟩ := Kd.S_get HO_33.out [] (ji100) p508 (by first | exact q508 | exact of_decide_eq_true za_ | (have e_ := (Kd.S_reads' HO_33.out).1; omega)); obtain ⟨ve508_0, rfl, ge508_0⟩ := hMe508; have hv508_0 := hcc508 0 _ rfl; rw [Nat.add_zero, show ((Kd.slice 3 (Kd.int .i64))).sz = 1 from rfl, Nat.mul_one] at hv508_0; replace hv508_0 := Option.some.inj (hv508_0.symm.trans hx508_0); rw [hv508_0] at ge508_0; have HL508_0 := aM (show Kd.R (Kd.int .i64) 3 _ _ _ _ (rd_L2 t503 (ji100)) from ge508_0); clear hv508_0 ge508_0 hcc508 hce508; have HR508_0 := aM hi508_0; have HC508_0 := aM hl508_0; clear hi508_0 hl508_0; replace p508 := eq_true p508; replace q508 := eq_true q508; have p509 : 0 ≤ (1 : Int) := (by omega); have q509 : 1 < ((rd_L2 t498 x257_3).length : Int) := of_decide_eq_true za_; obtain ⟨ad509, e509, hx509_0⟩ := Kd.at_int zfi_ 1 p509 q509
                   cases e509
                   (try simp only [show (1 : Int).toNat = 1 from rfl, Nat.reduceMul, Nat.reduceEqDiff, Go.Addr.add, ↓reduceIte] at hx509_0); have qi509 : (1 < (rd_L2 t498 x257_3).length) = True := eq_true (by omega); (try rw [show ((1 : Int)).toNat = 1 from rfl] at hx509_0); replace p509 := eq_true p509; replace q509 := eq_true q509; have p510 : 0 ≤ ((rd (rd_L2 t498 x257_3) 1) : Int) := of_decide_eq_true za_; have q510 : (rd (rd_L2 t498 x257_3) 1) < ((rd_L2 t503 (ji100)).length : Int) := of_decide_eq_true za_; obtain ⟨ad510, e510, hx510_0⟩ := Kd.at_int zfj_ (rd (rd_L2 t498 x257_3) 1) p510 q510
                   cases e510
                   replace p510 := eq_true p510; replace q510 := eq_true q510; have p511 : 0 ≤ ((ji106) : Int) := of_decide_eq_true za_; have q511 : (ji106) < (t486.length : Int) := of_decide_eq_true za_; obtain ⟨ad511, e511, hx511_0, hx511_1, hx511_2⟩ := at_T57 (Kd.R_reads' HO_494001.out).2.2 (ji106) p511 q511
                   cases e511
                   replace p511 := eq_true p511; replace q511 := eq_true q511
                   refine start_ (n := 19) (S := fun w' => w'.cell? ⟨gb493, 0, none⟩ = some (.int .i64 t485) ∧ w'.cell? ⟨gb493, 1, none⟩ = some (.slice (some ad511) t486.length co87) ∧ w'.cell? ⟨gb493, 2, none⟩ = some (.slice Ao88 t489.length co88) ∧ w'.cell? (ad508.add ((ji100)).toNat) = some (.slice (some ad510) (rd_L2 t503 (ji100)).length c508_0) ∧ w'.cell? ⟨ad509.block, ad509.off + 1, none⟩ = some (.int .i64 (rd (rd_L2 t498 x257_3) 1)) ∧ w'.cell? (ad510.add ((rd (rd_L2 t498 x257_3) 1)).toNat) = some (.int .i64 (rd (rd_L2 t503 (ji100)) (rd (rd_L2 t498 x257_3) 1))) ∧ w'.cell? (ad511.add (((ji106)).toNat * 3)) = some (.int .i64 ((rd_T57 t486 (ji106)).f0)) ∧ w'.cell? ⟨(ad511.add (((ji106)).toNat * 3)).block, (ad511.add (((ji106)).toNat * 3)).off + 1, none⟩ = some (.int .i64 ((rd_T57 t486 (ji106)).f1)) ∧ w'.cell? ⟨(ad511.add (((ji106)).toNat * 3)).block, (ad511.add (((ji106)).toNat * 3)).off + 2, none⟩ = some (.int .i64 ((rd_T57 t486 (ji106)).f2))) (ds := []) #[fi,fi,fi,fi,fi,fi,fi,fi,fi,fi,fi,fi,fi,fi,fi,fi,fi,fi,fi] (by kernel_rfl) rfl rfl ⟨(blk_cell BK493.out 0).trans rfl, (blk_cell BK493.out 1).trans rfl, (blk_cell BK493.out 2).trans rfl, hx508_0, hx509_0, hx510_0, hx511_0, hx511_1, hx511_2⟩ (fun hHeld => ?_); refine with_tabW laws_FnCrossings.tab52 laws_FnCrossings.bits52 (fun HT_ HW_ => ?_)
                   generalize wr.drew = w115 at HO_33 HO_255 HO_494001 HO_494002 HL507_0 BK493 HR507_0 HB HL508_0 HR508_0 hx508_0 hx509_0 hx510_0 hx511_0 hx511_1 hx511_2 hHeld ⊢; refine py_ 0 261 HT_.out ?_; refine py_ 2 263 HT_.out ?_; refine py_ 3 264 HT_.out ?_; refine py_ 4 265 HT_.out ?_; refine py_ 5 266 HT_.out ?_; refine py_ 7 268 HT_.out ?_; refine py_ 8 269 HT_.out ?_; refine py_ 12 273 HT_.out ?_
                   refine take_ (i := 1) (N := some 262) (v := ?_) (a' := ?_) #[ti,ti,ti,ti,ti,ti,fi,ti,ti,fi,fi,fi,ti,fi,fi,fi,fi,fi,fi] rfl rfl (take_ofW HT_.out HW_.out (by kernel_rfl)) (fun _ _ _ h => h) (Or.inl ⟨by rfl, ?_⟩) hHeld ?_ ?_
                   rotate_left
                   ·rintro w' ⟨s0, s1, s2, s3, s4, s5, s6, s7, s8⟩
                    go_simp
                    with_reducible rfl
                   rotate_left
                   ·simp only [Act.put, sI, s0, sS, i64_w, i32_w]
                    rfl
                   refine take_ (i := 6) (N := some 267) (v := ?_) (a' := ?_) #[ti,ti,ti,ti,ti,ti,ti,ti,ti,fi,fi,fi,ti,fi,fi,fi,fi,fi,fi] rfl rfl (take_ofW HT_.out HW_.out (by kernel_rfl)) (fun _ _ _ h => h) (Or.inl ⟨by rfl, ?_⟩) hHeld ?_ ?_
                   rotate_left
                   ·rintro w' ⟨s0, s1, s2, s3, s4, s5, s6, s7, s8⟩
                    go_simp
                    with_reducible rfl
                   rotate_left
                   ·simp only [Act.put, sI, s0, sS, i64_w, i32_w]
                    rfl
                   refine take_ (i := 9) (N := some 270) (v := ?_) (a' := ?_) #[ti,ti,ti,ti,ti,ti,ti,ti,ti,ti,fi,fi,ti,fi,fi,fi,fi,fi,fi] rfl rfl (take_ofW HT_.out HW_.out (by kernel_rfl)) (fun _ _ _ h => h) (Or.inl ⟨by rfl, ?_⟩) hHeld ?_ ?_
                   rotate_left
                   ·rintro w' ⟨s0, s1, s2, s3, s4, s5, s6, s7, s8⟩
                    go_simp
                    with_reducible rfl
                   rotate_left
                   ·simp only [Act.put, sI, s0, sS, i64_w, i32_w]
                    rfl
                   refine py_ 10 271 HT_.out ?_
                   refine take_ (i := 11) (N := some 272) (v := ?_) (a' := ?_) #[ti,ti,ti,ti,ti,ti,ti,ti,ti,ti,ti,ti,ti,fi,fi,fi,fi,fi,fi] rfl rfl (take_ofW HT_.out HW_.out (by kernel_rfl)) (fun _ _ _ h => h) (Or.inl ⟨by rfl, ?_⟩) hHeld ?_ ?_
                   rotate_left
                   ·rintro w' ⟨s0, s1, s2, s3, s4, s5, s6, s7, s8⟩
                    go_simp
                    with_reducible rfl
                   rotate_left
                   ·simp only [Act.put, sI, s0, sS, i64_w, i32_w]
                    rfl
                   refine take_ (i := 13) (N := some 274) (v := ?_) (a' := ?_) #[ti,ti,ti,ti,ti,ti,ti,ti,ti,ti,ti,ti,ti,ti,fi,fi,fi,fi,fi] rfl rfl (take_ofW HT_.out HW_.out (by kernel_rfl)) (fun _ _ _ h => h) (Or.inl ⟨by rfl, ?_⟩) hHeld ?_ ?_
                   rotate_left
                   ·rintro w' ⟨s0, s1, s2, s3, s4, s5, s6, s7, s8⟩
                    go_simp
                    with_reducible rfl
                   rotate_left
                   ·simp only [Act.put, sI, s0, sS, i64_w, i32_w]
                    rfl
                   refine py_ 14 275 HT_.out ?_; refine py_ 15 276 HT_.out ?_
                   refine take_ (i := 16) (N := some 277) (v := ?_) (a' := ?_) #[ti,ti,ti,ti,ti,ti,ti,ti,ti,ti,ti,ti,ti,ti,ti,ti,ti,fi,fi] rfl rfl (take_ofW HT_.out HW_.out (by kernel_rfl)) (fun _ _ _ h => h) (Or.inl ⟨by rfl, ?_⟩) hHeld ?_ ?_
                   rotate_left
                   ·rintro w' ⟨s0, s1, s2, s3, s4, s5, s6, s7, s8⟩
                    go_simp
                    with_reducible rfl
                   rotate_left
                   ·simp only [Act.put, sI, s0, sS, i64_w, i32_w]
                    rfl
                   refine one_ (i := 17) (N := some 37) #[ti,ti,ti,ti,ti,ti,ti,ti,ti,ti,ti,ti,ti,ti,ti,ti,ti,ti,fi] rfl rfl (one_of HT_.out (by kernel_rfl)) (by decide) (fun K hK => ?_)
                   refine box_step ?hg (N := 37) ?hd (cs := #[.int .i64 0, .int .i64 0, .int .i64 0]) (t := 57) ?hr ?_; (case hd => rfl); (case hg => rfl); (case hr => exact ze_)
                   intro gb512 hg w116 hbox hb
                   have HS3_ := (hb.cell (World.block_lt_of_cell? _ _ (hHeld.2.2.2.1))).trans (hHeld.2.2.2.1); have HS4_ := (hb.cell (World.block_lt_of_cell? _ _ (hHeld.2.2.2.2.1))).trans (hHeld.2.2.2.2.1); have HS5_ := (hb.cell (World.block_lt_of_cell? _ _ (hHeld.2.2.2.2.2.1))).trans (hHeld.2.2.2.2.2.1); have HS6_ := (hb.cell (World.block_lt_of_cell? _ _ (hHeld.2.2.2.2.2.2.1))).trans (hHeld.2.2.2.2.2.2.1); have HS7_ := (hb.cell (World.block_lt_of_cell? _ _ (hHeld.2.2.2.2.2.2.2.1))).trans (hHeld.2.2.2.2.2.2.2.1); have HS8_ := (hb.cell (World.block_lt_of_cell? _ _ (hHeld.2.2.2.2.2.2.2.2))).trans (hHeld.2.2.2.2.2.2.2.2); have n_ := z (Kd.S_below (zs HO_33.out) hb) <| z (Kd.S_below (zs HO_255.out) hb) <| z (Kd.R_below (Kd.R_elderB (zr HO_494001.out) gb512 (Nat.le_of_eq hg.symm)) hb) <| z (Kd.R_below (zr HO_494002.out) hb) <| z (Kd.R_below (zr HL507_0.out) hb) <| z (Kd.R_below (zr HL508_0.out) hb) <| z (blk_below (zb BK493.out) hb) <| z (Kd.C_below zfi_ hb) <| z (Kd.C_below zfj_ hb) <| z (below_step zbb_ hb) <| z (hbox) <| z ((by rw [hg]; exact (below_size zbb_) : w.heap.size ≤ gb512)) <| z ((by rw [hg]; exact (below_size zbb_) : w.heap.size ≤ gb512)) <| z ((by rw [hg]; exact Nat.ne_of_lt (blk_lt (zb BK493.out)) : gb493 ≠ gb512)) <| z1 ((by rw [hg]; exact Nat.ne_of_gt (blk_lt (zb BK493.out)) : gb512 ≠ gb493))
                   clear HO_33 HO_255 HO_494001 HO_494002 HL507_0 HL508_0 BK493 HR507_0 HR508_0 HB; obtain ⟨HO_33, HO_255, HO_494001, HO_494002, HL507_0, HL508_0, BK493, HR507_0, HR508_0, HB, BK512, GW512, GE512, NB493_512, NB512_493⟩ := n_; clear hb hbox hg
                   refine hK.out _ _ ⟨(blk_cell BK493.out 0).trans rfl, (blk_cell BK493.out 1).trans rfl, (blk_cell BK493.out 2).trans rfl, HS3_, HS4_, HS5_, HS6_, HS7_, HS8_⟩ (fun hHeld => ?_)
                   clear hK K
                   refine norm_ (a' := ?_) ?_ ?_
                   rotate_left
                   ·show Act.put _ (some 37) _ = _
                    simp only [Act.put, sI, s0, sS, i64_w, i32_w]
                    rfl
                   refine one_ (i := 18) (N := none) #[ti,ti,ti,ti,ti,ti,ti,ti,ti,ti,ti,ti,ti,ti,ti,ti,ti,ti,ti] rfl rfl (one_of HT_.out (by kernel_rfl)) (by decide) (fun K hK => ?_)
                   have hs117 : w116.cell? ⟨gb512, 0, none⟩ = some (.int .i64 0) := (blk_cell BK512.out 0).trans rfl; have hfs117 := blk_frozen BK512.out 0; have hns117_0 := NB493_512.out; have hms117_0 := NB512_493.out; have hs118 : w116.cell? ⟨gb512, 1, none⟩ = some (.int .i64 0) := (blk_cell BK512.out 1).trans rfl; have hfs118 := blk_frozen BK512.out 1; have hns118_0 := NB493_512.out; have hms118_0 := NB512_493.out; have hs119 : w116.cell? ⟨gb512, 2, none⟩ = some (.int .i64 0) := (blk_cell BK512.out 2).trans rfl; have hfs119 := blk_frozen BK512.out 2; have hns119_0 := NB493_512.out; have hms119_0 := NB512_493.out
                   refine skip_ (w1 := ?_) (by rfl) rfl ?_ ?_
                   rotate_left
                   ·go_simp
                    rfl
                   refine hK.out _ _ ⟨((cell_far (p := ⟨gb512, _, none⟩) NB493_512.out _).trans (((cell_far (p := ⟨gb512, _, none⟩) NB493_512.out _).trans (((cell_far (p := ⟨gb512, _, none⟩) NB493_512.out _).trans (hHeld.1)))))), ((cell_far (p := ⟨gb512, _, none⟩) NB493_512.out _).trans (((cell_far (p := ⟨gb512, _, none⟩) NB493_512.out _).trans (((cell_far (p := ⟨gb512, _, none⟩) NB493_512.out _).trans (hHeld.2.1)))))), ((cell_far (p := ⟨gb512, _, none⟩) NB493_512.out _).trans (((cell_far (p := ⟨gb512, _, none⟩) NB493_512.out _).trans (((cell_far (p := ⟨gb512, _, none⟩) NB493_512.out _).trans (hHeld.2.2.1)))))), ((cell_far (p := ⟨gb512, _, none⟩) zee_ _).trans (((cell_far (p := ⟨gb512, _, none⟩) zee_ _).trans (((cell_far (p := ⟨gb512, _, none⟩) zee_ _).trans (hHeld.2.2.2.1)))))), ((cell_far (p := ⟨gb512, _, none⟩) zef_ _).trans (((cell_far (p := ⟨gb512, _, none⟩) zef_ _).trans (((cell_far (p := ⟨gb512, _, none⟩) zef_ _).trans (hHeld.2.2.2.2.1)))))), ((cell_far (p := ⟨gb512, _, none⟩) zeg_ _).trans (((cell_far (p := ⟨gb512, _, none⟩) zeg_ _).trans (((cell_far (p := ⟨gb512, _, none⟩) zeg_ _).trans (hHeld.2.2.2.2.2.1)))))), ((cell_far (p := ⟨gb512, _, none⟩) zbc_ _).trans (((cell_far (p := ⟨gb512, _, none⟩) zbc_ _).trans (((cell_far (p := ⟨gb512, _, none⟩) zbc_ _).trans (hHeld.2.2.2.2.2.2.1)))))), ((cell_far (p := ⟨gb512, _, none⟩) zbc_ _).trans (((cell_far (p := ⟨gb512, _, none⟩) zbc_ _).trans (((cell_far (p := ⟨gb512, _, none⟩) zbc_ _).trans (hHeld.2.2.2.2.2.2.2.1)))))), ((cell_far (p := ⟨gb512, _, none⟩) zbc_ _).trans (((cell_far (p := ⟨gb512, _, none⟩) zbc_ _).trans (((cell_far (p := ⟨gb512, _, none⟩) zbc_ _).trans (hHeld.2.2.2.2.2.2.2.2))))))⟩ (fun hHeld => ?_)
                   clear hK K
                   refine done_ (done_of HT_.out (by kernel_rfl)) ?_
                   (try go_wp2); have n0_ : Aside0 (Kd.S (Kd.slice 3 (Kd.int .i64)) 24 (((w116.setCell ⟨gb512, 0, none⟩ (.int .i64 ((rd_T57 t486 (ji106)).f0))).setCell ⟨gb512, 1, none⟩ (.int .i64 ((rd_T57 t486 (ji106)).f1))).setCell ⟨gb512, 2, none⟩ (.int .i64 ((rd_T57 t486 (ji106)).f2))) w.heap.size (fun k_ => some k_ ≠ (.slice (some ad507) t498.length co93 : Value).ownBlock ∧ some k_ ≠ (.slice Ao88 t489.length co88 : Value).ownBlock) (.slice (some ad508) t503.length co96) t503) := ⟨by refine zs ?_; exact Kd.S_mono (Kd.S_far (p := ⟨gb512, 2, none⟩) (Kd.S_far (p := ⟨gb512, 1, none⟩) (Kd.S_far (p := ⟨gb512, 0, none⟩) (Kd.S_types HO_33.out BK512.out (by decide)) (fun _ hk => hk.2) (.int .i64 ((rd_T57 t486 (ji106)).f0))) (fun _ hk => hk.2) (.int .i64 ((rd_T57 t486 (ji106)).f1))) (fun _ hk => hk.2) (.int .i64 ((rd_T57 t486 (ji106)).f2))) (fun _ hk => ⟨hk.1.1, hk.1.2⟩)⟩; have n1_ : Aside0 (Kd.S (Kd.slice 3 (Kd.int .i64)) 24 (((w116.setCell ⟨gb512, 0, none⟩ (.int .i64 ((rd_T57 t486 (ji106)).f0))).setCell ⟨gb512, 1, none⟩ (.int .i64 ((rd_T57 t486 (ji106)).f1))).setCell ⟨gb512, 2, none⟩ (.int .i64 ((rd_T57 t486 (ji106)).f2))) w.heap.size (fun k_ => some k_ ≠ (.slice (some ad508) t503.length co96 : Value).ownBlock ∧ some k_ ≠ (.slice Ao88 t489.length co88 : Value).ownBlock) (.slice (some ad507) t498.length co93) t498) := ⟨by refine zs ?_; exact Kd.S_mono (Kd.S_far (p := ⟨gb512, 2, none⟩) (Kd.S_far (p := ⟨gb512, 1, none⟩) (Kd.S_far (p := ⟨gb512, 0, none⟩) (Kd.S_types HO_255.out BK512.out (by decide)) (fun _ hk => hk.2) (.int .i64 ((rd_T57 t486 (ji106)).f0))) (fun _ hk => hk.2) (.int .i64 ((rd_T57 t486 (ji106)).f1))) (fun _ hk => hk.2) (.int .i64 ((rd_T57 t486 (ji106)).f2))) (fun _ hk => ⟨hk.1.1, hk.1.2⟩)⟩; have n2_ : Aside0 (Kd.R k57 57 (((w116.setCell ⟨gb512, 0, none⟩ (.int .i64 ((rd_T57 t486 (ji106)).f0))).setCell ⟨gb512, 1, none⟩ (.int .i64 ((rd_T57 t486 (ji106)).f1))).setCell ⟨gb512, 2, none⟩ (.int .i64 ((rd_T57 t486 (ji106)).f2))) w.heap.size (fun k_ => k_ ≠ gb512) (.slice (some ad511) t486.length co87) t486) := ⟨by refine zr ?_; exact Kd.R_mono (Kd.R_far (p := ⟨gb512, 2, none⟩) (Kd.R_far (p := ⟨gb512, 1, none⟩) (Kd.R_far (p := ⟨gb512, 0, none⟩) (Kd.R_mono HO_494001.out (fun k_ hk => (⟨hk, hk.2⟩ : _ ∧ k_ ≠ gb512))) (fun _ hk => hk.2) (.int .i64 ((rd_T57 t486 (ji106)).f0))) (fun _ hk => hk.2) (.int .i64 ((rd_T57 t486 (ji106)).f1))) (fun _ hk => hk.2) (.int .i64 ((rd_T57 t486 (ji106)).f2))) (fun _ hk => hk.1.2)⟩; have n3_ : Aside0 (Kd.R (Kd.int .i64) 3 (((w116.setCell ⟨gb512, 0, none⟩ (.int .i64 ((rd_T57 t486 (ji106)).f0))).setCell ⟨gb512, 1, none⟩ (.int .i64 ((rd_T57 t486 (ji106)).f1))).setCell ⟨gb512, 2, none⟩ (.int .i64 ((rd_T57 t486 (ji106)).f2))) w.heap.size (fun _ => True) (.slice Ao88 t489.length co88) t489) := ⟨by refine zr ?_; exact Kd.R_mono (Kd.R_far (p := ⟨gb512, 2, none⟩) (Kd.R_far (p := ⟨gb512, 1, none⟩) (Kd.R_far (p := ⟨gb512, 0, none⟩) (Kd.R_types HO_494002.out BK512.out (by decide)) (fun _ hk => hk.2) (.int .i64 ((rd_T57 t486 (ji106)).f0))) (fun _ hk => hk.2) (.int .i64 ((rd_T57 t486 (ji106)).f1))) (fun _ hk => hk.2) (.int .i64 ((rd_T57 t486 (ji106)).f2))) (fun _ hk => trivial)⟩; have n4_ : Aside0 (Kd.R (Kd.int .i64) 3 (((w116.setCell ⟨gb512, 0, none⟩ (.int .i64 ((rd_T57 t486 (ji106)).f0))).setCell ⟨gb512, 1, none⟩ (.int .i64 ((rd_T57 t486 (ji106)).f1))).setCell ⟨gb512, 2, none⟩ (.int .i64 ((rd_T57 t486 (ji106)).f2))) w.heap.size (fun k_ => some k_ ≠ (.slice (some ad508) t503.length co96 : Value).ownBlock ∧ some k_ ≠ (.slice (some ad507) t498.length co93 : Value).ownBlock ∧ some k_ ≠ (.slice Ao88 t489.length co88 : Value).ownBlock) (.slice (some ad509) (rd_L2 t498 x257_3).length c507_0) (rd_L2 t498 x257_3)) := ⟨by refine zr ?_; exact Kd.R_mono (Kd.R_far (p := ⟨gb512, 2, none⟩) (Kd.R_far (p := ⟨gb512, 1, none⟩) (Kd.R_far (p := ⟨gb512, 0, none⟩) (Kd.R_types HL507_0.out BK512.out (by decide)) (fun _ hk => hk.2) (.int .i64 ((rd_T57 t486 (ji106)).f0))) (fun _ hk => hk.2) (.int .i64 ((rd_T57 t486 (ji106)).f1))) (fun _ hk => hk.2) (.int .i64 ((rd_T57 t486 (ji106)).f2))) (fun _ hk => ⟨hk.1.1.1, ⟨hk.1.2, hk.1.1.2⟩⟩)⟩; have n5_ : Aside0 (Kd.R (Kd.int .i64) 3 (((w116.setCell ⟨gb512, 0, none⟩ (.int .i64 ((rd_T57 t486 (ji106)).f0))).setCell ⟨gb512, 1, none⟩ (.int .i64 ((rd_T57 t486 (ji106)).f1))).setCell ⟨gb512, 2, none⟩ (.int .i64 ((rd_T57 t486 (ji106)).f2))) w.heap.size (fun k_ => some k_ ≠ (.slice (some ad508) t503.length co96 : Value).ownBlock ∧ some k_ ≠ (.slice (some ad507) t498.length co93 : Value).ownBlock ∧ some k_ ≠ (.slice Ao88 t489.length co88 : Value).ownBlock) (.slice (some ad510) (rd_L2 t503 (ji100)).length c508_0) (rd_L2 t503 (ji100))) := ⟨by refine zr ?_; exact Kd.R_mono (Kd.R_far (p := ⟨gb512, 2, none⟩) (Kd.R_far (p := ⟨gb512, 1, none⟩) (Kd.R_far (p := ⟨gb512, 0, none⟩) (Kd.R_types HL508_0.out BK512.out (by decide)) (fun _ hk => hk.2) (.int .i64 ((rd_T57 t486 (ji106)).f0))) (fun _ hk => hk.2) (.int .i64 ((rd_T57 t486 (ji106)).f1))) (fun _ hk => hk.2) (.int .i64 ((rd_T57 t486 (ji106)).f2))) (fun _ hk => ⟨hk.1.2, ⟨hk.1.1.1, hk.1.1.2⟩⟩)⟩; have n6_ : Aside0 ((((w116.setCell ⟨gb512, 0, none⟩ (.int .i64 ((rd_T57 t486 (ji106)).f0))).setCell ⟨gb512, 1, none⟩ (.int .i64 ((rd_T57 t486 (ji106)).f1))).setCell ⟨gb512, 2, none⟩ (.int .i64 ((rd_T57 t486 (ji106)).f2))).heap[gb493]? = some (.cells #[.int .i64 t485, .slice (some ad511) t486.length co87, .slice Ao88 t489.length co88] 49 (0, 0))) := ⟨by refine zb ?_; refine blk_far ?_ NB493_512.out _; refine zb ?_; refine blk_far ?_ NB493_512.out _; refine zb ?_; refine blk_far ?_ NB493_512.out _; refine zb ?_; exact BK493.out⟩; have n7_ : Aside0 ((((w116.setCell ⟨gb512, 0, none⟩ (.int .i64 ((rd_T57 t486 (ji106)).f0))).setCell ⟨gb512, 1, none⟩ (.int .i64 ((rd_T57 t486 (ji106)).f1))).setCell ⟨gb512, 2, none⟩ (.int .i64 ((rd_T57 t486 (ji106)).f2))).heap[gb512]? = some (.cells #[.int .i64 ((rd_T57 t486 (ji106)).f0), .int .i64 ((rd_T57 t486 (ji106)).f1), .int .i64 ((rd_T57 t486 (ji106)).f2)] 57 (0, 0))) := ⟨by refine zb ?_; refine blk_put (cs := #[.int .i64 ((rd_T57 t486 (ji106)).f0), .int .i64 ((rd_T57 t486 (ji106)).f1), .int .i64 0]) ?_ 2 _ rfl; refine zb ?_; refine blk_put (cs := #[.int .i64 ((rd_T57 t486 (ji106)).f0), .int .i64 0, .int .i64 0]) ?_ 1 _ rfl; refine zb ?_; refine blk_put (cs := #[.int .i64 0, .int .i64 0, .int .i64 0]) ?_ 0 _ rfl; refine zb ?_; exact BK512.out⟩; have n8_ : Aside0 (Below w.heap.size w (((w116.setCell ⟨gb512, 0, none⟩ (.int .i64 ((rd_T57 t486 (ji106)).f0))).setCell ⟨gb512, 1, none⟩ (.int .i64 ((rd_T57 t486 (ji106)).f1))).setCell ⟨gb512, 2, none⟩ (.int .i64 ((rd_T57 t486 (ji106)).f2)))) := ⟨zga_⟩; (try clear HO_33); (try clear HO_255); (try clear HO_494001); (try clear HO_494002); (try clear HL507_0); (try clear HL508_0); (try clear BK493); (try clear BK512); (try clear HB); generalize (((w116.setCell ⟨gb512, 0, none⟩ (.int .i64 ((rd_T57 t486 (ji106)).f0))).setCell ⟨gb512, 1, none⟩ (.int .i64 ((rd_T57 t486 (ji106)).f1))).setCell ⟨gb512, 2, none⟩ (.int .i64 ((rd_T57 t486 (ji106)).f2))) = w120 at n0_ n1_ n2_ n3_ n4_ n5_ n6_ n7_ n8_ ⊢; have HO_33 := n0_; have HO_255 := n1_; have HO_494001 := n2_; have HO_494002 := n3_; have HL507_0 := n4_; have HL508_0 := n5_; have BK493 := n6_; have BK512 := n7_; have HB := n8_; clear n0_ n1_ n2_ n3_ n4_ n5_ n6_ n7_ n8_; have n_ := z (Kd.S_drew HO_33.out) <| z (Kd.S_drew HO_255.out) <| z (kD HO_494001.out) <| z (kD HO_494002.out) <| z (kD HL507_0.out) <| z (kD HL508_0.out) <| z (blk_drew BK493.out) <| z (blk_drew BK512.out) <| z1 (p1 HB.out)
                   clear HO_33 HO_255 HO_494001 HO_494002 HL507_0 HL508_0 BK493 BK512 HB; obtain ⟨HO_33, HO_255, HO_494001, HO_494002, HL507_0, HL508_0, BK493, BK512, HB⟩ := n_; have p513 : 0 ≤ (t492 : Int) := of_decide_eq_true za_; have q513 : t492 < (t503.length : Int) := of_decide_eq_true za_; obtain ⟨ad513, A513_0, c513_0, e513, hx513_0, hl513_0, hi513_0⟩ := at_L2 (Kd.S_reads' HO_33.out).2.2 t492 p513 q513; obtain rfl : ad508 = ad513 := (by injection e513); obtain ⟨ce513, hce513, hMe513, hcc513⟩ := Kd.S_get HO_33.out [] t492 p513 (by first | exact q513 | exact of_decide_eq_true za_ | (have e_ := (Kd.S_reads' HO_33.out).1; omega)); obtain ⟨ve513_0, rfl, ge513_0⟩ := hMe513; have hv513_0 := hcc513 0 _ rfl; rw [Nat.add_zero, show ((Kd.slice 3 (Kd.int .i64))).sz = 1 from rfl, Nat.mul_one] at hv513_0; replace hv513_0 := Option.some.inj (hv513_0.symm.trans hx513_0); rw [hv513_0] at ge513_0; have HL513_0 := aM (show Kd.R (Kd.int .i64) 3 _ _ _ _ (rd_L2 t503 t492) from ge513_0); clear hv513_0 ge513_0 hcc513 hce513; have HR513_0 := aM hi513_0; have HC513_0 := aM hl513_0; clear hi513_0 hl513_0; replace p513 := eq_true p513; replace q513 := eq_true q513; have p514 : 0 ≤ (0 : Int) := (by omega); have q514 : 0 < ((rd_L2 t498 x257_3).length : Int) := of_decide_eq_true za_; obtain ⟨ad514, e514, hx514_0⟩ := Kd.at_int ((Kd.R_reads' HL507_0.out).2.2) 0 p514 q514; obtain rfl : ad509 = ad514 := (by injection e514); have qi514 : (0 < (rd_L2 t498 x257_3).length) = True := eq_true (by omega); (try rw [show ((0 : Int)).toNat = 0 from rfl] at hx514_0); (try rw [Addr.add_zero'] at hx514_0); replace p514 := eq_true p514; replace q514 := eq_true q514; have p515 : 0 ≤ ((rd (rd_L2 t498 x257_3) 0) : Int) := of_decide_eq_true za_; have q515 : (rd (rd_L2 t498 x257_3) 0) < ((rd_L2 t503 t492).length : Int) := of_decide_eq_true za_; obtain ⟨ad515, e515, hx515_0⟩ := Kd.at_int (by repeat (first | (with_reducible exact HR513_0.out) | (with_reducible refine cA ?_ _) | (with_reducible refine cN ?_ _) | (with_reducible refine cD ?_) | exact HR513_0.out)) (rd (rd_L2 t498 x257_3) 0) p515 q515
                   cases e515
                   replace p515 := eq_true p515; replace q515 := eq_true q515
                   refine start_ (n := 10) (S := fun w' => w'.cell? (ad508.add (t492).toNat) = some (.slice (some ad515) (rd_L2 t503 t492).length c513_0) ∧ w'.cell? ad509 = some (.int .i64 (rd (rd_L2 t498 x257_3) 0)) ∧ w'.cell? (ad515.add ((rd (rd_L2 t498 x257_3) 0)).toNat) = some (.int .i64 (rd (rd_L2 t503 t492) (rd (rd_L2 t498 x257_3) 0)))) (ds := []) #[fi,fi,fi,fi,fi,fi,fi,fi,fi,fi] (by kernel_rfl) rfl rfl ⟨hx513_0, hx514_0, hx515_0⟩ (fun hHeld => ?_); refine with_tabW laws_FnCrossings.tab53 laws_FnCrossings.bits53 (fun HT_ HW_ => ?_)
                   generalize w120.drew = w121 at HO_33 HO_255 HO_494001 HO_494002 HL507_0 HL508_0 BK493 BK512 HB HL513_0 HR513_0 hx513_0 hx514_0 hx515_0 hHeld ⊢; refine py_ 0 278 HT_.out ?_; refine py_ 1 279 HT_.out ?_; refine py_ 2 280 HT_.out ?_; refine py_ 4 282 HT_.out ?_; refine py_ 5 283 HT_.out ?_
                   refine take_ (i := 3) (N := some 281) (v := ?_) (a' := ?_) #[ti,ti,ti,ti,ti,ti,fi,fi,fi,fi] rfl rfl (take_ofW HT_.out HW_.out (by kernel_rfl)) (fun _ _ _ h => h) (Or.inl ⟨by rfl, ?_⟩) hHeld ?_ ?_
                   rotate_left
                   ·rintro w' ⟨s0, s1, s2⟩
                    go_simp
                    with_reducible rfl
                   rotate_left
                   ·simp only [Act.put, sI, s0, sS, i64_w, i32_w]
                    rfl
                   refine take_ (i := 6) (N := some 284) (v := ?_) (a' := ?_) #[ti,ti,ti,ti,ti,ti,ti,fi,fi,fi] rfl rfl (take_ofW HT_.out HW_.out (by kernel_rfl)) (fun _ _ _ h => h) (Or.inl ⟨by rfl, ?_⟩) hHeld ?_ ?_
                   rotate_left
                   ·rintro w' ⟨s0, s1, s2⟩
                    go_simp
                    with_reducible rfl
                   rotate_left
                   ·simp only [Act.put, sI, s0, sS, i64_w, i32_w]
                    rfl
                   refine py_ 7 285 HT_.out ?_
                   refine take_ (i := 8) (N := some 286) (v := ?_) (a' := ?_) #[ti,ti,ti,ti,ti,ti,ti,ti,ti,fi] rfl rfl (take_ofW HT_.out HW_.out (by kernel_rfl)) (fun _ _ _ h => h) (Or.inl ⟨by rfl, ?_⟩) hHeld ?_ ?_
                   rotate_left
                   ·rintro w' ⟨s0, s1, s2⟩
                    go_simp
                    with_reducible rfl
                   rotate_left
                   ·simp only [Act.put, sI, s0, sS, i64_w, i32_w]
                    rfl
                   refine py_ 9 38 HT_.out ?_
                   refine done_ (done_of HT_.out (by kernel_rfl)) ?_
                   have hnb122 := NB512_493.out; have hnc122 := NB493_512.out; have hcz123_0 : w121.cell? ⟨gb512, 0, none⟩ = some (.int .i64 ((rd_T57 t486 (ji106)).f0)) := (blk_cell BK512.out 0).trans rfl; have hcz123_1 : w121.cell? ⟨gb512, 1, none⟩ = some (.int .i64 ((rd_T57 t486 (ji106)).f1)) := (blk_cell BK512.out 1).trans rfl; have hcz123_2 : w121.cell? ⟨gb512, 2, none⟩ = some (.int .i64 ((rd_T57 t486 (ji106)).f2)) := (blk_cell BK512.out 2).trans rfl; have hfz123_0 := blk_frozen BK512.out 0; have hfz123_1 := blk_frozen BK512.out 1; have hfz123_2 := blk_frozen BK512.out 2; (try go_wp2); (try rw [← hji100])
                   go_roundg k3
                   case measure => have := HJ10.out; have := HJ49.out; have := HK3.out; omega
                   case rel => exact ⟨(wrap64 (x257_3 + 1)), zb_, H', ⟨by have := HJ10.out; have := HJ49.out; have := HK3.out; omega⟩, ⟨zs HO_33.out⟩, ⟨zs HO_255.out⟩, ⟨by refine zr ?_; exact Kd.R_mono HO_494001.out (fun _ hk => trivial)⟩, ⟨zr HO_494002.out⟩, ⟨zb BK493.out⟩, ⟨zga_⟩⟩
                  ·rw [if_neg c114] at H
                   have c114b0 := beq_eq_false_iff_ne.mpr c114; have c114b1 := bne_iff_ne.mpr c114
                   by_cases c124 : (rd (rd_L2 t503 t492) (rd (rd_L2 t498 x257_3) 0)) = ((rd_T57 t486 (ji106)).f2)
                   rotate_left
                   ·rw [if_neg c124] at H
                    exact absurd H (by simp)
                   rw [if_pos c124] at H; have c124b0 := beq_iff_eq.mpr c124; have c124b1 := bne_eq_false_iff_eq.mpr c124; clear c124; have H' := aM H; clear H; have p507 : 0 ≤ (x257_3 : Int) := of_decide_eq_true za_; have q507 : x257_3 < (t498.length : Int) := of_decide_eq_true za_; obtain ⟨ad507, A507_0, c507_0, e507, hx507_0, hl507_0, hi507_0⟩ := at_L2 (Kd.S_reads' HO_255.out).2.2 x257_3 p507 q507
                   cases e507
                   obtain ⟨ce507, hce507, hMe507, hcc507⟩ := Kd.S_get HO_255.out [] x257_3 p507 (by first | exact q507 | exact of_decide_eq_true za_ | (have e_ := (Kd.S_reads' HO_255.out).1; omega)); obtain ⟨ve507_0, rfl, ge507_0⟩ := hMe507; have hv507_0 := hcc507 0 _ rfl; rw [Nat.add_zero, show ((Kd.slice 3 (Kd.int .i64))).sz = 1 from rfl, Nat.mul_one] at hv507_0; replace hv507_0 := Option.some.inj (hv507_0.symm.trans hx507_0); rw [hv507_0] at ge507_0; have HL507_0 := aM (show Kd.R (Kd.int .i64) 3 _ _ _ _ (rd_L2 t498 x257_3) from ge507_0); clear hv507_0 ge507_0 hcc507 hce507; have HR507_0 := aM hi507_0; have HC507_0 := aM hl507_0; clear hi507_0 hl507_0; replace p507 := eq_true p507; replace q507 := eq_true q507; (try go_wp2); have n_ := z (Kd.S_drew HO_33.out) <| z (Kd.S_drew HO_255.out) <| z (kD HO_494001.out) <| z (kD HO_494002.out) <| z (kD HL507_0.out) <| z (blk_drew BK493.out) <| z (cD HR507_0.out) <| z1 (p1 HB.out)
                   clear HO_33 HO_255 HO_494001 HO_494002 HL507_0 BK493 HR507_0 HB; obtain ⟨HO_33, HO_255, HO_494001, HO_494002, HL507_0, BK493, HR507_0, HB⟩ := n_; have p508 : 0 ≤ ((ji100) : Int) := of_decide_eq_true za_; have q508 : (ji100) < (t503.length : Int) := of_decide_eq_true za_; obtain ⟨ad508, A508_0, c508_0, e508, hx508_0, hl508_0, hi508_0⟩ := at_L2 (Kd.S_reads' HO_33.out).2.2 (ji100) p508 q508
                   cases e508
                   obtain ⟨ce508, hce508, hMe508, hcc508⟩ := Kd.S_get HO_33.out [] (ji100) p508 (by first | exact q508 | exact of_decide_eq_true za_ | (have e_ := (Kd.S_reads' HO_33.out).1; omega)); obtain ⟨ve508_0, rfl, ge508_0⟩ := hMe508; have hv508_0 := hcc508 0 _ rfl; rw [Nat.add_zero, show ((Kd.slice 3 (Kd.int .i64))).sz = 1 from rfl, Nat.mul_one] at hv508_0; replace hv508_0 := Option.some.inj (hv508_0.symm.trans hx508_0); rw [hv508_0] at ge508_0; have HL508_0 := aM (show Kd.R (Kd.int .i64) 3 _ _ _ _ (rd_L2 t503 (ji100)) from ge508_0); clear hv508_0 ge508_0 hcc508 hce508; have HR508_0 := aM hi508_0; have HC508_0 := aM hl508_0; clear hi508_0 hl508_0; replace p508 := eq_true p508; replace q508 := eq_true q508; have p509 : 0 ≤ (1 : Int) := (by omega); have q509 : 1 < ((rd_L2 t498 x257_3).length : Int) := of_decide_eq_true za_; obtain ⟨ad509, e509, hx509_0⟩ := Kd.at_int zfi_ 1 p509 q509
                   cases e509
                   (try simp only [show (1 : Int).toNat = 1 from rfl, Nat.reduceMul, Nat.reduceEqDiff, Go.Addr.add, ↓reduceIte] at hx509_0); have qi509 : (1 < (rd_L2 t498 x257_3).length) = True := eq_true (by omega); (try rw [show ((1 : Int)).toNat = 1 from rfl] at hx509_0); replace p509 := eq_true p509; replace q509 := eq_true q509; have p510 : 0 ≤ ((rd (rd_L2 t498 x257_3) 1) : Int) := of_decide_eq_true za_; have q510 : (rd (rd_L2 t498 x257_3) 1) < ((rd_L2 t503 (ji100)).length : Int) := of_decide_eq_true za_; obtain ⟨ad510, e510, hx510_0⟩ := Kd.at_int zfj_ (rd (rd_L2 t498 x257_3) 1) p510 q510
                   cases e510
                   replace p510 := eq_true p510; replace q510 := eq_true q510; have p511 : 0 ≤ ((ji106) : Int) := of_decide_eq_true za_; have q511 : (ji106) < (t486.length : Int) := of_decide_eq_true za_; obtain ⟨ad511, e511, hx511_0, hx511_1, hx511_2⟩ := at_T57 (Kd.R_reads' HO_494001.out).2.2 (ji106) p511 q511
                   cases e511
                   replace p511 := eq_true p511; replace q511 := eq_true q511
                   refine start_ (n := 19) (S := fun w' => w'.cell? ⟨gb493, 0, none⟩ = some (.int .i64 t485) ∧ w'.cell? ⟨gb493, 1, none⟩ = some (.slice (some ad511) t486.length co87) ∧ w'.cell? ⟨gb493, 2, none⟩ = some (.slice Ao88 t489.length co88) ∧ w'.cell? (ad508.add ((ji100)).toNat) = some (.slice (some ad510) (rd_L2 t503 (ji100)).length c508_0) ∧ w'.cell? ⟨ad509.block, ad509.off + 1, none⟩ = some (.int .i64 (rd (rd_L2 t498 x257_3) 1)) ∧ w'.cell? (ad510.add ((rd (rd_L2 t498 x257_3) 1)).toNat) = some (.int .i64 (rd (rd_L2 t503 (ji100)) (rd (rd_L2 t498 x257_3) 1))) ∧ w'.cell? (ad511.add (((ji106)).toNat * 3)) = some (.int .i64 ((rd_T57 t486 (ji106)).f0)) ∧ w'.cell? ⟨(ad511.add (((ji106)).toNat * 3)).block, (ad511.add (((ji106)).toNat * 3)).off + 1, none⟩ = some (.int .i64 ((rd_T57 t486 (ji106)).f1)) ∧ w'.cell? ⟨(ad511.add (((ji106)).toNat * 3)).block, (ad511.add (((ji106)).toNat * 3)).off + 2, none⟩ = some (.int .i64 ((rd_T57 t486 (ji106)).f2))) (ds := []) #[fi,fi,fi,fi,fi,fi,fi,fi,fi,fi,fi,fi,fi,fi,fi,fi,fi,fi,fi] (by kernel_rfl) rfl rfl ⟨(blk_cell BK493.out 0).trans rfl, (blk_cell BK493.out 1).trans rfl, (blk_cell BK493.out 2).trans rfl, hx508_0, hx509_0, hx510_0, hx511_0, hx511_1, hx511_2⟩ (fun hHeld => ?_); refine with_tabW laws_FnCrossings.tab52 laws_FnCrossings.bits52 (fun HT_ HW_ => ?_)
                   generalize wr.drew = w125 at HO_33 HO_255 HO_494001 HO_494002 HL507_0 BK493 HR507_0 HB HL508_0 HR508_0 hx508_0 hx509_0 hx510_0 hx511_0 hx511_1 hx511_2 hHeld ⊢; refine py_ 0 261 HT_.out ?_; refine py_ 2 263 HT_.out ?_; refine py_ 3 264 HT_.out ?_; refine py_ 4 265 HT_.out ?_; refine py_ 5 266 HT_.out ?_; refine py_ 7 268 HT_.out ?_; refine py_ 8 269 HT_.out ?_; refine py_ 12 273 HT_.out ?_
                   refine take_ (i := 1) (N := some 262) (v := ?_) (a' := ?_) #[ti,ti,ti,ti,ti,ti,fi,ti,ti,fi,fi,fi,ti,fi,fi,fi,fi,fi,fi] rfl rfl (take_ofW HT_.out HW_.out (by kernel_rfl)) (fun _ _ _ h => h) (Or.inl ⟨by rfl, ?_⟩) hHeld ?_ ?_
                   rotate_left
                   ·rintro w' ⟨s0, s1, s2, s3, s4, s5, s6, s7, s8⟩
                    go_simp
                    with_reducible rfl
                   rotate_left
                   ·simp only [Act.put, sI, s0, sS, i64_w, i32_w]
                    rfl
                   refine take_ (i := 6) (N := some 267) (v := ?_) (a' := ?_) #[ti,ti,ti,ti,ti,ti,ti,ti,ti,fi,fi,fi,ti,fi,fi,fi,fi,fi,fi] rfl rfl (take_ofW HT_.out HW_.out (by kernel_rfl)) (fun _ _ _ h => h) (Or.inl ⟨by rfl, ?_⟩) hHeld ?_ ?_
                   rotate_left
                   ·rintro w' ⟨s0, s1, s2, s3, s4, s5, s6, s7, s8⟩
                    go_simp
                    with_reducible rfl
                   rotate_left
                   ·simp only [Act.put, sI, s0, sS, i64_w, i32_w]
                    rfl
                   refine take_ (i := 9) (N := some 270) (v := ?_) (a' := ?_) #[ti,ti,ti,ti,ti,ti,ti,ti,ti,ti,fi,fi,ti,fi,fi,fi,fi,fi,fi] rfl rfl (take_ofW HT_.out HW_.out (by kernel_rfl)) (fun _ _ _ h => h) (Or.inl ⟨by rfl, ?_⟩) hHeld ?_ ?_
                   rotate_left
                   ·rintro w' ⟨s0, s1, s2, s3, s4, s5, s6, s7, s8⟩
                    go_simp
                    with_reducible rfl
                   rotate_left
                   ·simp only [Act.put, sI, s0, sS, i64_w, i32_w]
                    rfl
                   refine py_ 10 271 HT_.out ?_
                   refine take_ (i := 11) (N := some 272) (v := ?_) (a' := ?_) #[ti,ti,ti,ti,ti,ti,ti,ti,ti,ti,ti,ti,ti,fi,fi,fi,fi,fi,fi] rfl rfl (take_ofW HT_.out HW_.out (by kernel_rfl)) (fun _ _ _ h => h) (Or.inl ⟨by rfl, ?_⟩) hHeld ?_ ?_
                   rotate_left
                   ·rintro w' ⟨s0, s1, s2, s3, s4, s5, s6, s7, s8⟩
                    go_simp
                    with_reducible rfl
                   rotate_left
                   ·simp only [Act.put, sI, s0, sS, i64_w, i32_w]
                    rfl
                   refine take_ (i := 13) (N := some 274) (v := ?_) (a' := ?_) #[ti,ti,ti,ti,ti,ti,ti,ti,ti,ti,ti,ti,ti,ti,fi,fi,fi,fi,fi] rfl rfl (take_ofW HT_.out HW_.out (by kernel_rfl)) (fun _ _ _ h => h) (Or.inl ⟨by rfl, ?_⟩) hHeld ?_ ?_
                   rotate_left
                   ·rintro w' ⟨s0, s1, s2, s3, s4, s5, s6, s7, s8⟩
                    go_simp
                    with_reducible rfl
                   rotate_left
                   ·simp only [Act.put, sI, s0, sS, i64_w, i32_w]
                    rfl
                   refine py_ 14 275 HT_.out ?_; refine py_ 15 276 HT_.out ?_
                   refine take_ (i := 16) (N := some 277) (v := ?_) (a' := ?_) #[ti,ti,ti,ti,ti,ti,ti,ti,ti,ti,ti,ti,ti,ti,ti,ti,ti,fi,fi] rfl rfl (take_ofW HT_.out HW_.out (by kernel_rfl)) (fun _ _ _ h => h) (Or.inl ⟨by rfl, ?_⟩) hHeld ?_ ?_
                   rotate_left
                   ·rintro w' ⟨s0, s1, s2, s3, s4, s5, s6, s7, s8⟩
                    go_simp
                    with_reducible rfl
                   rotate_left
                   ·simp only [Act.put, sI, s0, sS, i64_w, i32_w]
                    rfl
                   refine one_ (i := 17) (N := some 37) #[ti,ti,ti,ti,ti,ti,ti,ti,ti,ti,ti,ti,ti,ti,ti,ti,ti,ti,fi] rfl rfl (one_of HT_.out (by kernel_rfl)) (by decide) (fun K hK => ?_)
                   refine box_step ?hg (N := 37) ?hd (cs := #[.int .i64 0, .int .i64 0, .int .i64 0]) (t := 57) ?hr ?_; (case hd => rfl); (case hg => rfl); (case hr => exact ze_)
                   intro gb512 hg w126 hbox hb
                   have HS3_ := (hb.cell (World.block_lt_of_cell? _ _ (hHeld.2.2.2.1))).trans (hHeld.2.2.2.1); have HS4_ := (hb.cell (World.block_lt_of_cell? _ _ (hHeld.2.2.2.2.1))).trans (hHeld.2.2.2.2.1); have HS5_ := (hb.cell (World.block_lt_of_cell? _ _ (hHeld.2.2.2.2.2.1))).trans (hHeld.2.2.2.2.2.1); have HS6_ := (hb.cell (World.block_lt_of_cell? _ _ (hHeld.2.2.2.2.2.2.1))).trans (hHeld.2.2.2.2.2.2.1); have HS7_ := (hb.cell (World.block_lt_of_cell? _ _ (hHeld.2.2.2.2.2.2.2.1))).trans (hHeld.2.2.2.2.2.2.2.1); have HS8_ := (hb.cell (World.block_lt_of_cell? _ _ (hHeld.2.2.2.2.2.2.2.2))).trans (hHeld.2.2.2.2.2.2.2.2); have n_ := z (Kd.S_below (zs HO_33.out) hb) <| z (Kd.S_below (zs HO_255.out) hb) <| z (Kd.R_below (Kd.R_elderB (zr HO_494001.out) gb512 (Nat.le_of_eq hg.symm)) hb) <| z (Kd.R_below (zr HO_494002.out) hb) <| z (Kd.R_below (zr HL507_0.out) hb) <| z (Kd.R_below (zr HL508_0.out) hb) <| z (blk_below (zb BK493.out) hb) <| z (Kd.C_below zfi_ hb) <| z (Kd.C_below zfj_ hb) <| z (below_step zbb_ hb) <| z (hbox) <| z ((by rw [hg]; exact (below_size zbb_) : w.heap.size ≤ gb512)) <| z ((by rw [hg]; exact (below_size zbb_) : w.heap.size ≤ gb512)) <| z ((by rw [hg]; exact Nat.ne_of_lt (blk_lt (zb BK493.out)) : gb493 ≠ gb512)) <| z1 ((by rw [hg]; exact Nat.ne_of_gt (blk_lt (zb BK493.out)) : gb512 ≠ gb493))
                   clear HO_33 HO_255 HO_494001 HO_494002 HL507_0 HL508_0 BK493 HR507_0 HR508_0 HB; obtain ⟨HO_33, HO_255, HO_494001, HO_494002, HL507_0, HL508_0, BK493, HR507_0, HR508_0, HB, BK512, GW512, GE512, NB493_512, NB512_493⟩ := n_; clear hb hbox hg
                   refine hK.out _ _ ⟨(blk_cell BK493.out 0).trans rfl, (blk_cell BK493.out 1).trans rfl, (blk_cell BK493.out 2).trans rfl, HS3_, HS4_, HS5_, HS6_, HS7_, HS8_⟩ (fun hHeld => ?_)
                   clear hK K
                   refine norm_ (a' := ?_) ?_ ?_
                   rotate_left
                   ·show Act.put _ (some 37) _ = _
                    simp only [Act.put, sI, s0, sS, i64_w, i32_w]
                    rfl
                   refine one_ (i := 18) (N := none) #[ti,ti,ti,ti,ti,ti,ti,ti,ti,ti,ti,ti,ti,ti,ti,ti,ti,ti,ti] rfl rfl (one_of HT_.out (by kernel_rfl)) (by decide) (fun K hK => ?_)
                   have hs127 : w126.cell? ⟨gb512, 0, none⟩ = some (.int .i64 0) := (blk_cell BK512.out 0).trans rfl; have hfs127 := blk_frozen BK512.out 0; have hns127_0 := NB493_512.out; have hms127_0 := NB512_493.out; have hs128 : w126.cell? ⟨gb512, 1, none⟩ = some (.int .i64 0) := (blk_cell BK512.out 1).trans rfl; have hfs128 := blk_frozen BK512.out 1; have hns128_0 := NB493_512.out; have hms128_0 := NB512_493.out; have hs129 : w126.cell? ⟨gb512, 2, none⟩ = some (.int .i64 0) := (blk_cell BK512.out 2).trans rfl; have hfs129 := blk_frozen BK512.out 2; have hns129_0 := NB493_512.out; have hms129_0 := NB512_493.out
                   refine skip_ (w1 := ?_) (by rfl) rfl ?_ ?_
                   rotate_left
                   ·go_simp
                    rfl
                   refine hK.out _ _ ⟨((cell_far (p := ⟨gb512, _, none⟩) NB493_512.out _).trans (((cell_far (p := ⟨gb512, _, none⟩) NB493_512.out _).trans (((cell_far (p := ⟨gb512, _, none⟩) NB493_512.out _).trans (hHeld.1)))))), ((cell_far (p := ⟨gb512, _, none⟩) NB493_512.out _).trans (((cell_far (p := ⟨gb512, _, none⟩) NB493_512.out _).trans (((cell_far (p := ⟨gb512, _, none⟩) NB493_512.out _).trans (hHeld.2.1)))))), ((cell_far (p := ⟨gb512, _, none⟩) NB493_512.out _).trans (((cell_far (p := ⟨gb512, _, none⟩) NB493_512.out _).trans (((cell_far (p := ⟨gb512, _, none⟩) NB493_512.out _).trans (hHeld.2.2.1)))))), ((cell_far (p := ⟨gb512, _, none⟩) zee_ _).trans (((cell_far (p := ⟨gb512, _, none⟩) zee_ _).trans (((cell_far (p := ⟨gb512, _, none⟩) zee_ _).trans (hHeld.2.2.2.1)))))), ((cell_far (p := ⟨gb512, _, none⟩) zef_ _).trans (((cell_far (p := ⟨gb512, _, none⟩) zef_ _).trans (((cell_far (p := ⟨gb512, _, none⟩) zef_ _).trans (hHeld.2.2.2.2.1)))))), ((cell_far (p := ⟨gb512, _, none⟩) zeg_ _).trans (((cell_far (p := ⟨gb512, _, none⟩) zeg_ _).trans (((cell_far (p := ⟨gb512, _, none⟩) zeg_ _).trans (hHeld.2.2.2.2.2.1)))))), ((cell_far (p := ⟨gb512, _, none⟩) zbc_ _).trans (((cell_far (p := ⟨gb512, _, none⟩) zbc_ _).trans (((cell_far (p := ⟨gb512, _, none⟩) zbc_ _).trans (hHeld.2.2.2.2.2.2.1)))))), ((cell_far (p := ⟨gb512, _, none⟩) zbc_ _).trans (((cell_far (p := ⟨gb512, _, none⟩) zbc_ _).trans (((cell_far (p := ⟨gb512, _, none⟩) zbc_ _).trans (hHeld.2.2.2.2.2.2.2.1)))))), ((cell_far (p := ⟨gb512, _, none⟩) zbc_ _).trans (((cell_far (p := ⟨gb512, _, none⟩) zbc_ _).trans (((cell_far (p := ⟨gb512, _, none⟩) zbc_ _).trans (hHeld.2.2.2.2.2.2.2.2))))))⟩ (fun hHeld => ?_)
                   clear hK K
                   refine done_ (done_of HT_.out (by kernel_rfl)) ?_
                   (try go_wp2); have n0_ : Aside0 (Kd.S (Kd.slice 3 (Kd.int .i64)) 24 (((w126.setCell ⟨gb512, 0, none⟩ (.int .i64 ((rd_T57 t486 (ji106)).f0))).setCell ⟨gb512, 1, none⟩ (.int .i64 ((rd_T57 t486 (ji106)).f1))).setCell ⟨gb512, 2, none⟩ (.int .i64 ((rd_T57 t486 (ji106)).f2))) w.heap.size (fun k_ => some k_ ≠ (.slice (some ad507) t498.length co93 : Value).ownBlock ∧ some k_ ≠ (.slice Ao88 t489.length co88 : Value).ownBlock) (.slice (some ad508) t503.length co96) t503) := ⟨by refine zs ?_; exact Kd.S_mono (Kd.S_far (p := ⟨gb512, 2, none⟩) (Kd.S_far (p := ⟨gb512, 1, none⟩) (Kd.S_far (p := ⟨gb512, 0, none⟩) (Kd.S_types HO_33.out BK512.out (by decide)) (fun _ hk => hk.2) (.int .i64 ((rd_T57 t486 (ji106)).f0))) (fun _ hk => hk.2) (.int .i64 ((rd_T57 t486 (ji106)).f1))) (fun _ hk => hk.2) (.int .i64 ((rd_T57 t486 (ji106)).f2))) (fun _ hk => ⟨hk.1.1, hk.1.2⟩)⟩; have n1_ : Aside0 (Kd.S (Kd.slice 3 (Kd.int .i64)) 24 (((w126.setCell ⟨gb512, 0, none⟩ (.int .i64 ((rd_T57 t486 (ji106)).f0))).setCell ⟨gb512, 1, none⟩ (.int .i64 ((rd_T57 t486 (ji106)).f1))).setCell ⟨gb512, 2, none⟩ (.int .i64 ((rd_T57 t486 (ji106)).f2))) w.heap.size (fun k_ => some k_ ≠ (.slice (some ad508) t503.length co96 : Value).ownBlock ∧ some k_ ≠ (.slice Ao88 t489.length co88 : Value).ownBlock) (.slice (some ad507) t498.length co93) t498) := ⟨by refine zs ?_; exact Kd.S_mono (Kd.S_far (p := ⟨gb512, 2, none⟩) (Kd.S_far (p := ⟨gb512, 1, none⟩) (Kd.S_far (p := ⟨gb512, 0, none⟩) (Kd.S_types HO_255.out BK512.out (by decide)) (fun _ hk => hk.2) (.int .i64 ((rd_T57 t486 (ji106)).f0))) (fun _ hk => hk.2) (.int .i64 ((rd_T57 t486 (ji106)).f1))) (fun _ hk => hk.2) (.int .i64 ((rd_T57 t486 (ji106)).f2))) (fun _ hk => ⟨hk.1.1, hk.1.2⟩)⟩; have n2_ : Aside0 (Kd.R k57 57 (((w126.setCell ⟨gb512, 0, none⟩ (.int .i64 ((rd_T57 t486 (ji106)).f0))).setCell ⟨gb512, 1, none⟩ (.int .i64 ((rd_T57 t486 (ji106)).f1))).setCell ⟨gb512, 2, none⟩ (.int .i64 ((rd_T57 t486 (ji106)).f2))) w.heap.size (fun k_ => k_ ≠ gb512) (.slice (some ad511) t486.length co87) t486) := ⟨by refine zr ?_; exact Kd.R_mono (Kd.R_far (p := ⟨gb512, 2, none⟩) (Kd.R_far (p := ⟨gb512, 1, none⟩) (Kd.R_far (p := ⟨gb512, 0, none⟩) (Kd.R_mono HO_494001.out (fun k_ hk => (⟨hk, hk.2⟩ : _ ∧ k_ ≠ gb512))) (fun _ hk => hk.2) (.int .i64 ((rd_T57 t486 (ji106)).f0))) (fun _ hk => hk.2) (.int .i64 ((rd_T57 t486 (ji106)).f1))) (fun _ hk => hk.2) (.int .i64 ((rd_T57 t486 (ji106)).f2))) (fun _ hk => hk.1.2)⟩; have n3_ : Aside0 (Kd.R (Kd.int .i64) 3 (((w126.setCell ⟨gb512, 0, none⟩ (.int .i64 ((rd_T57 t486 (ji106)).f0))).setCell ⟨gb512, 1, none⟩ (.int .i64 ((rd_T57 t486 (ji106)).f1))).setCell ⟨gb512, 2, none⟩ (.int .i64 ((rd_T57 t486 (ji106)).f2))) w.heap.size (fun _ => True) (.slice Ao88 t489.length co88) t489) := ⟨by refine zr ?_; exact Kd.R_mono (Kd.R_far (p := ⟨gb512, 2, none⟩) (Kd.R_far (p := ⟨gb512, 1, none⟩) (Kd.R_far (p := ⟨gb512, 0, none⟩) (Kd.R_types HO_494002.out BK512.out (by decide)) (fun _ hk => hk.2) (.int .i64 ((rd_T57 t486 (ji106)).f0))) (fun _ hk => hk.2) (.int .i64 ((rd_T57 t486 (ji106)).f1))) (fun _ hk => hk.2) (.int .i64 ((rd_T57 t486 (ji106)).f2))) (fun _ hk => trivial)⟩; have n4_ : Aside0 (Kd.R (Kd.int .i64) 3 (((w126.setCell ⟨gb512, 0, none⟩ (.int .i64 ((rd_T57 t486 (ji106)).f0))).setCell ⟨gb512, 1, none⟩ (.int .i64 ((rd_T57 t486 (ji106)).f1))).setCell ⟨gb512, 2, none⟩ (.int .i64 ((rd_T57 t486 (ji106)).f2))) w.heap.size (fun k_ => some k_ ≠ (.slice (some ad508) t503.length co96 : Value).ownBlock ∧ some k_ ≠ (.slice (some ad507) t498.length co93 : Value).ownBlock ∧ some k_ ≠ (.slice Ao88 t489.length co88 : Value).ownBlock) (.slice (some ad509) (rd_L2 t498 x257_3).length c507_0) (rd_L2 t498 x257_3)) := ⟨by refine zr ?_; exact Kd.R_mono (Kd.R_far (p := ⟨gb512, 2, none⟩) (Kd.R_far (p := ⟨gb512, 1, none⟩) (Kd.R_far (p := ⟨gb512, 0, none⟩) (Kd.R_types HL507_0.out BK512.out (by decide)) (fun _ hk => hk.2) (.int .i64 ((rd_T57 t486 (ji106)).f0))) (fun _ hk => hk.2) (.int .i64 ((rd_T57 t486 (ji106)).f1))) (fun _ hk => hk.2) (.int .i64 ((rd_T57 t486 (ji106)).f2))) (fun _ hk => ⟨hk.1.1.1, ⟨hk.1.2, hk.1.1.2⟩⟩)⟩; have n5_ : Aside0 (Kd.R (Kd.int .i64) 3 (((w126.setCell ⟨gb512, 0, none⟩ (.int .i64 ((rd_T57 t486 (ji106)).f0))).setCell ⟨gb512, 1, none⟩ (.int .i64 ((rd_T57 t486 (ji106)).f1))).setCell ⟨gb512, 2, none⟩ (.int .i64 ((rd_T57 t486 (ji106)).f2))) w.heap.size (fun k_ => some k_ ≠ (.slice (some ad508) t503.length co96 : Value).ownBlock ∧ some k_ ≠ (.slice (some ad507) t498.length co93 : Value).ownBlock ∧ some k_ ≠ (.slice Ao88 t489.length co88 : Value).ownBlock) (.slice (some ad510) (rd_L2 t503 (ji100)).length c508_0) (rd_L2 t503 (ji100))) := ⟨by refine zr ?_; exact Kd.R_mono (Kd.R_far (p := ⟨gb512, 2, none⟩) (Kd.R_far (p := ⟨gb512, 1, none⟩) (Kd.R_far (p := ⟨gb512, 0, none⟩) (Kd.R_types HL508_0.out BK512.out (by decide)) (fun _ hk => hk.2) (.int .i64 ((rd_T57 t486 (ji106)).f0))) (fun _ hk => hk.2) (.int .i64 ((rd_T57 t486 (ji106)).f1))) (fun _ hk => hk.2) (.int .i64 ((rd_T57 t486 (ji106)).f2))) (fun _ hk => ⟨hk.1.2, ⟨hk.1.1.1, hk.1.1.2⟩⟩)⟩; have n6_ : Aside0 ((((w126.setCell ⟨gb512, 0, none⟩ (.int .i64 ((rd_T57 t486 (ji106)).f0))).setCell ⟨gb512, 1, none⟩ (.int .i64 ((rd_T57 t486 (ji106)).f1))).setCell ⟨gb512, 2, none⟩ (.int .i64 ((rd_T57 t486 (ji106)).f2))).heap[gb493]? = some (.cells #[.int .i64 t485, .slice (some ad511) t486.length co87, .slice Ao88 t489.length co88] 49 (0, 0))) := ⟨by refine zb ?_; refine blk_far ?_ NB493_512.out _; refine zb ?_; refine blk_far ?_ NB493_512.out _; refine zb ?_; refine blk_far ?_ NB493_512.out _; refine zb ?_; exact BK493.out⟩; have n7_ : Aside0 ((((w126.setCell ⟨gb512, 0, none⟩ (.int .i64 ((rd_T57 t486 (ji106)).f0))).setCell ⟨gb512, 1, none⟩ (.int .i64 ((rd_T57 t486 (ji106)).f1))).setCell ⟨gb512, 2, none⟩ (.int .i64 ((rd_T57 t486 (ji106)).f2))).heap[gb512]? = some (.cells #[.int .i64 ((rd_T57 t486 (ji106)).f0), .int .i64 ((rd_T57 t486 (ji106)).f1), .int .i64 ((rd_T57 t486 (ji106)).f2)] 57 (0, 0))) := ⟨by refine zb ?_; refine blk_put (cs := #[.int .i64 ((rd_T57 t486 (ji106)).f0), .int .i64 ((rd_T57 t486 (ji106)).f1), .int .i64 0]) ?_ 2 _ rfl; refine zb ?_; refine blk_put (cs := #[.int .i64 ((rd_T57 t486 (ji106)).f0), .int .i64 0, .int .i64 0]) ?_ 1 _ rfl; refine zb ?_; refine blk_put (cs := #[.int .i64 0, .int .i64 0, .int .i64 0]) ?_ 0 _ rfl; refine zb ?_; exact BK512.out⟩; have n8_ : Aside0 (Below w.heap.size w (((w126.setCell ⟨gb512, 0, none⟩ (.int .i64 ((rd_T57 t486 (ji106)).f0))).setCell ⟨gb512, 1, none⟩ (.int .i64 ((rd_T57 t486 (ji106)).f1))).setCell ⟨gb512, 2, none⟩ (.int .i64 ((rd_T57 t486 (ji106)).f2)))) := ⟨zga_⟩; (try clear HO_33); (try clear HO_255); (try clear HO_494001); (try clear HO_494002); (try clear HL507_0); (try clear HL508_0); (try clear BK493); (try clear BK512); (try clear HB); generalize (((w126.setCell ⟨gb512, 0, none⟩ (.int .i64 ((rd_T57 t486 (ji106)).f0))).setCell ⟨gb512, 1, none⟩ (.int .i64 ((rd_T57 t486 (ji106)).f1))).setCell ⟨gb512, 2, none⟩ (.int .i64 ((rd_T57 t486 (ji106)).f2))) = w130 at n0_ n1_ n2_ n3_ n4_ n5_ n6_ n7_ n8_ ⊢; have HO_33 := n0_; have HO_255 := n1_; have HO_494001 := n2_; have HO_494002 := n3_; have HL507_0 := n4_; have HL508_0 := n5_; have BK493 := n6_; have BK512 := n7_; have HB := n8_; clear n0_ n1_ n2_ n3_ n4_ n5_ n6_ n7_ n8_; have n_ := z (Kd.S_drew HO_33.out) <| z (Kd.S_drew HO_255.out) <| z (kD HO_494001.out) <| z (kD HO_494002.out) <| z (kD HL507_0.out) <| z (kD HL508_0.out) <| z (blk_drew BK493.out) <| z (blk_drew BK512.out) <| z1 (p1 HB.out)
                   clear HO_33 HO_255 HO_494001 HO_494002 HL507_0 HL508_0 BK493 BK512 HB; obtain ⟨HO_33, HO_255, HO_494001, HO_494002, HL507_0, HL508_0, BK493, BK512, HB⟩ := n_; have p513 : 0 ≤ (t492 : Int) := of_decide_eq_true za_; have q513 : t492 < (t503.length : Int) := of_decide_eq_true za_; obtain ⟨ad513, A513_0, c513_0, e513, hx513_0, hl513_0, hi513_0⟩ := at_L2 (Kd.S_reads' HO_33.out).2.2 t492 p513 q513; obtain rfl : ad508 = ad513 := (by injection e513); obtain ⟨ce513, hce513, hMe513, hcc513⟩ := Kd.S_get HO_33.out [] t492 p513 (by first | exact q513 | exact of_decide_eq_true za_ | (have e_ := (Kd.S_reads' HO_33.out).1; omega)); obtain ⟨ve513_0, rfl, ge513_0⟩ := hMe513; have hv513_0 := hcc513 0 _ rfl; rw [Nat.add_zero, show ((Kd.slice 3 (Kd.int .i64))).sz = 1 from rfl, Nat.mul_one] at hv513_0; replace hv513_0 := Option.some.inj (hv513_0.symm.trans hx513_0); rw [hv513_0] at ge513_0; have HL513_0 := aM (show Kd.R (Kd.int .i64) 3 _ _ _ _ (rd_L2 t503 t492) from ge513_0); clear hv513_0 ge513_0 hcc513 hce513; have HR513_0 := aM hi513_0; have HC513_0 := aM hl513_0; clear hi513_0 hl513_0; replace p513 := eq_true p513; replace q513 := eq_true q513; have p514 : 0 ≤ (0 : Int) := (by omega); have q514 : 0 < ((rd_L2 t498 x257_3).length : Int) := of_decide_eq_true za_; obtain ⟨ad514, e514, hx514_0⟩ := Kd.at_int ((Kd.R_reads' HL507_0.out).2.2) 0 p514 q514; obtain rfl : ad509 = ad514 := (by injection e514); have qi514 : (0 < (rd_L2 t498 x257_3).length) = True := eq_true (by omega); (try rw [show ((0 : Int)).toNat = 0 from rfl] at hx514_0); (try rw [Addr.add_zero'] at hx514_0); replace p514 := eq_true p514; replace q514 := eq_true q514; have p515 : 0 ≤ ((rd (rd_L2 t498 x257_3) 0) : Int) := of_decide_eq_true za_; have q515 : (rd (rd_L2 t498 x257_3) 0) < ((rd_L2 t503 t492).length : Int) := of_decide_eq_true za_; obtain ⟨ad515, e515, hx515_0⟩ := Kd.at_int (by repeat (first | (with_reducible exact HR513_0.out) | (with_reducible refine cA ?_ _) | (with_reducible refine cN ?_ _) | (with_reducible refine cD ?_) | exact HR513_0.out)) (rd (rd_L2 t498 x257_3) 0) p515 q515
                   cases e515
                   replace p515 := eq_true p515; replace q515 := eq_true q515
                   refine start_ (n := 10) (S := fun w' => w'.cell? (ad508.add (t492).toNat) = some (.slice (some ad515) (rd_L2 t503 t492).length c513_0) ∧ w'.cell? ad509 = some (.int .i64 (rd (rd_L2 t498 x257_3) 0)) ∧ w'.cell? (ad515.add ((rd (rd_L2 t498 x257_3) 0)).toNat) = some (.int .i64 (rd (rd_L2 t503 t492) (rd (rd_L2 t498 x257_3) 0)))) (ds := []) #[fi,fi,fi,fi,fi,fi,fi,fi,fi,fi] (by kernel_rfl) rfl rfl ⟨hx513_0, hx514_0, hx515_0⟩ (fun hHeld => ?_); refine with_tabW laws_FnCrossings.tab53 laws_FnCrossings.bits53 (fun HT_ HW_ => ?_)
                   generalize w130.drew = w131 at HO_33 HO_255 HO_494001 HO_494002 HL507_0 HL508_0 BK493 BK512 HB HL513_0 HR513_0 hx513_0 hx514_0 hx515_0 hHeld ⊢; refine py_ 0 278 HT_.out ?_; refine py_ 1 279 HT_.out ?_; refine py_ 2 280 HT_.out ?_; refine py_ 4 282 HT_.out ?_; refine py_ 5 283 HT_.out ?_
                   refine take_ (i := 3) (N := some 281) (v := ?_) (a' := ?_) #[ti,ti,ti,ti,ti,ti,fi,fi,fi,fi] rfl rfl (take_ofW HT_.out HW_.out (by kernel_rfl)) (fun _ _ _ h => h) (Or.inl ⟨by rfl, ?_⟩) hHeld ?_ ?_
                   rotate_left
                   ·rintro w' ⟨s0, s1, s2⟩
                    go_simp
                    with_reducible rfl
                   rotate_left
                   ·simp only [Act.put, sI, s0, sS, i64_w, i32_w]
                    rfl
                   refine take_ (i := 6) (N := some 284) (v := ?_) (a' := ?_) #[ti,ti,ti,ti,ti,ti,ti,fi,fi,fi] rfl rfl (take_ofW HT_.out HW_.out (by kernel_rfl)) (fun _ _ _ h => h) (Or.inl ⟨by rfl, ?_⟩) hHeld ?_ ?_
                   rotate_left
                   ·rintro w' ⟨s0, s1, s2⟩
                    go_simp
                    with_reducible rfl
                   rotate_left
                   ·simp only [Act.put, sI, s0, sS, i64_w, i32_w]
                    rfl
                   refine py_ 7 285 HT_.out ?_
                   refine take_ (i := 8) (N := some 286) (v := ?_) (a' := ?_) #[ti,ti,ti,ti,ti,ti,ti,ti,ti,fi] rfl rfl (take_ofW HT_.out HW_.out (by kernel_rfl)) (fun _ _ _ h => h) (Or.inl ⟨by rfl, ?_⟩) hHeld ?_ ?_
                   rotate_left
                   ·rintro w' ⟨s0, s1, s2⟩
                    go_simp
                    with_reducible rfl
                   rotate_left
                   ·simp only [Act.put, sI, s0, sS, i64_w, i32_w]
                    rfl
                   refine py_ 9 38 HT_.out ?_
                   refine done_ (done_of HT_.out (by kernel_rfl)) ?_
                   have hnb132 := NB512_493.out; have hnc132 := NB493_512.out; have hcz133_0 : w131.cell? ⟨gb512, 0, none⟩ = some (.int .i64 ((rd_T57 t486 (ji106)).f0)) := (blk_cell BK512.out 0).trans rfl; have hcz133_1 : w131.cell? ⟨gb512, 1, none⟩ = some (.int .i64 ((rd_T57 t486 (ji106)).f1)) := (blk_cell BK512.out 1).trans rfl; have hcz133_2 : w131.cell? ⟨gb512, 2, none⟩ = some (.int .i64 ((rd_T57 t486 (ji106)).f2)) := (blk_cell BK512.out 2).trans rfl; have hfz133_0 := blk_frozen BK512.out 0; have hfz133_1 := blk_frozen BK512.out 1; have hfz133_2 := blk_frozen BK512.out 2; (try go_wp2); (try rw [← hji100])
                   go_roundg k3
                   case measure => have := HJ10.out; have := HJ49.out; have := HK3.out; omega
                   case rel => exact ⟨(wrap64 (x257_3 + 1)), zb_, H', ⟨by have := HJ10.out; have := HJ49.out; have := HK3.out; omega⟩, ⟨zs HO_33.out⟩, ⟨zs HO_255.out⟩, ⟨by refine zr ?_; exact Kd.R_mono HO_494001.out (fun _ hk => trivial)⟩, ⟨zr HO_494002.out⟩, ⟨zb BK493.out⟩, ⟨zga_⟩⟩
                 ·rw [if_neg c97] at H
                  have c97b0 := decide_eq_false c97; clear c97; obtain rfl := Option.some.inj H
                  go_wp2
                  go_ret
                  exact ⟨zg_, zbb_⟩
            ·replace c82 := Bool.eq_false_iff.mpr c82
             subst c82; rw [if_neg (show ¬ (false = true) by decide)] at H; exact absurd H (by simp)
           ·replace c80 := Bool.eq_false_iff.mpr c80
            subst c80; rw [if_neg (show ¬ (false = true) by decide)] at H; obtain rfl := Option.some.inj H
            go_wp2_with (first | ((with_reducible refine gate_callee (f := 70) rfl ?_); refine goesL_ (some 216) rfl rfl Try.func70 (by kernel_rfl) rfl #[.slice A1 l1.length c1] rfl zd_ ?_; (with_reducible refine (spec_DrawLevelWires.calls _ _ l1 t485 t486 t489 t492 _ ?side1 ?side2 A74.out).mono ?_); (case side1 => exact zhc_); (case side2 => exact HC1.out); rintro e w134 ⟨v487, v490, rfl, ho0, ho1, hb⟩; refine ⟨_, rfl, ?_⟩; have n_ := z (Kd.R_lower ho0 (below_size zc_)) <| z (Kd.R_lower ho1 (below_size zc_)) <| z1 (below_step zc_ hb); clear HB; obtain ⟨HO488, HO491, HB⟩ := n_; clear hb; (try clear ho0); (try clear ho1)) | ((with_reducible refine gate_dst (N := 27) rfl ?_); (try (refine gate_guard (by rfl) ?_; dsimp only)); refine box_event ?hg (N := 27) ?hd (cs := #[.int .i64 0, .slice none 0 0, .slice none 0 0]) (t := 49) ?hr ?_; (case hd => rfl); (case hg => rfl); (case hr => exact ze_); intro gb493 hg w135 hbox hb; have n_ := z (Kd.R_below (zr HO488.out) hb) <| z (Kd.R_below (zr HO491.out) hb) <| z (below_step zc_ hb) <| z (hbox) <| z ((by rw [hg]; exact (below_size zc_) : w.heap.size ≤ gb493)) <| z1 ((by rw [hg]; exact (below_size zc_) : w.heap.size ≤ gb493)); clear HO488 HO491 HB; obtain ⟨HO488, HO491, HB, BK493, GW493, GE493⟩ := n_; clear hb hbox hg; have hcz136_0 : w135.cell? ⟨gb493, 0, none⟩ = some (.int .i64 0) := (blk_cell BK493.out 0).trans rfl; have hcz136_1 : w135.cell? ⟨gb493, 1, none⟩ = some (.slice none 0 0) := (blk_cell BK493.out 1).trans rfl; have hcz136_2 : w135.cell? ⟨gb493, 2, none⟩ = some (.slice none 0 0) := (blk_cell BK493.out 2).trans rfl; have hfz136_0 := blk_frozen BK493.out 0; have hfz136_1 := blk_frozen BK493.out 1; have hfz136_2 := blk_frozen BK493.out 2; obtain ⟨Ao137, co137, eo137⟩ := Kd.R_slice HO488.out; subst eo137; obtain ⟨Ao138, co138, eo138⟩ := Kd.R_slice HO491.out; subst eo138) | ((with_reducible refine gate_callee (f := 71) rfl ?_); refine goesL_ (some 222) rfl rfl Try.func71 (by kernel_rfl) rfl #[.agg #[.int .i64 t485, .slice Ao137 t486.length co137, .slice Ao138 t489.length co138], .int .i64 t492] rfl zd_ ?_; (with_reducible refine (impl_LevelWires.calls kj49 t485 _ _ t486 _ _ t489 t492 t494 false _ ?side1 ?side2 ?side3 ?side4 A75.out).mono ?_); (case side1 => refine (Kd.R_reads' (e := 57) (base := w.heap.size) (ok := fun k_ => True) (n := t486.length) (c := co137) ?_).2.2; exact (by refine zr ?_; exact (Kd.R_mono (Kd.R_far (p := ⟨gb493, 2, none⟩) (Kd.R_far (p := ⟨gb493, 1, none⟩) (Kd.R_far (p := ⟨gb493, 0, none⟩) (Kd.R_types HO488.out BK493.out (by decide)) (fun _ hk => hk.2) (.int .i64 t485)) (fun _ hk => hk.2) (.slice Ao137 t486.length co137)) (fun _ hk => hk.2) (.slice Ao138 t489.length co138)) (fun _ h_ => h_.1)))); (case side2 => exact zej_); (case side3 => refine (Kd.R_reads' (e := 3) (base := w.heap.size) (ok := fun k_ => True) (n := t489.length) (c := co138) ?_).2.2; exact zhg_); (case side4 => exact zfa_); rintro e w139 ⟨v495, rfl, ho0, hb⟩; refine ⟨_, rfl, ?_⟩; have n_ := z (Kd.R_below (by refine zr ?_; exact (Kd.R_mono (Kd.R_far (p := ⟨gb493, 2, none⟩) (Kd.R_far (p := ⟨gb493, 1, none⟩) (Kd.R_far (p := ⟨gb493, 0, none⟩) (Kd.R_types HO488.out BK493.out (by decide)) (fun _ hk => hk.2) (.int .i64 t485)) (fun _ hk => hk.2) (.slice Ao137 t486.length co137)) (fun _ hk => hk.2) (.slice Ao138 t489.length co138)) (fun _ h_ => h_.1))) hb) <| z (Kd.R_below zhg_ hb) <| z (Kd.S_lower (Kd.S_new' ho0 (Kd.R_lt zhg_)) (below_size zbb_)) <| z (blk_below (g := gb493) (o := .cells #[.int .i64 t485, .slice Ao137 t486.length co137, .slice Ao138 t489.length co138] 49 (0, 0)) (by refine zb ?_; refine blk_put (cs := #[.int .i64 t485, .slice Ao137 t486.length co137, .slice none 0 0]) ?_ 2 _ rfl; refine zb ?_; refine blk_put (cs := #[.int .i64 t485, .slice none 0 0, .slice none 0 0]) ?_ 1 _ rfl; refine zb ?_; refine blk_put (cs := #[.int .i64 0, .slice none 0 0, .slice none 0 0]) ?_ 0 _ rfl; refine zb ?_; exact BK493.out) hb) <| z1 (below_step zbb_ hb); clear HO488 HO491 BK493 HB; obtain ⟨HO488, HO491, HO496, BK493, HB⟩ := n_; clear hb; (try clear hk); (try clear ho0); have hcz140_0 : w139.cell? ⟨gb493, 0, none⟩ = some (.int .i64 t485) := (blk_cell BK493.out 0).trans rfl; have hcz140_1 : w139.cell? ⟨gb493, 1, none⟩ = some (.slice Ao137 t486.length co137) := (blk_cell BK493.out 1).trans rfl; have hcz140_2 : w139.cell? ⟨gb493, 2, none⟩ = some (.slice Ao138 t489.length co138) := (blk_cell BK493.out 2).trans rfl; have hfz140_0 := blk_frozen BK493.out 0; have hfz140_1 := blk_frozen BK493.out 1; have hfz140_2 := blk_frozen BK493.out 2) | ((with_reducible refine gate_callee (f := 72) rfl ?_); refine goesL_ (some 228) rfl rfl Try.func72 (by kernel_rfl) rfl #[.agg #[.int .i64 t485, .slice Ao137 t486.length co137, .slice Ao138 t489.length co138], .int .i64 t492] rfl zd_ ?_; (with_reducible refine (spec_LevelWires.calls kj49 t485 _ _ t486 _ _ t489 t492 t498 t501 _ ?side1 ?side2 ?side3 ?side4 A76.out).mono ?_); (case side1 => exact zhe_); (case side2 => exact zej_); (case side3 => exact zhf_); (case side4 => exact zfa_); rintro e w141 ⟨v499, rfl, ho0, hb⟩; refine ⟨_, rfl, ?_⟩; have n_ := z (Kd.R_below (zr HO488.out) hb) <| z (Kd.R_below (zr HO491.out) hb) <| z (Kd.S_elder' (zs HO496.out) (Kd.S_base ho0) hb) <| z (Kd.S_lower (Kd.S_new' (Kd.S_new' ho0 (Kd.R_lt (zr HO491.out))) (Kd.S_lt (zs HO496.out))) (below_size zbb_)) <| z (blk_below (zb BK493.out) hb) <| z1 (below_step zbb_ hb); clear HO488 HO491 HO496 BK493 HB; obtain ⟨HO488, HO491, HO496, HO500, BK493, HB⟩ := n_; clear hb; (try clear ho0); obtain ⟨Ao142, co142, eo142⟩ := Kd.S_slice HO496.out; subst eo142; obtain ⟨Ao143, co143, eo143⟩ := Kd.S_slice HO500.out; subst eo143) | (go_at_call 36; (with_reducible refine (laws_sameLists.calls kj49 _ _ t494 _ _ t498 true _ ?side1 ?side2 ?side3 ?side4 A78.out).mono ?_); (case side1 => repeat (first | exact (Kd.S_reads' HO496.out).2.2 | (with_reducible refine cA ?_ _) | (with_reducible refine cN ?_ _) | (with_reducible refine cD ?_))); (case side2 => exact (Kd.S_reads' HO496.out).2.1); (case side3 => repeat (first | exact (Kd.S_reads' HO500.out).2.2 | (with_reducible refine cA ?_ _) | (with_reducible refine cN ?_ _) | (with_reducible refine cD ?_))); (case side4 => exact (Kd.S_reads' HO500.out).2.1); rintro e w' ⟨rfl, ⟨nd, rfl⟩⟩))
            go_ret
            exact ⟨zg_, zbb_⟩
          ·replace c79 := Bool.eq_false_iff.mpr c79
           subst c79; rw [if_neg (show ¬ (false = true) by decide)] at H; exact absurd H (by simp)
      ·replace c49 := Bool.eq_false_iff.mpr c49
       subst c49; rw [if_neg (show ¬ (false = true) by decide)] at H; exact absurd H (by simp)
  ·replace c10 := Bool.eq_false_iff.mpr c10
   subst c10; rw [if_neg (show ¬ (false = true) by decide)] at H; exact absurd H (by simp)

/-- THE ONE PURE STATEMENT of laws_FnCrossings: yours. -/
def laws_FnCrossings.Pure : Prop := ∀ (l0 : List Int) (l1 : List Int), l0.length ≤ maxLen → l0.length * 1 ≤ 140737488351232 → (∀ x ∈ l0, (Lit.int .u8 x).wf = true) → l1.length ≤ maxLen → l1.length * 1 ≤ 140737488351232 → (∀ x ∈ l1, (Lit.int .u8 x).wf = true) → ∃ k, laws_FnCrossings.f k l0 l1 = some true
theorem laws_FnCrossings.walk (P : laws_FnCrossings.Pure) (a0 : Option Addr) (len0 cap0 : Nat) (z0 : List Int) (a1 : Option Addr) (len1 cap1 : Nat) (z1 : List Int) (w : World) (w0 : (a0 = none ∧ len0 = 0 ∧ cap0 = 0 ∧ z0 = []) ∨ ∃ x, a0 = some x ∧ len0 ≤ cap0 ∧ cap0 ≤ maxLen ∧ z0.length = cap0 ∧ (∀ i, i < z0.length → w.cell? (x.add i) = some (.int .u8 (z0.getD i 0))) ∧ ∀ n ∈ z0, (Lit.int .u8 n).wf = true) (y0 : len0 * 1 ≤ 140737488351232) (w1 : (a1 = none ∧ len1 = 0 ∧ cap1 = 0 ∧ z1 = []) ∨ ∃ x, a1 = some x ∧ len1 ≤ cap1 ∧ cap1 ≤ maxLen ∧ z1.length = cap1 ∧ (∀ i, i < z1.length → w.cell? (x.add i) = some (.int .u8 (z1.getD i 0))) ∧ ∀ n ∈ z1, (Lit.int .u8 n).wf = true) (y1 : len1 * 1 ≤ 140737488351232) :
  Calls Try.prog 6 #[.slice a0 len0 cap0, .slice a1 len1 cap1] w fun e w' => e = .returned (.bool true) ∧ Below w.heap.size w w' := by
 obtain ⟨l0, rfl, hr0, hm0, hw0, hc0⟩ := ReadsInt.ofRowC w0
 obtain ⟨l1, rfl, hr1, hm1, hw1, hc1⟩ := ReadsInt.ofRowC w1
 obtain ⟨k, h⟩ := P l0 l1 hm0 y0 hw0 hm1 y1 hw1
 refine (laws_FnCrossings.calls k _ _ l0 _ _ l1 true w (Kd.C_of_reads (d := (0 : Int)) (h1 := fun _ => rfl) hr0) hc0 (Kd.C_of_reads (d := (0 : Int)) (h1 := fun _ => rfl) hr1) hc1 h).mono ?_
 rintro e w' ⟨rfl, hd⟩
 exact ⟨rfl, hd⟩

end Go.Proofs.Ytbkighlfgaifeaa.QFnCrossings
