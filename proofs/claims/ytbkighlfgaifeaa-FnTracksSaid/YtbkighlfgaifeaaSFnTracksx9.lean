/- Functions of the law FnTracks, each as a Lean function, and the proofs that the Go code comes to their answers. Made by wip/gen/slim.py. Conditions: those of each theorem. -/
import Derived.Test.YtbkighlfgaifeaaSFnTracksx0
import Derived.Test.YtbkighlfgaifeaaSFnTracksx5
import Derived.Test.YtbkighlfgaifeaaSFnTracksx6
namespace Go.Proofs.Ytbkighlfgaifeaa.QFnTracks
open Go.RowKit Go.Proofs.YtbkighlfgaifeaaW.PrintWords Go.Proofs.YtbkighlfgaifeaaW.PrintLast Go.Proofs.YtbkighlfgaifeaaW.PrintMore
open Go.Proofs.YtbkighlfgaifeaaW.PrintWords renaming pw_below_drewN → pN, below_drew1 → p1, below_alloc → pA
open Go.Proofs.YtbkighlfgaifeaaW.PrintWords.Kd renaming R_alloc → kA, R_drewN → kN, R_drew → kD, Q_alloc → qA, Q_drewN → qN, Q_drew → qD, C_alloc → cA, C_drewN → cN, C_drew → cD
open Go.Proofs.YtbkighlfgaifeaaW.PrintWords.Aside0 renaming mk → aM
open List renaming setIfInBounds_toArray → sI, set_cons_zero → s0, set_cons_succ → sS, map_toArray → mT, length_take → lT, length_drop → lD, map_cons → mC, map_nil → mN
open Option renaming bind_eq_some_iff → oB, bind_some → oS
attribute [local go_sem] max2_int min2_int max_two min_two max_three min_three max_four min_four
set_option maxHeartbeats 8000000
set_option maxRecDepth 100000
set_option linter.unusedVariables false
set_option linter.unusedSimpArgs false
def impl_greatest.l0 : Nat → Int → List Int → Int → Int → Option (Int)
 | 0, _, _, _, _ => none
 | k + 1, x3, x6, x7, x8 => if x8 < x7 then (if 0 ≤ x8 then (if x8 < (x6.length : Int) then (impl_greatest.l0 k (mx x3 (rd x6 x8)) x6 x7 (wrap64 (x8 + 1))) else (none)) else (none)) else (some x3)
def impl_greatest.f (k : Nat) (l0 : List Int) : Option (Int) := impl_greatest.l0 k (-1) l0 (l0.length : Int) 0
theorem impl_greatest.calls (k : Nat) (A0 : Option Addr) (c0 : Nat) (l0 : List Int) (r : Int) (w : World) (hr0 : Kd.C (Kd.int .i64) w A0 l0.length l0) (hc0 : l0.length ≤ c0) (h : impl_greatest.f k l0 = some r) :
  Calls Try.prog 105 #[.slice A0 l0.length c0] w fun e w' => e = .returned (.int .i64 r) ∧ Below w.heap.size w w' := by
 have HR0 := aM hr0
 have HC0 := aM hc0
 clear hr0 hc0
 have HB := aM (Below.refl w.heap.size w)
 have H : (impl_greatest.l0 k (-1) l0 (l0.length : Int) 0) = some r := h
 clear h
 have H' := aM H
 clear H
 go_enter Try.func105, Try.ntmps105
 go_wp2
 go_loopg [3, 8] k (fun kq v3 v8 w' => ∃ (x3_1 : Int) (x8_1 : Int), v3 = .int .i64 x3_1 ∧ v8 = .int .i64 x8_1 ∧ Aside0 (impl_greatest.l0 kq x3_1 l0 (l0.length : Int) x8_1 = some r) ∧ Aside0 (kq ≤ k) ∧ Aside0 (Below w.heap.size w w'))
 case atStart => exact ⟨((-1)), (0), zc_, zc_, H', ⟨Nat.le_refl _⟩, ⟨za_⟩⟩
 case round =>
  clear H'
  try clear c1
  obtain ⟨x3_1, x8_1, rfl, rfl, HA, HK1, HB⟩ := hrel
  cases gk with
  | zero => exact absurd HA.out (by simp [impl_greatest.l0])
  | succ k1 =>
   have H := HA.out
   clear HA
   simp only [impl_greatest.l0] at H
   by_cases c2 : x8_1 < (l0.length : Int)
   ·rw [if_pos c2] at H
    have c2b0 : decide (x8_1 < (l0.length : Int)) = true := decide_eq_true c2
    clear c2
    by_cases c3 : 0 ≤ x8_1
    ·rw [if_pos c3] at H
     have c3b0 : decide (0 ≤ x8_1) = true := decide_eq_true c3
     clear c3
     by_cases c4 : x8_1 < (l0.length : Int)
     ·rw [if_pos c4] at H
      have c4b0 : decide (x8_1 < (l0.length : Int)) = true := decide_eq_true c4
      clear c4
      obtain ⟨ji5, hji5⟩ : ∃ j_ : Int, (mx x3_1 (rd l0 x8_1)) = j_ := ⟨_, rfl⟩
      replace H : (impl_greatest.l0 k1 ji5 l0 (l0.length : Int) (wrap64 (x8_1 + 1))) = some r := by first | (rw [hji5] at H; exact H) | (simp only [hji5] at H ⊢; exact H)
      have hji5_ : (if x3_1 < (rd l0 x8_1) then (rd l0 x8_1) else x3_1) = ji5 := hji5
      have H' := aM H
      clear H
      have p226 : 0 ≤ (x8_1 : Int) := of_decide_eq_true zb_
      have q226 : x8_1 < (l0.length : Int) := of_decide_eq_true zb_
      obtain ⟨ad226, e226, hx226_0⟩ := Kd.at_int HR0.out x8_1 p226 q226
      cases e226
      (try (replace hx226_0 := (HB.out.cell (World.block_lt_of_cell? w _ hx226_0)).trans hx226_0))
      replace p226 := eq_true p226
      replace q226 := eq_true q226
      go_wp2
      go_roundg k1
      case measure => have := HK1.out; omega
      case rel => exact ⟨(ji5), (wrap64 (x8_1 + 1)), (by first | rfl | (simp; done) | (simp only [← hji5] <;> (first | rfl | simp)) | (simp [*]; done)), zc_, H', ⟨zcc_⟩, ⟨za_⟩⟩
     ·rw [if_neg c4] at H
      exact absurd H (by simp)
    ·rw [if_neg c3] at H
     exact absurd H (by simp)
   ·rw [if_neg c2] at H
    have c2b0 : decide (x8_1 < (l0.length : Int)) = false := decide_eq_false c2
    clear c2
    obtain rfl := Option.some.inj H
    go_wp2
    go_ret
    exact ⟨zg_, za_⟩
mutual
def impl_RoutingText.j0 : Nat → List (S32) → List Int → Bool → Option (ByteArray × Bool)
 | 0, _, _, _ => none
 | k + 1, x0, x1, x35 => if x35 = true then (some ((⟨#[]⟩ : ByteArray), false)) else (impl_RoutingText.l0 k x0 x1 (-1) x0 (x0.length : Int) 0)
def impl_RoutingText.l0 : Nat → List (S32) → List Int → Int → List (S32) → Int → Int → Option (ByteArray × Bool)
 | 0, _, _, _, _, _, _ => none
 | k + 1, x0, x1, x6, x36, x37, x38 => if x38 < x37 then (if 0 ≤ x38 then (if x38 < (x36.length : Int) then (impl_RoutingText.l0 k x0 x1 (mx x6 ((rd_T32 x36 x38).f1)) x36 x37 (wrap64 (x38 + 1))) else (none)) else (none)) else (impl_RoutingText.l1 k x0 x1 x6 (([] : List Int)) 0)
def impl_RoutingText.l1 : Nat → List (S32) → List Int → Int → List Int → Int → Option (ByteArray × Bool)
 | 0, _, _, _, _, _ => none
 | k + 1, x0, x1, x6, x9, x10 => (impl_greatest.f k x1).bind fun t235 => (if x10 ≤ t235 then (impl_RoutingText.l2 k x0 x1 x6 x9 x10 0) else (some (strOfNums x9, true)))
def impl_RoutingText.l2 : Nat → List (S32) → List Int → Int → List Int → Int → Int → Option (ByteArray × Bool)
 | 0, _, _, _, _, _, _ => none
 | k + 1, x0, x1, x6, x9, x10, x11 => if x11 ≤ x6 then (impl_RoutingText.l3 k x0 x1 x6 x9 x10 x11 46 x0 (x0.length : Int) 0) else (if x9.length < 140737488355328 then (impl_RoutingText.l1 k x0 x1 x6 (x9 ++ [10]) (wrap64 (x10 + 1))) else (none))
def impl_RoutingText.l3 : Nat → List (S32) → List Int → Int → List Int → Int → Int → Int → List (S32) → Int → Int → Option (ByteArray × Bool)
 | 0, _, _, _, _, _, _, _, _, _, _ => none
 | k + 1, x0, x1, x6, x9, x10, x11, x12, x59, x60, x61 => if x61 < x60 then (if 0 ≤ x61 then (if x61 < (x59.length : Int) then (if x61 < (x1.length : Int) then (if (rd x1 x61) = x10 then (if ((rd_T32 x59 x61).f0) ≤ x11 then (if x11 ≤ ((rd_T32 x59 x61).f1) then (impl_RoutingText.l3 k x0 x1 x6 x9 x10 x11 ((wrap64 (97 + x61)) % 256) x59 x60 (wrap64 (x61 + 1))) else (impl_RoutingText.l3 k x0 x1 x6 x9 x10 x11 x12 x59 x60 (wrap64 (x61 + 1)))) else (impl_RoutingText.l3 k x0 x1 x6 x9 x10 x11 x12 x59 x60 (wrap64 (x61 + 1)))) else (impl_RoutingText.l3 k x0 x1 x6 x9 x10 x11 x12 x59 x60 (wrap64 (x61 + 1)))) else (none)) else (none)) else (none)) else (if x9.length < 140737488355328 then (impl_RoutingText.l2 k x0 x1 x6 (x9 ++ [x12]) x10 (wrap64 (x11 + 1))) else (none))
end
def impl_RoutingText.f (k : Nat) (l0 : List (S32)) (l1 : List Int) : Option (ByteArray × Bool) := (impl_AreChannelWires.f k l0).bind fun t227 => (if t227 = true then ((impl_areTracks.f k l1).bind fun t228 => (if t228 = true then (if (l1.length : Int) = (l0.length : Int) then ((impl_isRouting.f k l0 l1).bind fun t229 => (impl_RoutingText.j0 k l0 l1 (!t229))) else (impl_RoutingText.j0 k l0 l1 true)) else (impl_RoutingText.j0 k l0 l1 true))) else (impl_RoutingText.j0 k l0 l1 true))
theorem impl_RoutingText.calls (k : Nat) (A0 : Option Addr) (c0 : Nat) (l0 : List (S32)) (A1 : Option Addr) (c1 : Nat) (l1 : List Int) (r1 : ByteArray) (r2 : Bool) (w : World) (hr0 : Kd.C k32 w A0 l0.length l0) (hc0 : l0.length ≤ c0) (hr1 : Kd.C (Kd.int .i64) w A1 l1.length l1) (hc1 : l1.length ≤ c1) (h : impl_RoutingText.f k l0 l1 = some (r1, r2)) :
  Calls Try.prog 12 #[.slice A0 l0.length c0, .slice A1 l1.length c1] w fun e w' => e = .returned (.tuple #[.string r1, .bool r2]) ∧ Below w.heap.size w w' := by
 have hu32 := Try.underlying32
 have HR0 := aM hr0
 have HC0 := aM hc0
 clear hr0 hc0
 have HR1 := aM hr1
 have HC1 := aM hc1
 clear hr1 hc1
 have HB := aM (Below.refl w.heap.size w)
 have H : ((impl_AreChannelWires.f k l0).bind fun t227 => (if t227 = true then ((impl_areTracks.f k l1).bind fun t228 => (if t228 = true then (if (l1.length : Int) = (l0.length : Int) then ((impl_isRouting.f k l0 l1).bind fun t229 => (impl_RoutingText.j0 k l0 l1 (!t229))) else (impl_RoutingText.j0 k l0 l1 true)) else (impl_RoutingText.j0 k l0 l1 true))) else (impl_RoutingText.j0 k l0 l1 true))) = some (r1, r2) := h
 clear h
 have HC3 := aM H
 clear H
 go_enter Try.func12, Try.ntmps12
 go_upto_region 1 with (fail)
 go_cut [35] (fun v35 wc => ∃ (kq : Nat) (x35_2 : Bool), v35 = .bool x35_2 ∧ Aside0 (impl_RoutingText.j0 kq l0 l1 x35_2 = some (r1, r2)) ∧ Aside0 (kq ≤ k) ∧ Aside0 (Below w.heap.size w wc))
 case first =>
  have H := HC3.out
  clear HC3
  replace H := oB.mp H
  obtain ⟨t227, A40, H⟩ := H
  replace H : (if t227 = true then ((impl_areTracks.f k l1).bind fun t228 => (if t228 = true then (if (l1.length : Int) = (l0.length : Int) then ((impl_isRouting.f k l0 l1).bind fun t229 => (impl_RoutingText.j0 k l0 l1 (!t229))) else (impl_RoutingText.j0 k l0 l1 true)) else (impl_RoutingText.j0 k l0 l1 true))) else (impl_RoutingText.j0 k l0 l1 true)) = some (r1, r2) := H
  have A4 := aM A40
  clear A40
  by_cases c5 : t227 = true
  ·subst c5
   have H1 : ((impl_areTracks.f k l1).bind fun t228 => (if t228 = true then (if (l1.length : Int) = (l0.length : Int) then ((impl_isRouting.f k l0 l1).bind fun t229 => (impl_RoutingText.j0 k l0 l1 (!t229))) else (impl_RoutingText.j0 k l0 l1 true)) else (impl_RoutingText.j0 k l0 l1 true))) = some (r1, r2) := by rw [if_pos rfl] at H; exact H
   clear H
   have H := H1
   clear H1
   replace H := oB.mp H
   obtain ⟨t228, A60, H⟩ := H
   replace H : (if t228 = true then (if (l1.length : Int) = (l0.length : Int) then ((impl_isRouting.f k l0 l1).bind fun t229 => (impl_RoutingText.j0 k l0 l1 (!t229))) else (impl_RoutingText.j0 k l0 l1 true)) else (impl_RoutingText.j0 k l0 l1 true)) = some (r1, r2) := H
   have A6 := aM A60
   clear A60
   by_cases c7 : t228 = true
   ·subst c7
    have H1 : (if (l1.length : Int) = (l0.length : Int) then ((impl_isRouting.f k l0 l1).bind fun t229 => (impl_RoutingText.j0 k l0 l1 (!t229))) else (impl_RoutingText.j0 k l0 l1 true)) = some (r1, r2) := by rw [if_pos rfl] at H; exact H
    clear H
    have H := H1
    clear H1
    by_cases c8 : (l1.length : Int) = (l0.length : Int)
    ·rw [if_pos c8] at H
     have c8b0 : ((l1.length : Int) == (l0.length : Int)) = true := beq_iff_eq.mpr c8
     have c8b1 : ((l1.length : Int) != (l0.length : Int)) = false := bne_eq_false_iff_eq.mpr c8
     have c8b2 : (l1.length == l0.length) = true := by first | simpa using c8 | (simp at c8 ⊢; omega)
     clear c8
     (first | rw [c8b0] | (simp only [i64_w, i32_w]; rw [c8b0]) | skip)
     replace H := oB.mp H
     obtain ⟨t229, A90, H⟩ := H
     replace H : (impl_RoutingText.j0 k l0 l1 (!t229)) = some (r1, r2) := H
     have A9 := aM A90
     clear A90
     have H' := aM H
     clear H
     go_wp2_with (first | ((with_reducible refine gate_callee (f := 87) rfl ?_); refine goesL_ (some 16) rfl rfl Try.func87 (by kernel_rfl) rfl #[.slice A0 l0.length c0] rfl zd_ ?_; (with_reducible refine (impl_AreChannelWires.calls k _ _ l0 true _ ?side1 ?side2 A4.out).mono ?_); (case side1 => exact zbe_); (case side2 => exact HC0.out); rintro e w10 ⟨rfl, hb⟩; refine ⟨_, rfl, ?_⟩; have n0_ := aM (below_step za_ hb); clear HB; have HB := n0_; clear n0_; (try clear hb)) | (go_at_call 101; (with_reducible refine (impl_areTracks.calls k _ _ l1 true _ ?side1 ?side2 A6.out).mono ?_); (case side1 => exact zbb_); (case side2 => exact HC1.out); rintro e w' ⟨rfl, ⟨nd, rfl⟩⟩) | (go_at_call 102; (with_reducible refine (impl_isRouting.calls k _ _ l0 _ _ l1 t229 _ ?side1 ?side2 ?side3 ?side4 A9.out).mono ?_); (case side1 => repeat (first | exact (Kd.C_below HR0.out za_) | (with_reducible refine cA ?_ _) | (with_reducible refine cN ?_ _) | (with_reducible refine cD ?_))); (case side2 => exact HC0.out); (case side3 => repeat (first | exact (Kd.C_below HR1.out za_) | (with_reducible refine cA ?_ _) | (with_reducible refine cN ?_ _) | (with_reducible refine cD ?_))); (case side4 => exact HC1.out); rintro e w11 ⟨rfl, hb⟩; have n0_ := aM (below_step za_ hb); clear HB; have HB := n0_; clear n0_; (try clear hb)))
     go_meet
     case rel => exact ⟨_, (!t229), zc_, H', ⟨zbg_⟩, ⟨za_⟩⟩
    ·rw [if_neg c8] at H
     have c8b0 : ((l1.length : Int) == (l0.length : Int)) = false := beq_eq_false_iff_ne.mpr c8
     have c8b1 : ((l1.length : Int) != (l0.length : Int)) = true := bne_iff_ne.mpr c8
     have c8b2 : (l1.length == l0.length) = false := by first | simpa using c8 | (simp at c8 ⊢; omega)
     (first | rw [c8b0] | (simp only [i64_w, i32_w]; rw [c8b0]) | skip)
     have H' := aM H
     clear H
     go_wp2_with (first | ((with_reducible refine gate_callee (f := 87) rfl ?_); refine goesL_ (some 16) rfl rfl Try.func87 (by kernel_rfl) rfl #[.slice A0 l0.length c0] rfl zd_ ?_; (with_reducible refine (impl_AreChannelWires.calls k _ _ l0 true _ ?side1 ?side2 A4.out).mono ?_); (case side1 => exact zbe_); (case side2 => exact HC0.out); rintro e w12 ⟨rfl, hb⟩; refine ⟨_, rfl, ?_⟩; have n0_ := aM (below_step za_ hb); clear HB; have HB := n0_; clear n0_; (try clear hb)) | (go_at_call 101; (with_reducible refine (impl_areTracks.calls k _ _ l1 true _ ?side1 ?side2 A6.out).mono ?_); (case side1 => exact zbb_); (case side2 => exact HC1.out); rintro e w' ⟨rfl, ⟨nd, rfl⟩⟩))
     go_meet
     case rel => exact ⟨_, (true), zc_, H', ⟨zbg_⟩, ⟨za_⟩⟩
   ·replace c7 := Bool.eq_false_iff.mpr c7
    subst c7
    have H1 : (impl_RoutingText.j0 k l0 l1 true) = some (r1, r2) := by rw [if_neg (show ¬ (false = true) by decide)] at H; exact H
    clear H
    have H := H1
    clear H1
    have H' := aM H
    clear H
    go_wp2_with (first | ((with_reducible refine gate_callee (f := 87) rfl ?_); refine goesL_ (some 16) rfl rfl Try.func87 (by kernel_rfl) rfl #[.slice A0 l0.length c0] rfl zd_ ?_; (with_reducible refine (impl_AreChannelWires.calls k _ _ l0 true _ ?side1 ?side2 A4.out).mono ?_); (case side1 => exact zbe_); (case side2 => exact HC0.out); rintro e w13 ⟨rfl, hb⟩; refine ⟨_, rfl, ?_⟩; have n0_ := aM (below_step za_ hb); clear HB; have HB := n0_; clear n0_; (try clear hb)) | (go_at_call 101; (with_reducible refine (impl_areTracks.calls k _ _ l1 false _ ?side1 ?side2 A6.out).mono ?_); (case side1 => exact zbb_); (case side2 => exact HC1.out); rintro e w' ⟨rfl, ⟨nd, rfl⟩⟩))
    go_meet
    case rel => exact ⟨_, (true), zc_, H', ⟨zbg_⟩, ⟨za_⟩⟩
  ·replace c5 := Bool.eq_false_iff.mpr c5
   subst c5
   have H1 : (impl_RoutingText.j0 k l0 l1 true) = some (r1, r2) := by rw [if_neg (show ¬ (false = true) by decide)] at H; exact H
   clear H
   have H := H1
   clear H1
   have H' := aM H
   clear H
   go_wp2_with (first | ((with_reducible refine gate_callee (f := 87) rfl ?_); refine goesL_ (some 16) rfl rfl Try.func87 (by kernel_rfl) rfl #[.slice A0 l0.length c0] rfl zd_ ?_; (with_reducible refine (impl_AreChannelWires.calls k _ _ l0 false _ ?side1 ?side2 A4.out).mono ?_); (case side1 => exact zbe_); (case side2 => exact HC0.out); rintro e w14 ⟨rfl, hb⟩; refine ⟨_, rfl, ?_⟩; have n0_ := aM (below_step za_ hb); clear HB; have HB := n0_; clear n0_; (try clear hb)))
   go_meet
   case rel => exact ⟨_, (true), zc_, H', ⟨zbg_⟩, ⟨za_⟩⟩
 case rest =>
  clear HC3
  try clear c1
  try clear p2
  try clear c5
  try clear c7
  try clear c8
  try clear c8b0
  try clear c8b1
  try clear c8b2
  try clear c12
  obtain ⟨kq, x35_2, rfl, HA, HJ2, HB⟩ := hcut
  cases kq with
  | zero => exact absurd HA.out (by simp [impl_RoutingText.j0])
  | succ kj2 =>
   have H := HA.out
   clear HA
   simp only [impl_RoutingText.j0] at H
   by_cases c15 : x35_2 = true
   ·subst c15
    have H1 : (some ((⟨#[]⟩ : ByteArray), false)) = some (r1, r2) := by rw [if_pos rfl] at H; exact H
    clear H
    have H := H1
    clear H1
    simp only [Option.some.injEq, Prod.mk.injEq] at H
    obtain ⟨rfl, rfl⟩ := H
    go_wp2
    go_ret2
    exact ⟨zg_, za_⟩
   ·replace c15 := Bool.eq_false_iff.mpr c15
    subst c15
    have H1 : (impl_RoutingText.l0 kj2 l0 l1 (-1) l0 (l0.length : Int) 0) = some (r1, r2) := by rw [if_neg (show ¬ (false = true) by decide)] at H; exact H
    clear H
    have H := H1
    clear H1
    have H' := aM H
    clear H
    go_wp2
    go_loopg [6, 38] kj2 (fun kq v6 v38 w' => ∃ (x6_2 : Int) (x38_2 : Int), v6 = .int .i64 x6_2 ∧ v38 = .int .i64 x38_2 ∧ Aside0 (impl_RoutingText.l0 kq l0 l1 x6_2 l0 (l0.length : Int) x38_2 = some (r1, r2)) ∧ Aside0 (kq ≤ kj2) ∧ Aside0 (Below w.heap.size w w'))
    case atStart => exact ⟨((-1)), (0), zc_, zc_, H', ⟨Nat.le_refl _⟩, ⟨za_⟩⟩
    case round =>
     clear H'
     try clear c1
     try clear p2
     try clear c5
     try clear c7
     try clear c8
     try clear c8b0
     try clear c8b1
     try clear c8b2
     try clear c12
     try clear c15
     try clear p2
     obtain ⟨x6_2, x38_2, rfl, rfl, HA, HK2, HB⟩ := hrel
     cases gk with
     | zero => exact absurd HA.out (by simp [impl_RoutingText.l0])
     | succ k2 =>
      have H := HA.out
      clear HA
      simp only [impl_RoutingText.l0] at H
      by_cases c16 : x38_2 < (l0.length : Int)
      ·rw [if_pos c16] at H
       have c16b0 : decide (x38_2 < (l0.length : Int)) = true := decide_eq_true c16
       clear c16
       by_cases c17 : 0 ≤ x38_2
       ·rw [if_pos c17] at H
        have c17b0 : decide (0 ≤ x38_2) = true := decide_eq_true c17
        clear c17
        by_cases c18 : x38_2 < (l0.length : Int)
        ·rw [if_pos c18] at H
         have c18b0 : decide (x38_2 < (l0.length : Int)) = true := decide_eq_true c18
         clear c18
         obtain ⟨ji19, hji19⟩ : ∃ j_ : Int, (mx x6_2 ((rd_T32 l0 x38_2).f1)) = j_ := ⟨_, rfl⟩
         replace H : (impl_RoutingText.l0 k2 l0 l1 ji19 l0 (l0.length : Int) (wrap64 (x38_2 + 1))) = some (r1, r2) := by first | (rw [hji19] at H; exact H) | (simp only [hji19] at H ⊢; exact H)
         have hji19_ : (if x6_2 < ((rd_T32 l0 x38_2).f1) then ((rd_T32 l0 x38_2).f1) else x6_2) = ji19 := hji19
         have H' := aM H
         clear H
         have p230 : 0 ≤ (x38_2 : Int) := of_decide_eq_true zb_
         have q230 : x38_2 < (l0.length : Int) := of_decide_eq_true zb_
         obtain ⟨ad230, e230, hx230_0, hx230_1⟩ := at_T32 HR0.out x38_2 p230 q230
         cases e230
         (try (replace hx230_0 := (HB.out.cell (World.block_lt_of_cell? w _ hx230_0)).trans hx230_0))
         (try (replace hx230_1 := (HB.out.cell (World.block_lt_of_cell? w _ hx230_1)).trans hx230_1))
         replace p230 := eq_true p230
         replace q230 := eq_true q230
         go_wp2_with (first | ((with_reducible refine gate_dst (N := 8) rfl ?_); (try (refine gate_guard (by rfl) ?_; dsimp only)); refine box_event ?hg (N := 8) ?hd (cs := #[.int .i64 0, .int .i64 0]) (t := 32) ?hr ?_; (case hd => rfl); (case hg => rfl); (case hr => exact zf_); intro gb231 hg w20 hbox hb; have n_ := z (below_step za_ hb) <| z (hbox) <| z ((by rw [hg]; exact (below_size za_) : w.heap.size ≤ gb231)) <| z1 ((by rw [hg]; exact (below_size za_) : w.heap.size ≤ gb231)); clear HB; obtain ⟨HB, BK231, GW231, GE231⟩ := n_; clear hb hbox hg; have hcz21_0 : w20.cell? ⟨gb231, 0, none⟩ = some (.int .i64 0) := (blk_cell BK231.out 0).trans rfl; have hcz21_1 : w20.cell? ⟨gb231, 1, none⟩ = some (.int .i64 0) := (blk_cell BK231.out 1).trans rfl; have hfz21_0 := blk_frozen BK231.out 0; have hfz21_1 := blk_frozen BK231.out 1))
         go_roundg k2
         case measure => have := HJ2.out; have := HK2.out; omega
         case rel => exact ⟨(ji19), (wrap64 (x38_2 + 1)), (by first | rfl | (simp; done) | (simp only [← hji19] <;> (first | rfl | simp)) | (simp [*]; done)), zc_, H', ⟨by have := HJ2.out; have := HK2.out; omega⟩, ⟨by repeat (first | (with_reducible first | exact HB.out | apply pA | apply pN | apply p1 | refine below_set ?_ GE231.out) | exact HB.out)⟩⟩
        ·rw [if_neg c18] at H
         exact absurd H (by simp)
       ·rw [if_neg c17] at H
        exact absurd H (by simp)
      ·rw [if_neg c16] at H
       have c16b0 : decide (x38_2 < (l0.length : Int)) = false := decide_eq_false c16
       clear c16
       obtain ⟨y232, hy232⟩ : ∃ y_ : List Int, y_ = (([] : List Int)) := ⟨_, rfl⟩
       replace H : (impl_RoutingText.l1 k2 l0 l1 x6_2 y232 0) = some (r1, r2) := by first | (rw [hy232]; with_reducible exact H) | (have H2_ := (oS _ _).symm.trans H; rw [hy232]; with_reducible exact H2_) | (have H2_ := (oS _ _).symm.trans H; with_reducible exact H2_) | with_reducible exact H | (rw [hy232]; exact H) | exact H
       have Ny232 := aM hy232
       clear hy232
       have H' := aM H
       clear H
       go_wp2_with (first | ((with_reducible refine gate_dst (N := 47) rfl ?_); (try (refine gate_guard (by rfl) ?_; dsimp only)); refine Kd.R_lit (Kd.int .u8) _ 5 ?hg (N := 47) ?hd (xs := ([] : List Int)) (inner := []) (ok := fun _ => True) (okp := fun _ => True) ?hr ?hp (fun _ hk => hk) trivial (Below.refl _ _) (Nat.le_refl _) (by simp) ?_; (case hd => rfl); (case hg => rfl); (case hr => exact zf_); (case hp => exact (Reps.none _ _)); intro v233 w22 ho23 hb hg_ hnew_; clear hg_ hnew_; (first | rw [← Ny232.out] at ho23 | (simp only [Int.reduceToNat] at ho23; rw [← Ny232.out] at ho23)); have n_ := z (Kd.R_lower ho23 (below_size za_)) <| z1 (below_step za_ hb); clear HB; obtain ⟨HO234, HB⟩ := n_; clear hb ho23))
       go_loopg [9, 10] k2 (fun kq v9 v10 w' => ∃ (x9_3 : List Int) (x10_3 : Int), v10 = .int .i64 x10_3 ∧ Aside0 (impl_RoutingText.l1 kq l0 l1 x6_2 x9_3 x10_3 = some (r1, r2)) ∧ Aside0 (kq ≤ k2) ∧ Aside0 (Kd.R (Kd.int .u8) 5 w' w.heap.size (fun _ => True) v9 x9_3) ∧ Aside0 (Below w.heap.size w w'))
       case atStart => exact ⟨(y232), (0), zc_, H', ⟨Nat.le_refl _⟩, ⟨zr HO234.out⟩, ⟨za_⟩⟩
       case round =>
        clear H'
        try clear c1
        try clear p2
        try clear q2
        try clear hx2
        try clear c5
        try clear p6
        try clear c7
        try clear c8
        try clear c8b0
        try clear c8b1
        try clear c8b2
        try clear c12
        try clear c15
        try clear c16
        try clear c16b0
        try clear c17
        try clear c17b0
        try clear c18
        try clear c18b0
        try clear p23
        try clear q23
        try clear hx23
        try clear hcz21_0
        try clear hcz21_1
        try clear hfz21_0
        try clear hfz21_1
        try clear hx230_0
        try clear hx230_1
        try clear p2
        try clear p230
        try clear q230
        obtain ⟨x9_3, x10_3, rfl, HA, HK3, HO_9, HB⟩ := hrel
        cases gk with
        | zero => exact absurd HA.out (by simp [impl_RoutingText.l1])
        | succ k3 =>
         have H := HA.out
         clear HA
         simp only [impl_RoutingText.l1] at H
         replace H := oB.mp H
         obtain ⟨t235, A240, H⟩ := H
         replace H : (if x10_3 ≤ t235 then (impl_RoutingText.l2 k3 l0 l1 x6_2 x9_3 x10_3 0) else (some (strOfNums x9_3, true))) = some (r1, r2) := H
         have A24 := aM A240
         clear A240
         by_cases c25 : x10_3 ≤ t235
         ·rw [if_pos c25] at H
          have c25b0 : decide (x10_3 ≤ t235) = true := decide_eq_true c25
          clear c25
          have H' := aM H
          clear H
          go_wp2_with (first | ((with_reducible refine gate_callee (f := 105) rfl ?_); refine goesL_ (some 50) rfl rfl Try.func105 (by kernel_rfl) rfl #[.slice A1 l1.length c1] rfl zd_ ?_; (with_reducible refine (impl_greatest.calls k3 _ _ l1 t235 _ ?side1 ?side2 A24.out).mono ?_); (case side1 => exact zbb_); (case side2 => exact HC1.out); rintro e w26 ⟨rfl, hb⟩; refine ⟨_, rfl, ?_⟩; have n_ := z (Kd.R_below (zr HO_9.out) hb) <| z1 (below_step za_ hb); clear HO_9 HB; obtain ⟨HO_9, HB⟩ := n_; (try clear hb)))
          go_loopg [9, 11] k3 (fun kq v9 v11 w' => ∃ (x9_4 : List Int) (x11_4 : Int), v11 = .int .i64 x11_4 ∧ Aside0 (impl_RoutingText.l2 kq l0 l1 x6_2 x9_4 x10_3 x11_4 = some (r1, r2)) ∧ Aside0 (kq ≤ k3) ∧ Aside0 (Kd.R (Kd.int .u8) 5 w' w.heap.size (fun _ => True) v9 x9_4) ∧ Aside0 (Below w.heap.size w w'))
          case atStart => exact ⟨(x9_3), (0), zc_, H', ⟨Nat.le_refl _⟩, ⟨zr HO_9.out⟩, ⟨za_⟩⟩
          case round =>
           clear H'
           try clear c1
           try clear c2
           try clear p2
           try clear q2
           try clear hx2
           try clear c5
           try clear p6
           try clear c7
           try clear c8
           try clear c8b0
           try clear c8b1
           try clear c8b2
           try clear c10
           try clear c12
           try clear c15
           try clear c16
           try clear c16b0
           try clear c17
           try clear c17b0
           try clear c18
           try clear c18b0
           try clear p23
           try clear q23
           try clear hx23
           try clear c25
           try clear c25b0
           try clear hcz21_0
           try clear hcz21_1
           try clear hfz21_0
           try clear hfz21_1
           try clear hx230_0
           try clear hx230_1
           try clear p2
           try clear p23
           try clear p230
           try clear p6
           try clear q2
           try clear q23
           try clear q230
           obtain ⟨x9_4, x11_4, rfl, HA, HK4, HO_9, HB⟩ := hrel
           cases gk with
           | zero => exact absurd HA.out (by simp [impl_RoutingText.l2])
           | succ k4 =>
            have H := HA.out
            clear HA
            simp only [impl_RoutingText.l2] at H
            by_cases c27 : x11_4 ≤ x6_2
            ·rw [if_pos c27] at H
             have c27b0 : decide (x11_4 ≤ x6_2) = true := decide_eq_true c27
             clear c27
             have H' := aM H
             clear H
             go_wp2
             go_loopg [12, 61] k4 (fun kq v12 v61 w' => ∃ (x12_5 : Int) (x61_5 : Int), v12 = .int .u8 x12_5 ∧ v61 = .int .i64 x61_5 ∧ Aside0 (impl_RoutingText.l3 kq l0 l1 x6_2 x9_4 x10_3 x11_4 x12_5 l0 (l0.length : Int) x61_5 = some (r1, r2)) ∧ Aside0 (kq ≤ k4) ∧ Aside0 (Kd.R (Kd.int .u8) 5 w' w.heap.size (fun _ => True) u9 x9_4) ∧ Aside0 (Below w.heap.size w w'))
             case atStart => exact ⟨(46), (0), zc_, zc_, H', ⟨Nat.le_refl _⟩, ⟨zr HO_9.out⟩, ⟨za_⟩⟩
             case round =>
              clear H'
              try clear c1
              try clear c2
              try clear p2
              try clear q2
              try clear hx2
              try clear c5
              try clear p6
              try clear c7
              try clear c8
              try clear c8b0
              try clear c8b1
              try clear c8b2
              try clear c10
              try clear c12
              try clear c15
              try clear c16
              try clear c16b0
              try clear c17
              try clear c17b0
              try clear c18
              try clear c18b0
              try clear p23
              try clear q23
              try clear hx23
              try clear c25
              try clear c25b0
              try clear c27
              try clear c27b0
              try clear hcz21_0
              try clear hcz21_1
              try clear hfz21_0
              try clear hfz21_1
              try clear hx230_0
              try clear hx230_1
              try clear p2
              try clear p23
              try clear p230
              try clear p6
              try clear q2
              try clear q23
              try clear q230
              obtain ⟨x12_5, x61_5, rfl, rfl, HA, HK5, HO_9, HB⟩ := hrel
              cases gk with
              | zero => exact absurd HA.out (by simp [impl_RoutingText.l3])
              | succ k5 =>
               have H := HA.out
               clear HA
               simp only [impl_RoutingText.l3] at H
               by_cases c28 : x61_5 < (l0.length : Int)
               ·rw [if_pos c28] at H
                have c28b0 : decide (x61_5 < (l0.length : Int)) = true := decide_eq_true c28
                clear c28
                by_cases c29 : 0 ≤ x61_5
                ·rw [if_pos c29] at H
                 have c29b0 : decide (0 ≤ x61_5) = true := decide_eq_true c29
                 clear c29
                 by_cases c30 : x61_5 < (l0.length : Int)
                 ·rw [if_pos c30] at H
                  have c30b0 : decide (x61_5 < (l0.length : Int)) = true := decide_eq_true c30
                  clear c30
                  by_cases c31 : x61_5 < (l1.length : Int)
                  ·rw [if_pos c31] at H
                   have c31b0 : decide (x61_5 < (l1.length : Int)) = true := decide_eq_true c31
                   clear c31
                   by_cases c32 : (rd l1 x61_5) = x10_3
                   ·rw [if_pos c32] at H
                    have c32b0 : ((rd l1 x61_5) == x10_3) = true := beq_iff_eq.mpr c32
                    have c32b1 : ((rd l1 x61_5) != x10_3) = false := bne_eq_false_iff_eq.mpr c32
                    clear c32
                    by_cases c33 : ((rd_T32 l0 x61_5).f0) ≤ x11_4
                    ·rw [if_pos c33] at H
                     have c33b0 : decide (((rd_T32 l0 x61_5).f0) ≤ x11_4) = true := decide_eq_true c33
                     clear c33
                     by_cases c34 : x11_4 ≤ ((rd_T32 l0 x61_5).f1)
                     ·rw [if_pos c34] at H
                      have c34b0 : decide (x11_4 ≤ ((rd_T32 l0 x61_5).f1)) = true := decide_eq_true c34
                      clear c34
                      have H' := aM H
                      clear H
                      have p239 : 0 ≤ (x61_5 : Int) := of_decide_eq_true zb_
                      have q239 : x61_5 < (l0.length : Int) := of_decide_eq_true zb_
                      obtain ⟨ad239, e239, hx239_0, hx239_1⟩ := at_T32 HR0.out x61_5 p239 q239
                      cases e239
                      (try (replace hx239_0 := (HB.out.cell (World.block_lt_of_cell? w _ hx239_0)).trans hx239_0))
                      (try (replace hx239_1 := (HB.out.cell (World.block_lt_of_cell? w _ hx239_1)).trans hx239_1))
                      replace p239 := eq_true p239
                      replace q239 := eq_true q239
                      go_wp2_with (first | ((with_reducible refine gate_dst (N := 14) rfl ?_); (try (refine gate_guard (by rfl) ?_; dsimp only)); refine box_event ?hg (N := 14) ?hd (cs := #[.int .i64 0, .int .i64 0]) (t := 32) ?hr ?_; (case hd => rfl); (case hg => rfl); (case hr => exact zf_); intro gb240 hg w35 hbox hb; have n_ := z (Kd.R_below (zr HO_9.out) hb) <| z (below_step za_ hb) <| z (hbox) <| z ((by rw [hg]; exact (below_size za_) : w.heap.size ≤ gb240)) <| z1 ((by rw [hg]; exact (below_size za_) : w.heap.size ≤ gb240)); clear HO_9 HB; obtain ⟨HO_9, HB, BK240, GW240, GE240⟩ := n_; clear hb hbox hg; have hcz36_0 : w35.cell? ⟨gb240, 0, none⟩ = some (.int .i64 0) := (blk_cell BK240.out 0).trans rfl; have hcz36_1 : w35.cell? ⟨gb240, 1, none⟩ = some (.int .i64 0) := (blk_cell BK240.out 1).trans rfl; have hfz36_0 := blk_frozen BK240.out 0; have hfz36_1 := blk_frozen BK240.out 1; have p241 : 0 ≤ (x61_5 : Int) := of_decide_eq_true zb_; have q241 : x61_5 < (l1.length : Int) := of_decide_eq_true zb_; obtain ⟨ad241, e241, hx241_0⟩ := Kd.at_int HR1.out x61_5 p241 q241; cases e241; have hn241_0 : ad241.block ≠ gb240 := Nat.ne_of_lt (Nat.lt_of_lt_of_le zdb_ GW240.out); have hn241_1 : ad241.block ≠ gb240 := Nat.ne_of_lt (Nat.lt_of_lt_of_le zdb_ GW240.out); replace hx241_0 := (HB.out.cell (World.block_lt_of_cell? w _ hx241_0)).trans hx241_0; replace hx241_0 := (cell_far (p := ⟨gb240, 0, none⟩) zfd_ (.int .i64 ((rd_T32 l0 x61_5).f0))).trans hx241_0; replace hx241_0 := (cell_far (p := ⟨gb240, 1, none⟩) zfe_ (.int .i64 ((rd_T32 l0 x61_5).f1))).trans hx241_0; clear hn241_0 hn241_1; replace p241 := eq_true p241; replace q241 := eq_true q241))
                      go_roundg k5
                      case measure => have := HJ2.out; have := HK2.out; have := HK3.out; have := HK4.out; have := HK5.out; omega
                      case rel => exact ⟨((wrap64 (97 + x61_5)) % 256), (wrap64 (x61_5 + 1)), zc_, zc_, H', ⟨zci_⟩, ⟨zff_⟩, ⟨zfg_⟩⟩
                     ·rw [if_neg c34] at H
                      have c34b0 : decide (x11_4 ≤ ((rd_T32 l0 x61_5).f1)) = false := decide_eq_false c34
                      clear c34
                      have H' := aM H
                      clear H
                      have p239 : 0 ≤ (x61_5 : Int) := of_decide_eq_true zb_
                      have q239 : x61_5 < (l0.length : Int) := of_decide_eq_true zb_
                      obtain ⟨ad239, e239, hx239_0, hx239_1⟩ := at_T32 HR0.out x61_5 p239 q239
                      cases e239
                      (try (replace hx239_0 := (HB.out.cell (World.block_lt_of_cell? w _ hx239_0)).trans hx239_0))
                      (try (replace hx239_1 := (HB.out.cell (World.block_lt_of_cell? w _ hx239_1)).trans hx239_1))
                      replace p239 := eq_true p239
                      replace q239 := eq_true q239
                      go_wp2_with (first | ((with_reducible refine gate_dst (N := 14) rfl ?_); (try (refine gate_guard (by rfl) ?_; dsimp only)); refine box_event ?hg (N := 14) ?hd (cs := #[.int .i64 0, .int .i64 0]) (t := 32) ?hr ?_; (case hd => rfl); (case hg => rfl); (case hr => exact zf_); intro gb240 hg w37 hbox hb; have n_ := z (Kd.R_below (zr HO_9.out) hb) <| z (below_step za_ hb) <| z (hbox) <| z ((by rw [hg]; exact (below_size za_) : w.heap.size ≤ gb240)) <| z1 ((by rw [hg]; exact (below_size za_) : w.heap.size ≤ gb240)); clear HO_9 HB; obtain ⟨HO_9, HB, BK240, GW240, GE240⟩ := n_; clear hb hbox hg; have hcz38_0 : w37.cell? ⟨gb240, 0, none⟩ = some (.int .i64 0) := (blk_cell BK240.out 0).trans rfl; have hcz38_1 : w37.cell? ⟨gb240, 1, none⟩ = some (.int .i64 0) := (blk_cell BK240.out 1).trans rfl; have hfz38_0 := blk_frozen BK240.out 0; have hfz38_1 := blk_frozen BK240.out 1; have p241 : 0 ≤ (x61_5 : Int) := of_decide_eq_true zb_; have q241 : x61_5 < (l1.length : Int) := of_decide_eq_true zb_; obtain ⟨ad241, e241, hx241_0⟩ := Kd.at_int HR1.out x61_5 p241 q241; cases e241; have hn241_0 : ad241.block ≠ gb240 := Nat.ne_of_lt (Nat.lt_of_lt_of_le zdb_ GW240.out); have hn241_1 : ad241.block ≠ gb240 := Nat.ne_of_lt (Nat.lt_of_lt_of_le zdb_ GW240.out); replace hx241_0 := (HB.out.cell (World.block_lt_of_cell? w _ hx241_0)).trans hx241_0; replace hx241_0 := (cell_far (p := ⟨gb240, 0, none⟩) zfd_ (.int .i64 ((rd_T32 l0 x61_5).f0))).trans hx241_0; replace hx241_0 := (cell_far (p := ⟨gb240, 1, none⟩) zfe_ (.int .i64 ((rd_T32 l0 x61_5).f1))).trans hx241_0; clear hn241_0 hn241_1; replace p241 := eq_true p241; replace q241 := eq_true q241))
                      go_roundg k5
                      case measure => have := HJ2.out; have := HK2.out; have := HK3.out; have := HK4.out; have := HK5.out; omega
                      case rel => exact ⟨(x12_5), (wrap64 (x61_5 + 1)), zc_, zc_, H', ⟨zci_⟩, ⟨zff_⟩, ⟨zfg_⟩⟩
                    ·rw [if_neg c33] at H
                     have c33b0 : decide (((rd_T32 l0 x61_5).f0) ≤ x11_4) = false := decide_eq_false c33
                     clear c33
                     have H' := aM H
                     clear H
                     have p239 : 0 ≤ (x61_5 : Int) := of_decide_eq_true zb_
                     have q239 : x61_5 < (l0.length : Int) := of_decide_eq_true zb_
                     obtain ⟨ad239, e239, hx239_0, hx239_1⟩ := at_T32 HR0.out x61_5 p239 q239
                     cases e239
                     (try (replace hx239_0 := (HB.out.cell (World.block_lt_of_cell? w _ hx239_0)).trans hx239_0))
                     (try (replace hx239_1 := (HB.out.cell (World.block_lt_of_cell? w _ hx239_1)).trans hx239_1))
                     replace p239 := eq_true p239
                     replace q239 := eq_true q239
                     go_wp2_with (first | ((with_reducible refine gate_dst (N := 14) rfl ?_); (try (refine gate_guard (by rfl) ?_; dsimp only)); refine box_event ?hg (N := 14) ?hd (cs := #[.int .i64 0, .int .i64 0]) (t := 32) ?hr ?_; (case hd => rfl); (case hg => rfl); (case hr => exact zf_); intro gb240 hg w39 hbox hb; have n_ := z (Kd.R_below (zr HO_9.out) hb) <| z (below_step za_ hb) <| z (hbox) <| z ((by rw [hg]; exact (below_size za_) : w.heap.size ≤ gb240)) <| z1 ((by rw [hg]; exact (below_size za_) : w.heap.size ≤ gb240)); clear HO_9 HB; obtain ⟨HO_9, HB, BK240, GW240, GE240⟩ := n_; clear hb hbox hg; have hcz40_0 : w39.cell? ⟨gb240, 0, none⟩ = some (.int .i64 0) := (blk_cell BK240.out 0).trans rfl; have hcz40_1 : w39.cell? ⟨gb240, 1, none⟩ = some (.int .i64 0) := (blk_cell BK240.out 1).trans rfl; have hfz40_0 := blk_frozen BK240.out 0; have hfz40_1 := blk_frozen BK240.out 1; have p241 : 0 ≤ (x61_5 : Int) := of_decide_eq_true zb_; have q241 : x61_5 < (l1.length : Int) := of_decide_eq_true zb_; obtain ⟨ad241, e241, hx241_0⟩ := Kd.at_int HR1.out x61_5 p241 q241; cases e241; have hn241_0 : ad241.block ≠ gb240 := Nat.ne_of_lt (Nat.lt_of_lt_of_le zdb_ GW240.out); have hn241_1 : ad241.block ≠ gb240 := Nat.ne_of_lt (Nat.lt_of_lt_of_le zdb_ GW240.out); replace hx241_0 := (HB.out.cell (World.block_lt_of_cell? w _ hx241_0)).trans hx241_0; replace hx241_0 := (cell_far (p := ⟨gb240, 0, none⟩) zfd_ (.int .i64 ((rd_T32 l0 x61_5).f0))).trans hx241_0; replace hx241_0 := (cell_far (p := ⟨gb240, 1, none⟩) zfe_ (.int .i64 ((rd_T32 l0 x61_5).f1))).trans hx241_0; clear hn241_0 hn241_1; replace p241 := eq_true p241; replace q241 := eq_true q241))
                     go_roundg k5
                     case measure => have := HJ2.out; have := HK2.out; have := HK3.out; have := HK4.out; have := HK5.out; omega
                     case rel => exact ⟨(x12_5), (wrap64 (x61_5 + 1)), zc_, zc_, H', ⟨zci_⟩, ⟨zff_⟩, ⟨zfg_⟩⟩
                   ·rw [if_neg c32] at H
                    have c32b0 : ((rd l1 x61_5) == x10_3) = false := beq_eq_false_iff_ne.mpr c32
                    have c32b1 : ((rd l1 x61_5) != x10_3) = true := bne_iff_ne.mpr c32
                    have H' := aM H
                    clear H
                    have p239 : 0 ≤ (x61_5 : Int) := of_decide_eq_true zb_
                    have q239 : x61_5 < (l0.length : Int) := of_decide_eq_true zb_
                    obtain ⟨ad239, e239, hx239_0, hx239_1⟩ := at_T32 HR0.out x61_5 p239 q239
                    cases e239
                    (try (replace hx239_0 := (HB.out.cell (World.block_lt_of_cell? w _ hx239_0)).trans hx239_0))
                    (try (replace hx239_1 := (HB.out.cell (World.block_lt_of_cell? w _ hx239_1)).trans hx239_1))
                    replace p239 := eq_true p239
                    replace q239 := eq_true q239
                    go_wp2_with (first | ((with_reducible refine gate_dst (N := 14) rfl ?_); (try (refine gate_guard (by rfl) ?_; dsimp only)); refine box_event ?hg (N := 14) ?hd (cs := #[.int .i64 0, .int .i64 0]) (t := 32) ?hr ?_; (case hd => rfl); (case hg => rfl); (case hr => exact zf_); intro gb240 hg w41 hbox hb; have n_ := z (Kd.R_below (zr HO_9.out) hb) <| z (below_step za_ hb) <| z (hbox) <| z ((by rw [hg]; exact (below_size za_) : w.heap.size ≤ gb240)) <| z1 ((by rw [hg]; exact (below_size za_) : w.heap.size ≤ gb240)); clear HO_9 HB; obtain ⟨HO_9, HB, BK240, GW240, GE240⟩ := n_; clear hb hbox hg; have hcz42_0 : w41.cell? ⟨gb240, 0, none⟩ = some (.int .i64 0) := (blk_cell BK240.out 0).trans rfl; have hcz42_1 : w41.cell? ⟨gb240, 1, none⟩ = some (.int .i64 0) := (blk_cell BK240.out 1).trans rfl; have hfz42_0 := blk_frozen BK240.out 0; have hfz42_1 := blk_frozen BK240.out 1; have p241 : 0 ≤ (x61_5 : Int) := of_decide_eq_true zb_; have q241 : x61_5 < (l1.length : Int) := of_decide_eq_true zb_; obtain ⟨ad241, e241, hx241_0⟩ := Kd.at_int HR1.out x61_5 p241 q241; cases e241; have hn241_0 : ad241.block ≠ gb240 := Nat.ne_of_lt (Nat.lt_of_lt_of_le zdb_ GW240.out); have hn241_1 : ad241.block ≠ gb240 := Nat.ne_of_lt (Nat.lt_of_lt_of_le zdb_ GW240.out); replace hx241_0 := (HB.out.cell (World.block_lt_of_cell? w _ hx241_0)).trans hx241_0; replace hx241_0 := (cell_far (p := ⟨gb240, 0, none⟩) zfd_ (.int .i64 ((rd_T32 l0 x61_5).f0))).trans hx241_0; replace hx241_0 := (cell_far (p := ⟨gb240, 1, none⟩) zfe_ (.int .i64 ((rd_T32 l0 x61_5).f1))).trans hx241_0; clear hn241_0 hn241_1; replace p241 := eq_true p241; replace q241 := eq_true q241))
                    go_roundg k5
                    case measure => have := HJ2.out; have := HK2.out; have := HK3.out; have := HK4.out; have := HK5.out; omega
                    case rel => exact ⟨(x12_5), (wrap64 (x61_5 + 1)), zc_, zc_, H', ⟨zci_⟩, ⟨zff_⟩, ⟨zfg_⟩⟩
                  ·rw [if_neg c31] at H
                   exact absurd H (by simp)
                 ·rw [if_neg c30] at H
                  exact absurd H (by simp)
                ·rw [if_neg c29] at H
                 exact absurd H (by simp)
               ·rw [if_neg c28] at H
                have c28b0 : decide (x61_5 < (l0.length : Int)) = false := decide_eq_false c28
                clear c28
                by_cases c43 : x9_4.length < 140737488355328
                ·rw [if_pos c43] at H
                 have LMc43 := aM c43
                 clear c43
                 obtain ⟨y242, hy242⟩ : ∃ y_ : List Int, y_ = (x9_4 ++ [x12_5]) := ⟨_, rfl⟩
                 replace H : (impl_RoutingText.l2 k5 l0 l1 x6_2 y242 x10_3 (wrap64 (x11_4 + 1))) = some (r1, r2) := by first | (rw [hy242]; with_reducible exact H) | (have H2_ := (oS _ _).symm.trans H; rw [hy242]; with_reducible exact H2_) | (have H2_ := (oS _ _).symm.trans H; with_reducible exact H2_) | with_reducible exact H | (rw [hy242]; exact H) | exact H
                 have Ny242 := aM hy242
                 clear hy242
                 have H' := aM H
                 clear H
                 go_wp2_with (first | ((with_reducible refine gate_builtin (b := .append) (xs := #[.tmp 88, .tmp 90]) rfl ?_); (try (refine gate_guard (by rfl) ?_; dsimp only)); at_builtin; refine Kd.R_append (Kd.int .u8) (w0 := w) w.heap.size rfl (.tmp 88) (.tmp 90) 22 5 (.int .u8 0) 1 rfl Try.underlying22 info5 rfl (by decide) (by omega) u9 x9_4 x12_5 [.int .u8 x12_5] (fun _ => True) (fun _ => False) rfl rfl ?aP (fun _ hk => hk.elim) ?aF ?aO ?aB ?aS ?aL ?_; (case aP => exact rfl); (case aB => exact zcd_); (case aF => exact zcj_); (case aO => exact (zr HO_9.out)); (case aS => exact zce_); (case aL => have := LMc43.out; omega); intro v243 w44 ho hb hg hat; rw [← Ny242.out] at ho; have n_ := z (hb) <| z1 (ho); clear HB HO_9; obtain ⟨HB, HO244⟩ := n_; clear ho hb hg hat))
                 go_roundg k5
                 case measure => have := HJ2.out; have := HK2.out; have := HK3.out; have := HK4.out; have := HK5.out; omega
                 case rel => exact ⟨(y242), (wrap64 (x11_4 + 1)), zc_, H', ⟨zci_⟩, ⟨zr HO244.out⟩, ⟨za_⟩⟩
                ·rw [if_neg c43] at H
                 exact absurd H (by simp)
            ·rw [if_neg c27] at H
             have c27b0 : decide (x11_4 ≤ x6_2) = false := decide_eq_false c27
             clear c27
             by_cases c45 : x9_4.length < 140737488355328
             ·rw [if_pos c45] at H
              have LMc45 := aM c45
              clear c45
              obtain ⟨y236, hy236⟩ : ∃ y_ : List Int, y_ = (x9_4 ++ [10]) := ⟨_, rfl⟩
              replace H : (impl_RoutingText.l1 k4 l0 l1 x6_2 y236 (wrap64 (x10_3 + 1))) = some (r1, r2) := by first | (rw [hy236]; with_reducible exact H) | (have H2_ := (oS _ _).symm.trans H; rw [hy236]; with_reducible exact H2_) | (have H2_ := (oS _ _).symm.trans H; with_reducible exact H2_) | with_reducible exact H | (rw [hy236]; exact H) | exact H
              have Ny236 := aM hy236
              clear hy236
              have H' := aM H
              clear H
              go_wp2_with (first | ((with_reducible refine gate_builtin (b := .append) (xs := #[.tmp 92, .tmp 93]) rfl ?_); (try (refine gate_guard (by rfl) ?_; dsimp only)); at_builtin; refine Kd.R_append (Kd.int .u8) (w0 := w) w.heap.size rfl (.tmp 92) (.tmp 93) 22 5 (.int .u8 0) 1 rfl Try.underlying22 info5 rfl (by decide) (by omega) u9 x9_4 10 [.int .u8 10] (fun _ => True) (fun _ => False) rfl rfl ?aP (fun _ hk => hk.elim) ?aF ?aO ?aB ?aS ?aL ?_; (case aP => exact rfl); (case aB => exact zcd_); (case aF => exact zcj_); (case aO => exact (zr HO_9.out)); (case aS => exact zce_); (case aL => have := LMc45.out; omega); intro v237 w46 ho hb hg hat; rw [← Ny236.out] at ho; have n_ := z (hb) <| z1 (ho); clear HB HO_9; obtain ⟨HB, HO238⟩ := n_; clear ho hb hg hat))
              go_roundg k4
              case measure => have := HJ2.out; have := HK2.out; have := HK3.out; have := HK4.out; omega
              case rel => exact ⟨(y236), (wrap64 (x10_3 + 1)), zc_, H', ⟨by have := HJ2.out; have := HK2.out; have := HK3.out; have := HK4.out; omega⟩, ⟨zr HO238.out⟩, ⟨za_⟩⟩
             ·rw [if_neg c45] at H
              exact absurd H (by simp)
         ·rw [if_neg c25] at H
          have c25b0 : decide (x10_3 ≤ t235) = false := decide_eq_false c25
          clear c25
          simp only [Option.some.injEq, Prod.mk.injEq] at H
          obtain ⟨rfl, rfl⟩ := H
          go_wp2_with (first | ((with_reducible refine gate_callee (f := 105) rfl ?_); refine goesL_ (some 50) rfl rfl Try.func105 (by kernel_rfl) rfl #[.slice A1 l1.length c1] rfl zd_ ?_; (with_reducible refine (impl_greatest.calls k3 _ _ l1 t235 _ ?side1 ?side2 A24.out).mono ?_); (case side1 => exact zbb_); (case side2 => exact HC1.out); rintro e w47 ⟨rfl, hb⟩; refine ⟨_, rfl, ?_⟩; have n_ := z (Kd.R_below (zr HO_9.out) hb) <| z1 (below_step za_ hb); clear HO_9 HB; obtain ⟨HO_9, HB⟩ := n_; (try clear hb); have hcv48 := own_string (P := Try.prog) Try.underlying22 Try.underlying5 Try.underlying9 (Kd.own_of_R HO_9.out)))
          go_ret2
          exact ⟨zg_, za_⟩
def spec_l1Most.f (a0 : Int) (a1 : Int) : Option (Int) := if a0 > a1 then (some a0) else (some a1)
theorem spec_l1Most.calls (a0 : Int) (a1 : Int) (r : Int) (w : World) (h : spec_l1Most.f a0 a1 = some r) :
  Calls Try.prog 106 #[.int .i64 a0, .int .i64 a1] w fun e w' => e = .returned (.int .i64 r) ∧ Drawn0 w w' := by
 have H : (if a0 > a1 then (some a0) else (some a1)) = some r := h
 clear h
 by_cases c3 : a0 > a1
 ·rw [if_pos c3] at H
  have c3b0 : decide (a1 < a0) = true := decide_eq_true c3
  clear c3
  obtain rfl := Option.some.inj H
  go_enter Try.func106, Try.ntmps106
  go_wp2
  go_ret
  exact ⟨zc_, zbc_⟩
 ·rw [if_neg c3] at H
  have c3b0 : decide (a1 < a0) = false := decide_eq_false c3
  clear c3
  obtain rfl := Option.some.inj H
  go_enter Try.func106, Try.ntmps106
  go_wp2
  go_ret
  exact ⟨zc_, zbc_⟩
end Go.Proofs.Ytbkighlfgaifeaa.QFnTracks
