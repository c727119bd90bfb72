/- Functions of the law FnTracks, each as a Lean function, and the proofs that the Go code comes to their answers. Made by wip/gen/slim.py. Conditions: those of each theorem. -/
import Derived.Test.YtbkighlfgaifeaaSFnTracksx0
import Derived.Test.YtbkighlfgaifeaaSFnTracksx1
import Derived.Test.YtbkighlfgaifeaaSFnTracksx3
import Derived.Test.YtbkighlfgaifeaaSFnTracksx5
import Derived.Test.YtbkighlfgaifeaaSFnTracksx7
import Derived.Test.YtbkighlfgaifeaaSFnTracksx8
import Derived.Test.YtbkighlfgaifeaaSFnTracksx9
namespace Go.Proofs.Ytbkighlfgaifeaa.QFnTracks
open Go.RowKit Go.Proofs.YtbkighlfgaifeaaW.PrintWords Go.Proofs.YtbkighlfgaifeaaW.PrintLast Go.Proofs.YtbkighlfgaifeaaW.PrintMore
open Go.Proofs.YtbkighlfgaifeaaW.PrintWords renaming pw_below_drewN → pN, below_drew1 → p1, below_alloc → pA
open Go.Proofs.YtbkighlfgaifeaaW.PrintWords.Kd renaming R_alloc → kA, R_drewN → kN, R_drew → kD, Q_alloc → qA, Q_drewN → qN, Q_drew → qD, C_alloc → cA, C_drewN → cN, C_drew → cD
open Go.Proofs.YtbkighlfgaifeaaW.PrintWords.Aside0 renaming mk → aM
open List renaming setIfInBounds_toArray → sI, set_cons_zero → s0, set_cons_succ → sS, map_toArray → mT, length_take → lT, length_drop → lD, map_cons → mC, map_nil → mN
open Option renaming bind_eq_some_iff → oB, bind_some → oS
attribute [local go_sem] max2_int min2_int max_two min_two max_three min_three max_four min_four
set_option maxHeartbeats 8000000
set_option maxRecDepth 100000
set_option linter.unusedVariables false
set_option linter.unusedSimpArgs false
def spec_rtTop.l0 : Nat → Int → List Int → Int → Int → Option (Int)
 | 0, _, _, _, _ => none
 | k + 1, x3, x6, x7, x8 => if x8 < x7 then (if 0 ≤ x8 then (if x8 < (x6.length : Int) then ((spec_l1Most.f x3 (wrap64 ((rd x6 x8) + 1))).bind fun t246 => (spec_rtTop.l0 k t246 x6 x7 (wrap64 (x8 + 1)))) else (none)) else (none)) else (some x3)
def spec_rtTop.f (k : Nat) (l0 : List Int) : Option (Int) := spec_rtTop.l0 k 0 l0 (l0.length : Int) 0
theorem spec_rtTop.calls (k : Nat) (A0 : Option Addr) (c0 : Nat) (l0 : List Int) (r : Int) (w : World) (hr0 : Kd.C (Kd.int .i64) w A0 l0.length l0) (hc0 : l0.length ≤ c0) (h : spec_rtTop.f k l0 = some r) :
  Calls Try.prog 107 #[.slice A0 l0.length c0] w fun e w' => e = .returned (.int .i64 r) ∧ Drawn0 w w' := by
 have HR0 := aM hr0
 have HC0 := aM hc0
 clear hr0 hc0
 have H : (spec_rtTop.l0 k 0 l0 (l0.length : Int) 0) = some r := h
 clear h
 have H' := aM H
 clear H
 go_enter Try.func107, Try.ntmps107
 go_wp2
 go_loopg [3, 8] k (fun kq v3 v8 w' => ∃ (x3_1 : Int) (x8_1 : Int), v3 = .int .i64 x3_1 ∧ v8 = .int .i64 x8_1 ∧ Aside0 (spec_rtTop.l0 kq x3_1 l0 (l0.length : Int) x8_1 = some r) ∧ Aside0 (kq ≤ k) ∧ Drawn0 w w')
 case atStart => exact ⟨(0), (0), zc_, zc_, H', ⟨Nat.le_refl _⟩, zbc_⟩
 case round =>
  clear H'
  try clear c1
  obtain ⟨x3_1, x8_1, rfl, rfl, HA, HK1, ⟨m1, rfl⟩⟩ := hrel
  cases gk with
  | zero => exact absurd HA.out (by simp [spec_rtTop.l0])
  | succ k1 =>
   have H := HA.out
   clear HA
   simp only [spec_rtTop.l0] at H
   by_cases c2 : x8_1 < (l0.length : Int)
   ·rw [if_pos c2] at H
    have c2b0 : decide (x8_1 < (l0.length : Int)) = true := decide_eq_true c2
    clear c2
    by_cases c3 : 0 ≤ x8_1
    ·rw [if_pos c3] at H
     have c3b0 : decide (0 ≤ x8_1) = true := decide_eq_true c3
     clear c3
     by_cases c4 : x8_1 < (l0.length : Int)
     ·rw [if_pos c4] at H
      have c4b0 : decide (x8_1 < (l0.length : Int)) = true := decide_eq_true c4
      clear c4
      replace H := oB.mp H
      obtain ⟨t246, A50, H⟩ := H
      replace H : (spec_rtTop.l0 k1 t246 l0 (l0.length : Int) (wrap64 (x8_1 + 1))) = some r := H
      have A5 := aM A50
      clear A50
      have H' := aM H
      clear H
      have p245 : 0 ≤ (x8_1 : Int) := of_decide_eq_true zb_
      have q245 : x8_1 < (l0.length : Int) := of_decide_eq_true zb_
      obtain ⟨ad245, e245, hx245_0⟩ := Kd.at_int HR0.out x8_1 p245 q245
      cases e245
      replace p245 := eq_true p245
      replace q245 := eq_true q245
      go_wp2_with (first | ((with_reducible refine gate_callee (f := 106) rfl ?_); refine goesL_ (some 15) rfl rfl Try.func106 (by kernel_rfl) rfl #[.int .i64 x3_1, .int .i64 (wrap64 ((rd l0 x8_1) + 1))] rfl zd_ ?_; (with_reducible refine (spec_l1Most.calls x3_1 (wrap64 ((rd l0 x8_1) + 1)) t246 _ A5.out).mono ?_); rintro e w' ⟨rfl, ⟨nd, rfl⟩⟩; refine ⟨_, rfl, ?_⟩))
      go_roundg k1
      case measure => have := HK1.out; omega
      case rel => exact ⟨(t246), (wrap64 (x8_1 + 1)), zc_, zc_, H', ⟨zcc_⟩, zbc_⟩
     ·rw [if_neg c4] at H
      exact absurd H (by simp)
    ·rw [if_neg c3] at H
     exact absurd H (by simp)
   ·rw [if_neg c2] at H
    have c2b0 : decide (x8_1 < (l0.length : Int)) = false := decide_eq_false c2
    clear c2
    obtain rfl := Option.some.inj H
    go_wp2
    go_ret
    exact ⟨zc_, zbc_⟩
mutual
def spec_RoutingText.j0 : Nat → List (S32) → List Int → Bool → Option (ByteArray × Bool)
 | 0, _, _, _ => none
 | k + 1, x0, x1, x24 => if x24 = true then (some ((⟨#[]⟩ : ByteArray), false)) else (spec_RoutingText.l0 k x0 x1 0 x0 (x0.length : Int) 0)
def spec_RoutingText.l0 : Nat → List (S32) → List Int → Int → List (S32) → Int → Int → Option (ByteArray × Bool)
 | 0, _, _, _, _, _, _ => none
 | k + 1, x0, x1, x6, x25, x26, x27 => if x27 < x26 then (if 0 ≤ x27 then (if x27 < (x25.length : Int) then ((spec_l1Most.f x6 (wrap64 (((rd_T32 x25 x27).f1) + 1))).bind fun t251 => (spec_RoutingText.l0 k x0 x1 t251 x25 x26 (wrap64 (x27 + 1)))) else (none)) else (none)) else (spec_RoutingText.l1 k x0 x1 x6 (⟨#[]⟩ : ByteArray) 0)
def spec_RoutingText.l1 : Nat → List (S32) → List Int → Int → ByteArray → Int → Option (ByteArray × Bool)
 | 0, _, _, _, _, _ => none
 | k + 1, x0, x1, x6, x9, x10 => (spec_rtTop.f k x1).bind fun t252 => (if x10 < t252 then (spec_RoutingText.l2 k x0 x1 x6 x9 x10 0) else (some (x9, true)))
def spec_RoutingText.l2 : Nat → List (S32) → List Int → Int → ByteArray → Int → Int → Option (ByteArray × Bool)
 | 0, _, _, _, _, _, _ => none
 | k + 1, x0, x1, x6, x9, x10, x11 => if x11 < x6 then (spec_RoutingText.l3 k x0 x1 x6 x9 x10 x11 (⟨#[46]⟩ : ByteArray) x0 (x0.length : Int) 0) else (if x9.size + 1 ≤ 9223372036854775807 then (spec_RoutingText.l1 k x0 x1 x6 (x9 ++ (⟨#[10]⟩ : ByteArray)) (wrap64 (x10 + 1))) else (none))
def spec_RoutingText.l3 : Nat → List (S32) → List Int → Int → ByteArray → Int → Int → ByteArray → List (S32) → Int → Int → Option (ByteArray × Bool)
 | 0, _, _, _, _, _, _, _, _, _, _ => none
 | k + 1, x0, x1, x6, x9, x10, x11, x12, x48, x49, x50 => if x50 < x49 then (if 0 ≤ x50 then (if x50 < (x48.length : Int) then (if x50 < (x1.length : Int) then (if (rd x1 x50) = x10 then ((spec_l1In.f x11 ((rd_T32 x48 x50).f0) ((rd_T32 x48 x50).f1)).bind fun t256 => (if t256 = true then (spec_RoutingText.l3 k x0 x1 x6 x9 x10 x11 (strOfNums (([(wrap64 (97 + x50)) % 256] : List Int))) x48 x49 (wrap64 (x50 + 1))) else (spec_RoutingText.l3 k x0 x1 x6 x9 x10 x11 x12 x48 x49 (wrap64 (x50 + 1))))) else (spec_RoutingText.l3 k x0 x1 x6 x9 x10 x11 x12 x48 x49 (wrap64 (x50 + 1)))) else (none)) else (none)) else (none)) else (if x9.size + x12.size ≤ 9223372036854775807 then (spec_RoutingText.l2 k x0 x1 x6 (x9 ++ x12) x10 (wrap64 (x11 + 1))) else (none))
end
def spec_RoutingText.f (k : Nat) (l0 : List (S32)) (l1 : List Int) : Option (ByteArray × Bool) := (spec_rtAsked.f k l0 l1).bind fun t247 => (if t247 = true then ((spec_rtRouting.f k l0 l1).bind fun t248 => (spec_RoutingText.j0 k l0 l1 (!t248))) else (spec_RoutingText.j0 k l0 l1 true))
theorem spec_RoutingText.calls (k : Nat) (A0 : Option Addr) (c0 : Nat) (l0 : List (S32)) (A1 : Option Addr) (c1 : Nat) (l1 : List Int) (r1 : ByteArray) (r2 : Bool) (w : World) (hr0 : Kd.C k32 w A0 l0.length l0) (hc0 : l0.length ≤ c0) (hr1 : Kd.C (Kd.int .i64) w A1 l1.length l1) (hc1 : l1.length ≤ c1) (h : spec_RoutingText.f k l0 l1 = some (r1, r2)) :
  Calls Try.prog 13 #[.slice A0 l0.length c0, .slice A1 l1.length c1] w fun e w' => e = .returned (.tuple #[.string r1, .bool r2]) ∧ Below w.heap.size w w' := by
 have hu32 := Try.underlying32
 have HR0 := aM hr0
 have HC0 := aM hc0
 clear hr0 hc0
 have HR1 := aM hr1
 have HC1 := aM hc1
 clear hr1 hc1
 have HB := aM (Below.refl w.heap.size w)
 have H : ((spec_rtAsked.f k l0 l1).bind fun t247 => (if t247 = true then ((spec_rtRouting.f k l0 l1).bind fun t248 => (spec_RoutingText.j0 k l0 l1 (!t248))) else (spec_RoutingText.j0 k l0 l1 true))) = some (r1, r2) := h
 clear h
 have HC3 := aM H
 clear H
 go_enter Try.func13, Try.ntmps13
 go_upto_region 1 with (fail)
 go_cut [24] (fun v24 wc => ∃ (kq : Nat) (x24_2 : Bool), v24 = .bool x24_2 ∧ Aside0 (spec_RoutingText.j0 kq l0 l1 x24_2 = some (r1, r2)) ∧ Aside0 (kq ≤ k) ∧ Aside0 (Below w.heap.size w wc))
 case first =>
  have H := HC3.out
  clear HC3
  replace H := oB.mp H
  obtain ⟨t247, A40, H⟩ := H
  replace H : (if t247 = true then ((spec_rtRouting.f k l0 l1).bind fun t248 => (spec_RoutingText.j0 k l0 l1 (!t248))) else (spec_RoutingText.j0 k l0 l1 true)) = some (r1, r2) := H
  have A4 := aM A40
  clear A40
  by_cases c5 : t247 = true
  ·subst c5
   have H1 : ((spec_rtRouting.f k l0 l1).bind fun t248 => (spec_RoutingText.j0 k l0 l1 (!t248))) = some (r1, r2) := by rw [if_pos rfl] at H; exact H
   clear H
   have H := H1
   clear H1
   replace H := oB.mp H
   obtain ⟨t248, A60, H⟩ := H
   replace H : (spec_RoutingText.j0 k l0 l1 (!t248)) = some (r1, r2) := H
   have A6 := aM A60
   clear A60
   have H' := aM H
   clear H
   go_wp2_with (first | ((with_reducible refine gate_callee (f := 103) rfl ?_); refine goesL_ (some 17) rfl rfl Try.func103 (by kernel_rfl) rfl #[.slice A0 l0.length c0, .slice A1 l1.length c1] rfl zd_ ?_; (with_reducible refine (spec_rtAsked.calls k _ _ l0 _ _ l1 true _ ?side1 ?side2 ?side3 ?side4 A4.out).mono ?_); (case side1 => exact zbe_); (case side2 => exact HC0.out); (case side3 => exact zbb_); (case side4 => exact HC1.out); rintro e w7 ⟨rfl, hb⟩; refine ⟨_, rfl, ?_⟩; have n0_ := aM (below_step za_ hb); clear HB; have HB := n0_; clear n0_; (try clear hb)) | (go_at_call 104; (with_reducible refine (spec_rtRouting.calls k _ _ l0 _ _ l1 t248 _ ?side1 ?side2 ?side3 ?side4 A6.out).mono ?_); (case side1 => exact zbe_); (case side2 => exact HC0.out); (case side3 => exact zbb_); (case side4 => exact HC1.out); rintro e w8 ⟨rfl, hb⟩; have n0_ := aM (below_step za_ hb); clear HB; have HB := n0_; clear n0_; (try clear hb)))
   go_meet
   case rel => exact ⟨_, (!t248), zc_, H', ⟨zbg_⟩, ⟨za_⟩⟩
  ·replace c5 := Bool.eq_false_iff.mpr c5
   subst c5
   have H1 : (spec_RoutingText.j0 k l0 l1 true) = some (r1, r2) := by rw [if_neg (show ¬ (false = true) by decide)] at H; exact H
   clear H
   have H := H1
   clear H1
   have H' := aM H
   clear H
   go_wp2_with (first | ((with_reducible refine gate_callee (f := 103) rfl ?_); refine goesL_ (some 17) rfl rfl Try.func103 (by kernel_rfl) rfl #[.slice A0 l0.length c0, .slice A1 l1.length c1] rfl zd_ ?_; (with_reducible refine (spec_rtAsked.calls k _ _ l0 _ _ l1 false _ ?side1 ?side2 ?side3 ?side4 A4.out).mono ?_); (case side1 => exact zbe_); (case side2 => exact HC0.out); (case side3 => exact zbb_); (case side4 => exact HC1.out); rintro e w9 ⟨rfl, hb⟩; refine ⟨_, rfl, ?_⟩; have n0_ := aM (below_step za_ hb); clear HB; have HB := n0_; clear n0_; (try clear hb)))
   go_meet
   case rel => exact ⟨_, (true), zc_, H', ⟨zbg_⟩, ⟨za_⟩⟩
 case rest =>
  clear HC3
  try clear c1
  try clear p2
  try clear c5
  obtain ⟨kq, x24_2, rfl, HA, HJ2, HB⟩ := hcut
  cases kq with
  | zero => exact absurd HA.out (by simp [spec_RoutingText.j0])
  | succ kj2 =>
   have H := HA.out
   clear HA
   simp only [spec_RoutingText.j0] at H
   by_cases c10 : x24_2 = true
   ·subst c10
    have H1 : (some ((⟨#[]⟩ : ByteArray), false)) = some (r1, r2) := by rw [if_pos rfl] at H; exact H
    clear H
    have H := H1
    clear H1
    simp only [Option.some.injEq, Prod.mk.injEq] at H
    obtain ⟨rfl, rfl⟩ := H
    go_wp2
    go_ret2
    exact ⟨zg_, za_⟩
   ·replace c10 := Bool.eq_false_iff.mpr c10
    subst c10
    have H1 : (spec_RoutingText.l0 kj2 l0 l1 0 l0 (l0.length : Int) 0) = some (r1, r2) := by rw [if_neg (show ¬ (false = true) by decide)] at H; exact H
    clear H
    have H := H1
    clear H1
    have H' := aM H
    clear H
    go_wp2
    go_loopg [6, 27] kj2 (fun kq v6 v27 w' => ∃ (x6_2 : Int) (x27_2 : Int), v6 = .int .i64 x6_2 ∧ v27 = .int .i64 x27_2 ∧ Aside0 (spec_RoutingText.l0 kq l0 l1 x6_2 l0 (l0.length : Int) x27_2 = some (r1, r2)) ∧ Aside0 (kq ≤ kj2) ∧ Aside0 (Below w.heap.size w w'))
    case atStart => exact ⟨(0), (0), zc_, zc_, H', ⟨Nat.le_refl _⟩, ⟨za_⟩⟩
    case round =>
     clear H'
     try clear c1
     try clear p2
     try clear c5
     try clear c10
     try clear p2
     obtain ⟨x6_2, x27_2, rfl, rfl, HA, HK2, HB⟩ := hrel
     cases gk with
     | zero => exact absurd HA.out (by simp [spec_RoutingText.l0])
     | succ k2 =>
      have H := HA.out
      clear HA
      simp only [spec_RoutingText.l0] at H
      by_cases c11 : x27_2 < (l0.length : Int)
      ·rw [if_pos c11] at H
       have c11b0 : decide (x27_2 < (l0.length : Int)) = true := decide_eq_true c11
       clear c11
       by_cases c12 : 0 ≤ x27_2
       ·rw [if_pos c12] at H
        have c12b0 : decide (0 ≤ x27_2) = true := decide_eq_true c12
        clear c12
        by_cases c13 : x27_2 < (l0.length : Int)
        ·rw [if_pos c13] at H
         have c13b0 : decide (x27_2 < (l0.length : Int)) = true := decide_eq_true c13
         clear c13
         replace H := oB.mp H
         obtain ⟨t251, A140, H⟩ := H
         replace H : (spec_RoutingText.l0 k2 l0 l1 t251 l0 (l0.length : Int) (wrap64 (x27_2 + 1))) = some (r1, r2) := H
         have A14 := aM A140
         clear A140
         have H' := aM H
         clear H
         have p249 : 0 ≤ (x27_2 : Int) := of_decide_eq_true zb_
         have q249 : x27_2 < (l0.length : Int) := of_decide_eq_true zb_
         obtain ⟨ad249, e249, hx249_0, hx249_1⟩ := at_T32 HR0.out x27_2 p249 q249
         cases e249
         (try (replace hx249_0 := (HB.out.cell (World.block_lt_of_cell? w _ hx249_0)).trans hx249_0))
         (try (replace hx249_1 := (HB.out.cell (World.block_lt_of_cell? w _ hx249_1)).trans hx249_1))
         replace p249 := eq_true p249
         replace q249 := eq_true q249
         go_wp2_with (first | ((with_reducible refine gate_dst (N := 8) rfl ?_); refine box_event ?hg (N := 8) ?hd (cs := #[.int .i64 0, .int .i64 0]) (t := 32) ?hr ?_; (case hd => rfl); (case hg => rfl); (case hr => exact zf_); intro gb250 hg w15 hbox hb; have n_ := z (below_step za_ hb) <| z (hbox) <| z ((by rw [hg]; exact (below_size za_) : w.heap.size ≤ gb250)) <| z1 ((by rw [hg]; exact (below_size za_) : w.heap.size ≤ gb250)); clear HB; obtain ⟨HB, BK250, GW250, GE250⟩ := n_; clear hb hbox hg; have hcz16_0 : w15.cell? ⟨gb250, 0, none⟩ = some (.int .i64 0) := (blk_cell BK250.out 0).trans rfl; have hcz16_1 : w15.cell? ⟨gb250, 1, none⟩ = some (.int .i64 0) := (blk_cell BK250.out 1).trans rfl; have hfz16_0 := blk_frozen BK250.out 0; have hfz16_1 := blk_frozen BK250.out 1) | ((with_reducible refine gate_callee (f := 106) rfl ?_); refine goesL_ (some 35) rfl rfl Try.func106 (by kernel_rfl) rfl #[.int .i64 x6_2, .int .i64 (wrap64 (((rd_T32 l0 x27_2).f1) + 1))] rfl zd_ ?_; (with_reducible refine (spec_l1Most.calls x6_2 (wrap64 (((rd_T32 l0 x27_2).f1) + 1)) t251 _ A14.out).mono ?_); rintro e w' ⟨rfl, ⟨nd, rfl⟩⟩; refine ⟨_, rfl, ?_⟩))
         go_roundg k2
         case measure => have := HJ2.out; have := HK2.out; omega
         case rel => exact ⟨(t251), (wrap64 (x27_2 + 1)), zc_, zc_, H', ⟨by have := HJ2.out; have := HK2.out; omega⟩, ⟨by repeat (first | (with_reducible first | exact HB.out | apply pA | apply pN | apply p1 | refine below_set ?_ GE250.out) | exact HB.out)⟩⟩
        ·rw [if_neg c13] at H
         exact absurd H (by simp)
       ·rw [if_neg c12] at H
        exact absurd H (by simp)
      ·rw [if_neg c11] at H
       have c11b0 : decide (x27_2 < (l0.length : Int)) = false := decide_eq_false c11
       clear c11
       have H' := aM H
       clear H
       go_wp2
       go_loopg [9, 10] k2 (fun kq v9 v10 w' => ∃ (x9_3 : ByteArray) (x10_3 : Int), v9 = .string x9_3 ∧ v10 = .int .i64 x10_3 ∧ Aside0 (spec_RoutingText.l1 kq l0 l1 x6_2 x9_3 x10_3 = some (r1, r2)) ∧ Aside0 (kq ≤ k2) ∧ Aside0 (Below w.heap.size w w'))
       case atStart => exact ⟨((⟨#[]⟩ : ByteArray)), (0), zc_, zc_, H', ⟨Nat.le_refl _⟩, ⟨za_⟩⟩
       case round =>
        clear H'
        try clear c1
        try clear p2
        try clear q2
        try clear hx2
        try clear c5
        try clear p6
        try clear c10
        try clear c11
        try clear c11b0
        try clear c12
        try clear c12b0
        try clear c13
        try clear c13b0
        try clear hcz16_0
        try clear hcz16_1
        try clear hfz16_0
        try clear hfz16_1
        try clear hx249_0
        try clear hx249_1
        try clear p2
        try clear p249
        try clear q249
        obtain ⟨x9_3, x10_3, rfl, rfl, HA, HK3, HB⟩ := hrel
        cases gk with
        | zero => exact absurd HA.out (by simp [spec_RoutingText.l1])
        | succ k3 =>
         have H := HA.out
         clear HA
         simp only [spec_RoutingText.l1] at H
         replace H := oB.mp H
         obtain ⟨t252, A170, H⟩ := H
         replace H : (if x10_3 < t252 then (spec_RoutingText.l2 k3 l0 l1 x6_2 x9_3 x10_3 0) else (some (x9_3, true))) = some (r1, r2) := H
         have A17 := aM A170
         clear A170
         by_cases c18 : x10_3 < t252
         ·rw [if_pos c18] at H
          have c18b0 : decide (x10_3 < t252) = true := decide_eq_true c18
          clear c18
          have H' := aM H
          clear H
          go_wp2_with (first | ((with_reducible refine gate_callee (f := 107) rfl ?_); refine goesL_ (some 39) rfl rfl Try.func107 (by kernel_rfl) rfl #[.slice A1 l1.length c1] rfl zd_ ?_; (with_reducible refine (spec_rtTop.calls k3 _ _ l1 t252 _ ?side1 ?side2 A17.out).mono ?_); (case side1 => exact zbb_); (case side2 => exact HC1.out); rintro e w' ⟨rfl, ⟨nd, rfl⟩⟩; refine ⟨_, rfl, ?_⟩))
          go_loopg [9, 11] k3 (fun kq v9 v11 w' => ∃ (x9_4 : ByteArray) (x11_4 : Int), v9 = .string x9_4 ∧ v11 = .int .i64 x11_4 ∧ Aside0 (spec_RoutingText.l2 kq l0 l1 x6_2 x9_4 x10_3 x11_4 = some (r1, r2)) ∧ Aside0 (kq ≤ k3) ∧ Aside0 (Below w.heap.size w w'))
          case atStart => exact ⟨(x9_3), (0), zc_, zc_, H', ⟨Nat.le_refl _⟩, ⟨za_⟩⟩
          case round =>
           clear H'
           try clear c1
           try clear p2
           try clear q2
           try clear hx2
           try clear c5
           try clear p6
           try clear c10
           try clear c11
           try clear c11b0
           try clear c12
           try clear c12b0
           try clear c13
           try clear c13b0
           try clear c18
           try clear c18b0
           try clear hcz16_0
           try clear hcz16_1
           try clear hfz16_0
           try clear hfz16_1
           try clear hx249_0
           try clear hx249_1
           try clear p2
           try clear p249
           try clear p6
           try clear q2
           try clear q249
           obtain ⟨x9_4, x11_4, rfl, rfl, HA, HK4, HB⟩ := hrel
           cases gk with
           | zero => exact absurd HA.out (by simp [spec_RoutingText.l2])
           | succ k4 =>
            have H := HA.out
            clear HA
            simp only [spec_RoutingText.l2] at H
            by_cases c19 : x11_4 < x6_2
            ·rw [if_pos c19] at H
             have c19b0 : decide (x11_4 < x6_2) = true := decide_eq_true c19
             clear c19
             have H' := aM H
             clear H
             go_wp2
             go_loopg [12, 50] k4 (fun kq v12 v50 w' => ∃ (x12_5 : ByteArray) (x50_5 : Int), v12 = .string x12_5 ∧ v50 = .int .i64 x50_5 ∧ Aside0 (spec_RoutingText.l3 kq l0 l1 x6_2 x9_4 x10_3 x11_4 x12_5 l0 (l0.length : Int) x50_5 = some (r1, r2)) ∧ Aside0 (kq ≤ k4) ∧ Aside0 (Below w.heap.size w w'))
             case atStart => exact ⟨((⟨#[46]⟩ : ByteArray)), (0), zc_, zc_, H', ⟨Nat.le_refl _⟩, ⟨za_⟩⟩
             case round =>
              clear H'
              try clear c1
              try clear p2
              try clear q2
              try clear hx2
              try clear c5
              try clear p6
              try clear c10
              try clear c11
              try clear c11b0
              try clear c12
              try clear c12b0
              try clear c13
              try clear c13b0
              try clear c18
              try clear c18b0
              try clear c19
              try clear c19b0
              try clear hcz16_0
              try clear hcz16_1
              try clear hfz16_0
              try clear hfz16_1
              try clear hx249_0
              try clear hx249_1
              try clear p2
              try clear p249
              try clear p6
              try clear q2
              try clear q249
              obtain ⟨x12_5, x50_5, rfl, rfl, HA, HK5, HB⟩ := hrel
              cases gk with
              | zero => exact absurd HA.out (by simp [spec_RoutingText.l3])
              | succ k5 =>
               have H := HA.out
               clear HA
               simp only [spec_RoutingText.l3] at H
               by_cases c20 : x50_5 < (l0.length : Int)
               ·rw [if_pos c20] at H
                have c20b0 : decide (x50_5 < (l0.length : Int)) = true := decide_eq_true c20
                clear c20
                by_cases c21 : 0 ≤ x50_5
                ·rw [if_pos c21] at H
                 have c21b0 : decide (0 ≤ x50_5) = true := decide_eq_true c21
                 clear c21
                 by_cases c22 : x50_5 < (l0.length : Int)
                 ·rw [if_pos c22] at H
                  have c22b0 : decide (x50_5 < (l0.length : Int)) = true := decide_eq_true c22
                  clear c22
                  by_cases c23 : x50_5 < (l1.length : Int)
                  ·rw [if_pos c23] at H
                   have c23b0 : decide (x50_5 < (l1.length : Int)) = true := decide_eq_true c23
                   clear c23
                   by_cases c24 : (rd l1 x50_5) = x10_3
                   ·rw [if_pos c24] at H
                    have c24b0 : ((rd l1 x50_5) == x10_3) = true := beq_iff_eq.mpr c24
                    have c24b1 : ((rd l1 x50_5) != x10_3) = false := bne_eq_false_iff_eq.mpr c24
                    clear c24
                    replace H := oB.mp H
                    obtain ⟨t256, A250, H⟩ := H
                    replace H : (if t256 = true then (spec_RoutingText.l3 k5 l0 l1 x6_2 x9_4 x10_3 x11_4 (strOfNums (([(wrap64 (97 + x50_5)) % 256] : List Int))) l0 (l0.length : Int) (wrap64 (x50_5 + 1))) else (spec_RoutingText.l3 k5 l0 l1 x6_2 x9_4 x10_3 x11_4 x12_5 l0 (l0.length : Int) (wrap64 (x50_5 + 1)))) = some (r1, r2) := H
                    have A25 := aM A250
                    clear A250
                    by_cases c26 : t256 = true
                    ·subst c26
                     have H1 : (spec_RoutingText.l3 k5 l0 l1 x6_2 x9_4 x10_3 x11_4 (strOfNums (([(wrap64 (97 + x50_5)) % 256] : List Int))) l0 (l0.length : Int) (wrap64 (x50_5 + 1))) = some (r1, r2) := by rw [if_pos rfl] at H; exact H
                     clear H
                     have H := H1
                     clear H1
                     obtain ⟨y257, hy257⟩ : ∃ y_ : List Int, y_ = (([(wrap64 (97 + x50_5)) % 256] : List Int)) := ⟨_, rfl⟩
                     replace H : (spec_RoutingText.l3 k5 l0 l1 x6_2 x9_4 x10_3 x11_4 (strOfNums y257) l0 (l0.length : Int) (wrap64 (x50_5 + 1))) = some (r1, r2) := by first | (rw [hy257]; with_reducible exact H) | (have H2_ := (oS _ _).symm.trans H; rw [hy257]; with_reducible exact H2_) | (have H2_ := (oS _ _).symm.trans H; with_reducible exact H2_) | with_reducible exact H | (rw [hy257]; exact H) | exact H
                     have Ny257 := aM hy257
                     clear hy257
                     have H' := aM H
                     clear H
                     have p253 : 0 ≤ (x50_5 : Int) := of_decide_eq_true zb_
                     have q253 : x50_5 < (l0.length : Int) := of_decide_eq_true zb_
                     obtain ⟨ad253, e253, hx253_0, hx253_1⟩ := at_T32 HR0.out x50_5 p253 q253
                     cases e253
                     (try (replace hx253_0 := (HB.out.cell (World.block_lt_of_cell? w _ hx253_0)).trans hx253_0))
                     (try (replace hx253_1 := (HB.out.cell (World.block_lt_of_cell? w _ hx253_1)).trans hx253_1))
                     replace p253 := eq_true p253
                     replace q253 := eq_true q253
                     go_wp2_with (first | ((with_reducible refine gate_dst (N := 14) rfl ?_); refine box_event ?hg (N := 14) ?hd (cs := #[.int .i64 0, .int .i64 0]) (t := 32) ?hr ?_; (case hd => rfl); (case hg => rfl); (case hr => exact zf_); intro gb254 hg w27 hbox hb; have n_ := z (below_step za_ hb) <| z (hbox) <| z ((by rw [hg]; exact (below_size za_) : w.heap.size ≤ gb254)) <| z1 ((by rw [hg]; exact (below_size za_) : w.heap.size ≤ gb254)); clear HB; obtain ⟨HB, BK254, GW254, GE254⟩ := n_; clear hb hbox hg; have hcz28_0 : w27.cell? ⟨gb254, 0, none⟩ = some (.int .i64 0) := (blk_cell BK254.out 0).trans rfl; have hcz28_1 : w27.cell? ⟨gb254, 1, none⟩ = some (.int .i64 0) := (blk_cell BK254.out 1).trans rfl; have hfz28_0 := blk_frozen BK254.out 0; have hfz28_1 := blk_frozen BK254.out 1; have p255 : 0 ≤ (x50_5 : Int) := of_decide_eq_true zb_; have q255 : x50_5 < (l1.length : Int) := of_decide_eq_true zb_; obtain ⟨ad255, e255, hx255_0⟩ := Kd.at_int HR1.out x50_5 p255 q255; cases e255; have hn255_0 : ad255.block ≠ gb254 := Nat.ne_of_lt (Nat.lt_of_lt_of_le zec_ GW254.out); have hn255_1 : ad255.block ≠ gb254 := Nat.ne_of_lt (Nat.lt_of_lt_of_le zec_ GW254.out); replace hx255_0 := (HB.out.cell (World.block_lt_of_cell? w _ hx255_0)).trans hx255_0; replace hx255_0 := (cell_far (p := ⟨gb254, 0, none⟩) zge_ (.int .i64 ((rd_T32 l0 x50_5).f0))).trans hx255_0; replace hx255_0 := (cell_far (p := ⟨gb254, 1, none⟩) zgf_ (.int .i64 ((rd_T32 l0 x50_5).f1))).trans hx255_0; clear hn255_0 hn255_1; replace p255 := eq_true p255; replace q255 := eq_true q255) | (go_at_call 108; (with_reducible refine (spec_l1In.calls x11_4 ((rd_T32 l0 x50_5).f0) ((rd_T32 l0 x50_5).f1) true _ A25.out).mono ?_); rintro e w' ⟨rfl, ⟨nd, rfl⟩⟩) | ((with_reducible refine gate_dst (N := 72) rfl ?_); refine Kd.R_lit (Kd.int .u8) _ 5 ?hg (N := 72) ?hd (xs := ([(wrap64 (97 + x50_5)) % 256] : List Int)) (inner := [.int .u8 ((wrap64 (97 + x50_5)) % 256)]) (ok := fun _ => True) (okp := fun _ => True) ?hr ?hp (fun _ hk => hk) trivial (Below.refl _ _) (Nat.le_refl _) (by simp) ?_; (case hd => rfl); (case hg => rfl); (case hr => exact zf_); (case hp => exact (Reps.one (show Kd.M (Kd.int .u8) _ _ _ ((wrap64 (97 + x50_5)) % 256) [.int .u8 ((wrap64 (97 + x50_5)) % 256)] from rfl) (Reps.none _ _))); intro v258 w29 ho30 hb hg_ hnew_; clear hg_ hnew_; (first | rw [← Ny257.out] at ho30 | (simp only [Int.reduceToNat] at ho30; rw [← Ny257.out] at ho30)); have n_ := z (Kd.R_lower ho30 (below_size zeg_)) <| z (blk_below (g := gb254) (o := .cells #[.int .i64 ((rd_T32 l0 x50_5).f0), .int .i64 ((rd_T32 l0 x50_5).f1)] 32 (0, 0)) (by refine zb ?_; refine blk_put (cs := #[.int .i64 ((rd_T32 l0 x50_5).f0), .int .i64 0]) ?_ 1 _ rfl; refine zb ?_; refine blk_put (cs := #[.int .i64 0, .int .i64 0]) ?_ 0 _ rfl; refine zb ?_; exact BK254.out) hb) <| z1 (below_step zeg_ hb); clear BK254 HB; obtain ⟨HO259, BK254, HB⟩ := n_; clear hb ho30; have hcv31 := own_string (P := Try.prog) Try.underlying22 Try.underlying5 Try.underlying9 (Kd.own_of_R HO259.out)))
                     go_roundg k5
                     case measure => have := HJ2.out; have := HK2.out; have := HK3.out; have := HK4.out; have := HK5.out; omega
                     case rel => exact ⟨(strOfNums y257), (wrap64 (x50_5 + 1)), zc_, zc_, H', ⟨zci_⟩, ⟨zeg_⟩⟩
                    ·replace c26 := Bool.eq_false_iff.mpr c26
                     subst c26
                     have H1 : (spec_RoutingText.l3 k5 l0 l1 x6_2 x9_4 x10_3 x11_4 x12_5 l0 (l0.length : Int) (wrap64 (x50_5 + 1))) = some (r1, r2) := by rw [if_neg (show ¬ (false = true) by decide)] at H; exact H
                     clear H
                     have H := H1
                     clear H1
                     have H' := aM H
                     clear H
                     have p253 : 0 ≤ (x50_5 : Int) := of_decide_eq_true zb_
                     have q253 : x50_5 < (l0.length : Int) := of_decide_eq_true zb_
                     obtain ⟨ad253, e253, hx253_0, hx253_1⟩ := at_T32 HR0.out x50_5 p253 q253
                     cases e253
                     (try (replace hx253_0 := (HB.out.cell (World.block_lt_of_cell? w _ hx253_0)).trans hx253_0))
                     (try (replace hx253_1 := (HB.out.cell (World.block_lt_of_cell? w _ hx253_1)).trans hx253_1))
                     replace p253 := eq_true p253
                     replace q253 := eq_true q253
                     go_wp2_with (first | ((with_reducible refine gate_dst (N := 14) rfl ?_); refine box_event ?hg (N := 14) ?hd (cs := #[.int .i64 0, .int .i64 0]) (t := 32) ?hr ?_; (case hd => rfl); (case hg => rfl); (case hr => exact zf_); intro gb254 hg w32 hbox hb; have n_ := z (below_step za_ hb) <| z (hbox) <| z ((by rw [hg]; exact (below_size za_) : w.heap.size ≤ gb254)) <| z1 ((by rw [hg]; exact (below_size za_) : w.heap.size ≤ gb254)); clear HB; obtain ⟨HB, BK254, GW254, GE254⟩ := n_; clear hb hbox hg; have hcz33_0 : w32.cell? ⟨gb254, 0, none⟩ = some (.int .i64 0) := (blk_cell BK254.out 0).trans rfl; have hcz33_1 : w32.cell? ⟨gb254, 1, none⟩ = some (.int .i64 0) := (blk_cell BK254.out 1).trans rfl; have hfz33_0 := blk_frozen BK254.out 0; have hfz33_1 := blk_frozen BK254.out 1; have p255 : 0 ≤ (x50_5 : Int) := of_decide_eq_true zb_; have q255 : x50_5 < (l1.length : Int) := of_decide_eq_true zb_; obtain ⟨ad255, e255, hx255_0⟩ := Kd.at_int HR1.out x50_5 p255 q255; cases e255; have hn255_0 : ad255.block ≠ gb254 := Nat.ne_of_lt (Nat.lt_of_lt_of_le zec_ GW254.out); have hn255_1 : ad255.block ≠ gb254 := Nat.ne_of_lt (Nat.lt_of_lt_of_le zec_ GW254.out); replace hx255_0 := (HB.out.cell (World.block_lt_of_cell? w _ hx255_0)).trans hx255_0; replace hx255_0 := (cell_far (p := ⟨gb254, 0, none⟩) zge_ (.int .i64 ((rd_T32 l0 x50_5).f0))).trans hx255_0; replace hx255_0 := (cell_far (p := ⟨gb254, 1, none⟩) zgf_ (.int .i64 ((rd_T32 l0 x50_5).f1))).trans hx255_0; clear hn255_0 hn255_1; replace p255 := eq_true p255; replace q255 := eq_true q255) | (go_at_call 108; (with_reducible refine (spec_l1In.calls x11_4 ((rd_T32 l0 x50_5).f0) ((rd_T32 l0 x50_5).f1) false _ A25.out).mono ?_); rintro e w' ⟨rfl, ⟨nd, rfl⟩⟩))
                     go_roundg k5
                     case measure => have := HJ2.out; have := HK2.out; have := HK3.out; have := HK4.out; have := HK5.out; omega
                     case rel => exact ⟨(x12_5), (wrap64 (x50_5 + 1)), zc_, zc_, H', ⟨zci_⟩, ⟨zeg_⟩⟩
                   ·rw [if_neg c24] at H
                    have c24b0 : ((rd l1 x50_5) == x10_3) = false := beq_eq_false_iff_ne.mpr c24
                    have c24b1 : ((rd l1 x50_5) != x10_3) = true := bne_iff_ne.mpr c24
                    have H' := aM H
                    clear H
                    have p253 : 0 ≤ (x50_5 : Int) := of_decide_eq_true zb_
                    have q253 : x50_5 < (l0.length : Int) := of_decide_eq_true zb_
                    obtain ⟨ad253, e253, hx253_0, hx253_1⟩ := at_T32 HR0.out x50_5 p253 q253
                    cases e253
                    (try (replace hx253_0 := (HB.out.cell (World.block_lt_of_cell? w _ hx253_0)).trans hx253_0))
                    (try (replace hx253_1 := (HB.out.cell (World.block_lt_of_cell? w _ hx253_1)).trans hx253_1))
                    replace p253 := eq_true p253
                    replace q253 := eq_true q253
                    go_wp2_with (first | ((with_reducible refine gate_dst (N := 14) rfl ?_); refine box_event ?hg (N := 14) ?hd (cs := #[.int .i64 0, .int .i64 0]) (t := 32) ?hr ?_; (case hd => rfl); (case hg => rfl); (case hr => exact zf_); intro gb254 hg w34 hbox hb; have n_ := z (below_step za_ hb) <| z (hbox) <| z ((by rw [hg]; exact (below_size za_) : w.heap.size ≤ gb254)) <| z1 ((by rw [hg]; exact (below_size za_) : w.heap.size ≤ gb254)); clear HB; obtain ⟨HB, BK254, GW254, GE254⟩ := n_; clear hb hbox hg; have hcz35_0 : w34.cell? ⟨gb254, 0, none⟩ = some (.int .i64 0) := (blk_cell BK254.out 0).trans rfl; have hcz35_1 : w34.cell? ⟨gb254, 1, none⟩ = some (.int .i64 0) := (blk_cell BK254.out 1).trans rfl; have hfz35_0 := blk_frozen BK254.out 0; have hfz35_1 := blk_frozen BK254.out 1; have p255 : 0 ≤ (x50_5 : Int) := of_decide_eq_true zb_; have q255 : x50_5 < (l1.length : Int) := of_decide_eq_true zb_; obtain ⟨ad255, e255, hx255_0⟩ := Kd.at_int HR1.out x50_5 p255 q255; cases e255; have hn255_0 : ad255.block ≠ gb254 := Nat.ne_of_lt (Nat.lt_of_lt_of_le zec_ GW254.out); have hn255_1 : ad255.block ≠ gb254 := Nat.ne_of_lt (Nat.lt_of_lt_of_le zec_ GW254.out); replace hx255_0 := (HB.out.cell (World.block_lt_of_cell? w _ hx255_0)).trans hx255_0; replace hx255_0 := (cell_far (p := ⟨gb254, 0, none⟩) zge_ (.int .i64 ((rd_T32 l0 x50_5).f0))).trans hx255_0; replace hx255_0 := (cell_far (p := ⟨gb254, 1, none⟩) zgf_ (.int .i64 ((rd_T32 l0 x50_5).f1))).trans hx255_0; clear hn255_0 hn255_1; replace p255 := eq_true p255; replace q255 := eq_true q255))
                    go_roundg k5
                    case measure => have := HJ2.out; have := HK2.out; have := HK3.out; have := HK4.out; have := HK5.out; omega
                    case rel => exact ⟨(x12_5), (wrap64 (x50_5 + 1)), zc_, zc_, H', ⟨zci_⟩, ⟨zeg_⟩⟩
                  ·rw [if_neg c23] at H
                   exact absurd H (by simp)
                 ·rw [if_neg c22] at H
                  exact absurd H (by simp)
                ·rw [if_neg c21] at H
                 exact absurd H (by simp)
               ·rw [if_neg c20] at H
                have c20b0 : decide (x50_5 < (l0.length : Int)) = false := decide_eq_false c20
                clear c20
                by_cases c36 : x9_4.size + x12_5.size ≤ 9223372036854775807
                ·rw [if_pos c36] at H
                 have c36b0 := eq_true c36
                 have c36b1 : decide (x9_4.size + x12_5.size ≤ 9223372036854775807) = true := decide_eq_true c36
                 try have c36b2 : (9223372036854775807 < x9_4.size + x12_5.size) = False := eq_false (Nat.not_lt.2 c36)
                 have H' := aM H
                 clear H
                 go_wp2
                 go_roundg k5
                 case measure => have := HJ2.out; have := HK2.out; have := HK3.out; have := HK4.out; have := HK5.out; omega
                 case rel => exact ⟨(x9_4 ++ x12_5), (wrap64 (x11_4 + 1)), zc_, zc_, H', ⟨zci_⟩, ⟨za_⟩⟩
                ·rw [if_neg c36] at H
                 exact absurd H (by simp)
            ·rw [if_neg c19] at H
             have c19b0 : decide (x11_4 < x6_2) = false := decide_eq_false c19
             clear c19
             by_cases c37 : x9_4.size + 1 ≤ 9223372036854775807
             ·rw [if_pos c37] at H
              have c37b0 := eq_true c37
              have c37b1 : decide (x9_4.size + 1 ≤ 9223372036854775807) = true := decide_eq_true c37
              try have c37b2 : (9223372036854775807 < x9_4.size + 1) = False := eq_false (Nat.not_lt.2 c37)
              have H' := aM H
              clear H
              go_wp2
              go_roundg k4
              case measure => have := HJ2.out; have := HK2.out; have := HK3.out; have := HK4.out; omega
              case rel => exact ⟨(x9_4 ++ (⟨#[10]⟩ : ByteArray)), (wrap64 (x10_3 + 1)), zc_, zc_, H', ⟨by have := HJ2.out; have := HK2.out; have := HK3.out; have := HK4.out; omega⟩, ⟨za_⟩⟩
             ·rw [if_neg c37] at H
              exact absurd H (by simp)
         ·rw [if_neg c18] at H
          have c18b0 : decide (x10_3 < t252) = false := decide_eq_false c18
          clear c18
          simp only [Option.some.injEq, Prod.mk.injEq] at H
          obtain ⟨rfl, rfl⟩ := H
          go_wp2_with (first | ((with_reducible refine gate_callee (f := 107) rfl ?_); refine goesL_ (some 39) rfl rfl Try.func107 (by kernel_rfl) rfl #[.slice A1 l1.length c1] rfl zd_ ?_; (with_reducible refine (spec_rtTop.calls k3 _ _ l1 t252 _ ?side1 ?side2 A17.out).mono ?_); (case side1 => exact zbb_); (case side2 => exact HC1.out); rintro e w' ⟨rfl, ⟨nd, rfl⟩⟩; refine ⟨_, rfl, ?_⟩))
          go_ret2
          exact ⟨zg_, za_⟩
def spec_DrawFreeTracks.f (k : Nat) (l0 : List Int) : Option ((List (S32)) × List Int × Int × Int) := (spec_l1Cur_routed.f k l0 0 0).bind fun bt262 => ((spec_l1Cur_pick.f l0 bt262.2.2.1 bt262.2.2.2 20).bind fun bt270 => ((spec_l1Cur_among.f l0 bt270.2.1 bt270.2.2 (([0, 2, 6, wrap64 (50 - bt270.1), wrap64 (51 - bt270.1), (-1)] : List Int))).bind fun bt276 => (some (bt262.1, bt262.2.1, bt270.1, wrap64 (bt270.1 + bt276.1)))))
theorem spec_DrawFreeTracks.calls (k : Nat) (A0 : Option Addr) (c0 : Nat) (l0 : List Int) (r1 : List (S32)) (r2 : List Int) (r3 : Int) (r4 : Int) (w : World) (hr0 : Kd.C (Kd.int .u8) w A0 l0.length l0) (hc0 : l0.length ≤ c0) (h : spec_DrawFreeTracks.f k l0 = some (r1, r2, r3, r4)) :
  Calls Try.prog 14 #[.slice A0 l0.length c0] w fun e w' => ∃ v0_ v1_ : Value, e = .returned (.tuple #[v0_, v1_, .agg #[.int .i64 r3, .int .i64 r4]]) ∧ Kd.R k32 32 w' w.heap.size (fun _ => True) v0_ r1 ∧ Kd.Q (Kd.int .i64) 3 w' w.heap.size (fun _ => True) v1_ r2 ∧ Below w.heap.size w w' := by
 have hu32 := Try.underlying32
 have hu111 := Try.underlying111
 have HR0 := aM hr0
 have HC0 := aM hc0
 clear hr0 hc0
 have HB := aM (Below.refl w.heap.size w)
 have H : ((spec_l1Cur_routed.f k l0 0 0).bind fun bt262 => ((spec_l1Cur_pick.f l0 bt262.2.2.1 bt262.2.2.2 20).bind fun bt270 => ((spec_l1Cur_among.f l0 bt270.2.1 bt270.2.2 (([0, 2, 6, wrap64 (50 - bt270.1), wrap64 (51 - bt270.1), (-1)] : List Int))).bind fun bt276 => (some (bt262.1, bt262.2.1, bt270.1, wrap64 (bt270.1 + bt276.1)))))) = some (r1, r2, r3, r4) := h
 clear h
 replace H := oB.mp H
 obtain ⟨⟨t262, t265, t268, t269⟩, A20, H⟩ := H
 replace H : ((spec_l1Cur_pick.f l0 t268 t269 20).bind fun bt270 => ((spec_l1Cur_among.f l0 bt270.2.1 bt270.2.2 (([0, 2, 6, wrap64 (50 - bt270.1), wrap64 (51 - bt270.1), (-1)] : List Int))).bind fun bt276 => (some (t262, t265, bt270.1, wrap64 (bt270.1 + bt276.1))))) = some (r1, r2, r3, r4) := H
 have A2 := aM A20
 clear A20
 replace H := oB.mp H
 obtain ⟨⟨t270, t271, t272⟩, A30, H⟩ := H
 replace H : ((spec_l1Cur_among.f l0 t271 t272 (([0, 2, 6, wrap64 (50 - t270), wrap64 (51 - t270), (-1)] : List Int))).bind fun bt276 => (some (t262, t265, t270, wrap64 (t270 + bt276.1)))) = some (r1, r2, r3, r4) := H
 have A3 := aM A30
 clear A30
 obtain ⟨y273, hy273⟩ : ∃ y_ : List Int, y_ = (([0, 2, 6, wrap64 (50 - t270), wrap64 (51 - t270), (-1)] : List Int)) := ⟨_, rfl⟩
 replace H : ((spec_l1Cur_among.f l0 t271 t272 y273).bind fun bt276 => (some (t262, t265, t270, wrap64 (t270 + bt276.1)))) = some (r1, r2, r3, r4) := by first | (rw [hy273]; with_reducible exact H) | (have H2_ := (oS _ _).symm.trans H; rw [hy273]; with_reducible exact H2_) | (have H2_ := (oS _ _).symm.trans H; with_reducible exact H2_) | with_reducible exact H | (rw [hy273]; exact H) | exact H
 have Ny273 := aM hy273
 clear hy273
 replace H := oB.mp H
 obtain ⟨⟨t276, t277, t278⟩, A40, H⟩ := H
 replace H : (some (t262, t265, t270, wrap64 (t270 + t276))) = some (r1, r2, r3, r4) := H
 have A4 := aM A40
 clear A40
 simp only [Option.some.injEq, Prod.mk.injEq] at H
 obtain ⟨rfl, rfl, rfl, rfl⟩ := H
 go_enter Try.func14, Try.ntmps14
 go_wp2_with (first | ((with_reducible refine gate_dst (N := 4) rfl ?_); refine box_event ?hg (N := 4) ?hd (cs := #[.int .i64 0, .int .i64 0]) (t := 32) ?hr ?_; (case hd => rfl); (case hg => rfl); (case hr => exact zf_); intro gb260 hg w5 hbox hb; have n_ := z (below_step za_ hb) <| z (hbox) <| z ((by rw [hg]; exact (below_size za_) : w.heap.size ≤ gb260)) <| z1 ((by rw [hg]; exact (below_size za_) : w.heap.size ≤ gb260)); clear HB; obtain ⟨HB, BK260, GW260, GE260⟩ := n_; clear hb hbox hg) | ((with_reducible refine gate_dst (N := 11) rfl ?_); refine box_event ?hg (N := 11) ?hd (cs := #[.slice A0 l0.length c0, .int .i64 0, .int .u64 0]) (t := 111) ?hr ?_; (case hd => rfl); (case hg => rfl); (case hr => exact zf_); intro gb261 hg w6 hbox hb; have n_ := z (blk_below (g := gb260) (o := .cells #[.int .i64 0, .int .i64 0] 32 (0, 0)) (zb BK260.out) hb) <| z (below_step zfh_ hb) <| z ((by rw [hg]; exact (below_size zfh_) : w.heap.size ≤ gb261)) <| z ((by rw [hg]; exact (below_size zfh_) : w.heap.size ≤ gb261)) <| z ((by rw [hg]; exact Nat.ne_of_lt (blk_lt (g := gb260) (o := .cells #[.int .i64 0, .int .i64 0] 32 (0, 0)) (zb BK260.out)) : gb260 ≠ gb261)) <| z ((by rw [hg]; exact Nat.ne_of_gt (blk_lt (g := gb260) (o := .cells #[.int .i64 0, .int .i64 0] 32 (0, 0)) (zb BK260.out)) : gb261 ≠ gb260)) <| z1 ((⟨_, _, hbox, (by rw [hg]; exact (below_size zfh_) : w.heap.size ≤ gb261), HR0.out⟩ : IsS111 w w6 gb261 l0 0 0)); clear BK260 HB; obtain ⟨BK260, HB, GW261, GE261, NB260_261, NB261_260, HI261⟩ := n_; clear hb hbox hg) | ((with_reducible refine gate_callee (f := 100) rfl ?_); refine goesL_ (some 14) rfl rfl Try.func100 (by kernel_rfl) rfl #[.pointer (some ⟨gb261, 0, none⟩)] rfl zd_ ?_; (with_reducible refine (spec_l1Cur_routed.calls k gb261 l0 0 0 t262 t265 t268 t269 w _ ?side1 ?side2 A2.out).mono ?_); (case side1 => exact zfi_); (case side2 => exact zdc_); rintro e w7 ⟨v263, v266, rfl, ho0, ho1, hi, hb, hk⟩; refine ⟨_, rfl, ?_⟩; have n_ := z (KeepBut.blk hk (g' := gb260) (o := .cells #[.int .i64 0, .int .i64 0] 32 (0, 0)) (zb BK260.out) NB260_261.out (by simp)) <| z (Kd.R_lower (Kd.R_newB ho0 (g := gb260) (o := .cells #[.int .i64 0, .int .i64 0] 32 (0, 0)) (zb BK260.out)) (below_size zdc_)) <| z (Kd.Q_lower ho1 (below_size zdc_)) <| z (hb) <| z1 (hi); clear BK260 HB HI261; obtain ⟨BK260, HO264, HO267, HB, HI261⟩ := n_; (try clear hb); (try clear hk); (try clear hi); (try clear ho0); (try clear ho1)) | ((with_reducible refine gate_callee (f := 109) rfl ?_); refine goesL_ (some 18) rfl rfl Try.func109 (by kernel_rfl) rfl #[.pointer (some ⟨gb261, 0, none⟩), .int .i64 20] rfl zd_ ?_; (with_reducible refine (spec_l1Cur_pick.calls gb261 l0 t268 t269 20 t270 t271 t272 w _ ?side1 ?side2 A3.out).mono ?_); (case side1 => exact zfi_); (case side2 => exact zdc_); rintro e w8 ⟨rfl, hi, hb, hk⟩; refine ⟨_, rfl, ?_⟩; have n_ := z (KeepBut.blk hk (g' := gb260) (o := .cells #[.int .i64 0, .int .i64 0] 32 (0, 0)) (zb BK260.out) NB260_261.out (by simp)) <| z (Kd.R_mono (Kd.R_keep (IsS111.apart (show IsS111 w _ gb261 l0 t268 t269 from by repeat (first | (with_reducible first | exact HI261.out | apply IsS111.alloc | apply IsS111.drewN | apply IsS111.drew | apply IsS111.set_1 | apply IsS111.set_2 | refine IsS111.far ?_ NB261_260.out _) | exact HI261.out)) (zr HO264.out) (by decide)) hk (fun _ h => h.2)) (fun _ h => h.1)) <| z (Kd.Q_mono (Kd.Q_keep (IsS111.apartQ (show IsS111 w _ gb261 l0 t268 t269 from by repeat (first | (with_reducible first | exact HI261.out | apply IsS111.alloc | apply IsS111.drewN | apply IsS111.drew | apply IsS111.set_1 | apply IsS111.set_2 | refine IsS111.far ?_ NB261_260.out _) | exact HI261.out)) (zq HO267.out) (by decide)) hk (fun _ h => h.2)) (fun _ h => h.1)) <| z (hb) <| z1 (hi); clear BK260 HO264 HO267 HB HI261; obtain ⟨BK260, HO264, HO267, HB, HI261⟩ := n_; (try clear hb); (try clear hk); (try clear hi)) | ((with_reducible refine gate_dst (N := 28) rfl ?_); refine Kd.R_lit (Kd.int .i64) _ 3 ?hg (N := 28) ?hd (xs := ([0, 2, 6, wrap64 (50 - t270), wrap64 (51 - t270), (-1)] : List Int)) (inner := [.int .i64 0, .int .i64 2, .int .i64 6, .int .i64 (wrap64 (50 - t270)), .int .i64 (wrap64 (51 - t270)), .int .i64 (-1)]) (ok := fun _ => True) (okp := fun _ => True) ?hr ?hp (fun _ hk => hk) trivial (Below.refl _ _) (Nat.le_refl _) (by simp) ?_; (case hd => rfl); (case hg => rfl); (case hr => exact zf_); (case hp => exact (Reps.one (show Kd.M (Kd.int .i64) _ _ _ 0 [.int .i64 0] from rfl) (Reps.one (show Kd.M (Kd.int .i64) _ _ _ 2 [.int .i64 2] from rfl) (Reps.one (show Kd.M (Kd.int .i64) _ _ _ 6 [.int .i64 6] from rfl) (Reps.one (show Kd.M (Kd.int .i64) _ _ _ (wrap64 (50 - t270)) [.int .i64 (wrap64 (50 - t270))] from rfl) (Reps.one (show Kd.M (Kd.int .i64) _ _ _ (wrap64 (51 - t270)) [.int .i64 (wrap64 (51 - t270))] from rfl) (Reps.one (show Kd.M (Kd.int .i64) _ _ _ (-1) [.int .i64 (-1)] from rfl) (Reps.none _ _)))))))); intro v274 w9 ho10 hb hg_ hnew_; clear hg_ hnew_; (first | rw [← Ny273.out] at ho10 | (simp only [Int.reduceToNat] at ho10; rw [← Ny273.out] at ho10)); have n_ := z (Kd.R_below (zr HO264.out) hb) <| z (Kd.Q_elder' (zq HO267.out) (Kd.R_base ho10) hb) <| z (Kd.R_lower (Kd.R_new' ho10 (Kd.Q_lt (zq HO267.out))) (below_size zdc_)) <| z (blk_below (g := gb260) (o := .cells #[.int .i64 0, .int .i64 0] 32 (0, 0)) (zb BK260.out) hb) <| z (IsS111.below zfi_ hb) <| z1 (below_step zdc_ hb); clear HO264 HO267 BK260 HI261 HB; obtain ⟨HO264, HO267, HO275, BK260, HI261, HB⟩ := n_; clear hb ho10; obtain ⟨Ao11, co11, eo11⟩ := Kd.R_slice HO275.out; subst eo11) | ((with_reducible refine gate_callee (f := 110) rfl ?_); refine goesL_ (some 29) rfl rfl Try.func110 (by kernel_rfl) rfl #[.pointer (some ⟨gb261, 0, none⟩), .slice Ao11 y273.length co11] rfl zd_ ?_; (with_reducible refine (spec_l1Cur_among.calls gb261 l0 t271 t272 _ _ y273 t276 t277 t278 w _ ?side1 ?side2 ?side3 ?side4 ?side5 A4.out).mono ?_); (case side1 => exact zfi_); (case side2 => exact zdc_); (case side3 => repeat (first | exact (Kd.R_reads' HO275.out).2.2 | (with_reducible refine cA ?_ _) | (with_reducible refine cN ?_ _) | (with_reducible refine cD ?_))); (case side4 => exact (Kd.R_reads' HO275.out).2.1); (case side5 => exact far_slice (IsS111.own_ne HI261.out HO275.out (by decide))); rintro e w12 ⟨rfl, hi, hb, hk⟩; refine ⟨_, rfl, ?_⟩; have n_ := z (KeepBut.blk hk (g' := gb260) (o := .cells #[.int .i64 0, .int .i64 0] 32 (0, 0)) (zb BK260.out) NB260_261.out (by simp)) <| z (Kd.R_mono (Kd.R_keep (IsS111.apart (show IsS111 w _ gb261 l0 t271 t272 from by repeat (first | (with_reducible first | exact HI261.out | apply IsS111.alloc | apply IsS111.drewN | apply IsS111.drew | apply IsS111.set_1 | apply IsS111.set_2 | refine IsS111.far ?_ NB261_260.out _) | exact HI261.out)) (zr HO264.out) (by decide)) hk (fun _ h => h.2)) (fun _ h => h.1)) <| z (Kd.Q_mono (Kd.Q_keep (IsS111.apartQ (show IsS111 w _ gb261 l0 t271 t272 from by repeat (first | (with_reducible first | exact HI261.out | apply IsS111.alloc | apply IsS111.drewN | apply IsS111.drew | apply IsS111.set_1 | apply IsS111.set_2 | refine IsS111.far ?_ NB261_260.out _) | exact HI261.out)) (zq HO267.out) (by decide)) hk (fun _ h => h.2)) (fun _ h => h.1)) <| z (Kd.R_mono (Kd.R_keep (IsS111.apart (show IsS111 w _ gb261 l0 t271 t272 from by repeat (first | (with_reducible first | exact HI261.out | apply IsS111.alloc | apply IsS111.drewN | apply IsS111.drew | apply IsS111.set_1 | apply IsS111.set_2 | refine IsS111.far ?_ NB261_260.out _) | exact HI261.out)) (zr HO275.out) (by decide)) hk (fun _ h => h.2)) (fun _ h => h.1)) <| z (hb) <| z1 (hi); clear BK260 HO264 HO267 HO275 HB HI261; obtain ⟨BK260, HO264, HO267, HO275, HB, HI261⟩ := n_; (try clear hb); (try clear hk); (try clear hi); have hnb13 := NB260_261.out; have hnc13 := NB261_260.out; have hcz14_0 : w12.cell? ⟨gb260, 0, none⟩ = some (.int .i64 0) := (blk_cell BK260.out 0).trans rfl; have hcz14_1 : w12.cell? ⟨gb260, 1, none⟩ = some (.int .i64 0) := (blk_cell BK260.out 1).trans rfl; have hfz14_0 := blk_frozen BK260.out 0; have hfz14_1 := blk_frozen BK260.out 1))
 refine bodyPost_ret (results_list (rs := [.tmp 2, .tmp 3, .cell 4 32]) rfl (by simp) (.tmp (.tmp (.cell gb260 32 #[.int .i64 t270, .int .i64 (wrap64 (t270 + t276))] (0, 0) _ rfl (by refine zb ?_; refine blk_put (cs := #[.int .i64 t270, .int .i64 0]) ?_ 1 _ rfl; refine zb ?_; refine blk_put (cs := #[.int .i64 0, .int .i64 0]) ?_ 0 _ rfl; refine zb ?_; exact BK260.out) Try.underlying32 rfl (by kernel_rfl) .nil)))) rfl ?_
 exact ⟨_, _, zg_, by refine zr ?_; exact Kd.R_mono (Kd.R_far (p := ⟨gb260, 1, none⟩) (Kd.R_far (p := ⟨gb260, 0, none⟩) (Kd.R_mono HO264.out (fun k_ hk => (⟨hk, hk.2⟩ : _ ∧ k_ ≠ gb260))) (fun _ hk => hk.2) (.int .i64 t270)) (fun _ hk => hk.2) (.int .i64 (wrap64 (t270 + t276)))) (fun _ hk => trivial), by refine zq ?_; exact Kd.Q_mono (Kd.Q_far (p := ⟨gb260, 1, none⟩) (Kd.Q_far (p := ⟨gb260, 0, none⟩) (Kd.Q_types HO267.out BK260.out (by decide)) (fun _ hk => hk.2) (.int .i64 t270)) (fun _ hk => hk.2) (.int .i64 (wrap64 (t270 + t276)))) (fun _ hk => trivial), zdc_⟩
end Go.Proofs.Ytbkighlfgaifeaa.QFnTracks
