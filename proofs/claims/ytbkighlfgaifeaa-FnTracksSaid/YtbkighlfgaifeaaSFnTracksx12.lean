/- Functions of the law FnTracks, each as a Lean function, and the proofs that the Go code comes to their answers. Made by wip/gen/slim.py. Conditions: those of each theorem. -/
import Derived.Test.YtbkighlfgaifeaaSFnTracksx0
import Derived.Test.YtbkighlfgaifeaaSFnTracksx1
import Derived.Test.YtbkighlfgaifeaaSFnTracksx3
import Derived.Test.YtbkighlfgaifeaaSFnTracksx5
import Derived.Test.YtbkighlfgaifeaaSFnTracksx7
import Derived.Test.YtbkighlfgaifeaaSFnTracksx8
import Derived.Test.YtbkighlfgaifeaaSFnTracksx9
import Derived.Test.YtbkighlfgaifeaaSFnTracksx10
namespace Go.Proofs.Ytbkighlfgaifeaa.QFnTracks
open Go.RowKit Go.Proofs.YtbkighlfgaifeaaW.PrintWords Go.Proofs.YtbkighlfgaifeaaW.PrintLast Go.Proofs.YtbkighlfgaifeaaW.PrintMore
open Go.Proofs.YtbkighlfgaifeaaW.PrintWords renaming pw_below_drewN → pN, below_drew1 → p1, below_alloc → pA
open Go.Proofs.YtbkighlfgaifeaaW.PrintWords.Kd renaming R_alloc → kA, R_drewN → kN, R_drew → kD, Q_alloc → qA, Q_drewN → qN, Q_drew → qD, C_alloc → cA, C_drewN → cN, C_drew → cD
open Go.Proofs.YtbkighlfgaifeaaW.PrintWords.Aside0 renaming mk → aM
open List renaming setIfInBounds_toArray → sI, set_cons_zero → s0, set_cons_succ → sS, map_toArray → mT, length_take → lT, length_drop → lD, map_cons → mC, map_nil → mN
open Option renaming bind_eq_some_iff → oB, bind_some → oS
attribute [local go_sem] max2_int min2_int max_two min_two max_three min_three max_four min_four
set_option maxHeartbeats 8000000
set_option maxRecDepth 100000
set_option linter.unusedVariables false
set_option linter.unusedSimpArgs false
mutual
def spec_FreeTracks.j0 : Nat → List (S32) → List Int → Bool → Int → Int → Option (List Int × Bool)
 | 0, _, _, _, _, _ => none
 | k + 1, x0, x1, x27, x296000, x296001 => if x27 = true then (some (([] : List Int), false)) else (spec_FreeTracks.l0 k x0 x1 ([] : List Int) 0 x296000 x296001)
def spec_FreeTracks.l0 : Nat → List (S32) → List Int → List Int → Int → Int → Int → Option (List Int × Bool)
 | 0, _, _, _, _, _, _ => none
 | k + 1, x0, x1, x8, x9, x296000, x296001 => (spec_rtTop.f k x1).bind fun t299 => (if x9 < t299 then (spec_FreeTracks.l1 k x0 x1 x8 x9 true x0 (x0.length : Int) 0 x296000 x296001) else (some (x8, true)))
def spec_FreeTracks.l1 : Nat → List (S32) → List Int → List Int → Int → Bool → List (S32) → Int → Int → Int → Int → Option (List Int × Bool)
 | 0, _, _, _, _, _, _, _, _, _, _ => none
 | k + 1, x0, x1, x8, x9, x10, x34, x35, x36, x296000, x296001 => if x36 < x35 then (if 0 ≤ x36 then (if x36 < (x34.length : Int) then (if x10 = true then (if x36 < (x1.length : Int) then (if (rd x1 x36) = x9 then ((spec_rtMeet.f ((rd_T32 x34 x36).f0) ((rd_T32 x34 x36).f1) x296000 x296001).bind fun t303 => (spec_FreeTracks.l1 k x0 x1 x8 x9 (!t303) x34 x35 (wrap64 (x36 + 1)) x296000 x296001)) else (spec_FreeTracks.l1 k x0 x1 x8 x9 true x34 x35 (wrap64 (x36 + 1)) x296000 x296001)) else (none)) else (spec_FreeTracks.l1 k x0 x1 x8 x9 false x34 x35 (wrap64 (x36 + 1)) x296000 x296001)) else (none)) else (none)) else (if x10 = true then (if x8.length < 17592186044416 then (spec_FreeTracks.l0 k x0 x1 (x8 ++ [x9]) (wrap64 (x9 + 1)) x296000 x296001) else (none)) else (spec_FreeTracks.l0 k x0 x1 x8 (wrap64 (x9 + 1)) x296000 x296001))
end
def spec_FreeTracks.f (k : Nat) (l0 : List (S32)) (l1 : List Int) (a2_0 : Int) (a2_1 : Int) : Option (List Int × Bool) := (spec_rtAsked.f k l0 l1).bind fun t296 => (if t296 = true then ((spec_rtRouting.f k l0 l1).bind fun t297 => (if t297 = true then ((spec_rtWire.f a2_0 a2_1).bind fun t298 => (spec_FreeTracks.j0 k l0 l1 (!t298) a2_0 a2_1)) else (spec_FreeTracks.j0 k l0 l1 true a2_0 a2_1))) else (spec_FreeTracks.j0 k l0 l1 true a2_0 a2_1))
theorem spec_FreeTracks.calls (k : Nat) (A0 : Option Addr) (c0 : Nat) (l0 : List (S32)) (A1 : Option Addr) (c1 : Nat) (l1 : List Int) (a2_0 : Int) (a2_1 : Int) (r1 : List Int) (r2 : Bool) (w : World) (hr0 : Kd.C k32 w A0 l0.length l0) (hc0 : l0.length ≤ c0) (hr1 : Kd.C (Kd.int .i64) w A1 l1.length l1) (hc1 : l1.length ≤ c1) (h : spec_FreeTracks.f k l0 l1 a2_0 a2_1 = some (r1, r2)) :
  Calls Try.prog 16 #[.slice A0 l0.length c0, .slice A1 l1.length c1, .agg #[.int .i64 a2_0, .int .i64 a2_1]] w fun e w' => ∃ v0_ : Value, e = .returned (.tuple #[v0_, .bool r2]) ∧ Kd.R (Kd.int .i64) 3 w' w.heap.size (fun _ => True) v0_ r1 ∧ Below w.heap.size w w' := by
 have hu32 := Try.underlying32
 have HR0 := aM hr0
 have HC0 := aM hc0
 clear hr0 hc0
 have HR1 := aM hr1
 have HC1 := aM hc1
 clear hr1 hc1
 have HB := aM (Below.refl w.heap.size w)
 have H : ((spec_rtAsked.f k l0 l1).bind fun t296 => (if t296 = true then ((spec_rtRouting.f k l0 l1).bind fun t297 => (if t297 = true then ((spec_rtWire.f a2_0 a2_1).bind fun t298 => (spec_FreeTracks.j0 k l0 l1 (!t298) a2_0 a2_1)) else (spec_FreeTracks.j0 k l0 l1 true a2_0 a2_1))) else (spec_FreeTracks.j0 k l0 l1 true a2_0 a2_1))) = some (r1, r2) := h
 clear h
 have HC4 := aM H
 clear H
 go_enter Try.func16, Try.ntmps16
 go_upto_region 1 with (first | ((with_reducible refine gate_dst (N := 5) rfl ?_); refine box_event ?hg (N := 5) ?hd (cs := #[.int .i64 a2_0, .int .i64 a2_1]) (t := 32) ?hr ?_; (case hd => rfl); (case hg => rfl); (case hr => exact zf_); intro gb295 hg w5 hbox hb; have n_ := z (below_step za_ hb) <| z (hbox) <| z ((by rw [hg]; exact (below_size za_) : w.heap.size ≤ gb295)) <| z1 ((by rw [hg]; exact (below_size za_) : w.heap.size ≤ gb295)); clear HB; obtain ⟨HB, BK295, GW295, GE295⟩ := n_; clear hb hbox hg))
 (try simp only [Act.put, sI, s0, sS])
 go_cut [27] (fun v27 wc => ∃ (kq : Nat) (x27_3 : Bool), v27 = .bool x27_3 ∧ Aside0 (spec_FreeTracks.j0 kq l0 l1 x27_3 a2_0 a2_1 = some (r1, r2)) ∧ Aside0 (kq ≤ k) ∧ Aside0 (wc.heap[gb295]? = some (.cells #[.int .i64 a2_0, .int .i64 a2_1] 32 (0, 0))) ∧ Aside0 (Below w.heap.size w wc))
 case first =>
  have H := HC4.out
  clear HC4
  replace H := oB.mp H
  obtain ⟨t296, A60, H⟩ := H
  replace H : (if t296 = true then ((spec_rtRouting.f k l0 l1).bind fun t297 => (if t297 = true then ((spec_rtWire.f a2_0 a2_1).bind fun t298 => (spec_FreeTracks.j0 k l0 l1 (!t298) a2_0 a2_1)) else (spec_FreeTracks.j0 k l0 l1 true a2_0 a2_1))) else (spec_FreeTracks.j0 k l0 l1 true a2_0 a2_1)) = some (r1, r2) := H
  have A6 := aM A60
  clear A60
  by_cases c7 : t296 = true
  ·subst c7
   have H1 : ((spec_rtRouting.f k l0 l1).bind fun t297 => (if t297 = true then ((spec_rtWire.f a2_0 a2_1).bind fun t298 => (spec_FreeTracks.j0 k l0 l1 (!t298) a2_0 a2_1)) else (spec_FreeTracks.j0 k l0 l1 true a2_0 a2_1))) = some (r1, r2) := by rw [if_pos rfl] at H; exact H
   clear H
   have H := H1
   clear H1
   replace H := oB.mp H
   obtain ⟨t297, A80, H⟩ := H
   replace H : (if t297 = true then ((spec_rtWire.f a2_0 a2_1).bind fun t298 => (spec_FreeTracks.j0 k l0 l1 (!t298) a2_0 a2_1)) else (spec_FreeTracks.j0 k l0 l1 true a2_0 a2_1)) = some (r1, r2) := H
   have A8 := aM A80
   clear A80
   by_cases c9 : t297 = true
   ·subst c9
    have H1 : ((spec_rtWire.f a2_0 a2_1).bind fun t298 => (spec_FreeTracks.j0 k l0 l1 (!t298) a2_0 a2_1)) = some (r1, r2) := by rw [if_pos rfl] at H; exact H
    clear H
    have H := H1
    clear H1
    replace H := oB.mp H
    obtain ⟨t298, A100, H⟩ := H
    replace H : (spec_FreeTracks.j0 k l0 l1 (!t298) a2_0 a2_1) = some (r1, r2) := H
    have A10 := aM A100
    clear A100
    have H' := aM H
    clear H
    go_wp2_with (first | ((with_reducible refine gate_callee (f := 103) rfl ?_); refine goesL_ (some 15) rfl rfl Try.func103 (by kernel_rfl) rfl #[.slice A0 l0.length c0, .slice A1 l1.length c1] rfl zd_ ?_; (with_reducible refine (spec_rtAsked.calls k _ _ l0 _ _ l1 true _ ?side1 ?side2 ?side3 ?side4 A6.out).mono ?_); (case side1 => exact zbe_); (case side2 => exact HC0.out); (case side3 => exact zbb_); (case side4 => exact HC1.out); rintro e w11 ⟨rfl, hb⟩; refine ⟨_, rfl, ?_⟩; have n_ := z (blk_below (g := gb295) (o := .cells #[.int .i64 a2_0, .int .i64 a2_1] 32 (0, 0)) (zb BK295.out) hb) <| z1 (below_step zbf_ hb); clear BK295 HB; obtain ⟨BK295, HB⟩ := n_; (try clear hb)) | (go_at_call 104; (with_reducible refine (spec_rtRouting.calls k _ _ l0 _ _ l1 true _ ?side1 ?side2 ?side3 ?side4 A8.out).mono ?_); (case side1 => exact zbe_); (case side2 => exact HC0.out); (case side3 => exact zbb_); (case side4 => exact HC1.out); rintro e w12 ⟨rfl, hb⟩; have n_ := z (blk_below (g := gb295) (o := .cells #[.int .i64 a2_0, .int .i64 a2_1] 32 (0, 0)) (zb BK295.out) hb) <| z1 (below_step zbf_ hb); clear BK295 HB; obtain ⟨BK295, HB⟩ := n_; (try clear hb); have hcz13_0 : w12.cell? ⟨gb295, 0, none⟩ = some (.int .i64 a2_0) := (blk_cell BK295.out 0).trans rfl; have hcz13_1 : w12.cell? ⟨gb295, 1, none⟩ = some (.int .i64 a2_1) := (blk_cell BK295.out 1).trans rfl; have hfz13_0 := blk_frozen BK295.out 0; have hfz13_1 := blk_frozen BK295.out 1) | (go_at_call 113; (with_reducible refine (spec_rtWire.calls a2_0 a2_1 t298 _ A10.out).mono ?_); rintro e w14 ⟨rfl, hb⟩; have n_ := z (blk_below (g := gb295) (o := .cells #[.int .i64 a2_0, .int .i64 a2_1] 32 (0, 0)) (zb BK295.out) hb) <| z1 (below_step zbf_ hb); clear BK295 HB; obtain ⟨BK295, HB⟩ := n_; (try clear hb)))
    go_meet
    case rel => exact ⟨_, (!t298), zc_, H', ⟨zbg_⟩, ⟨zb BK295.out⟩, ⟨zbf_⟩⟩
   ·replace c9 := Bool.eq_false_iff.mpr c9
    subst c9
    have H1 : (spec_FreeTracks.j0 k l0 l1 true a2_0 a2_1) = some (r1, r2) := by rw [if_neg (show ¬ (false = true) by decide)] at H; exact H
    clear H
    have H := H1
    clear H1
    have H' := aM H
    clear H
    go_wp2_with (first | ((with_reducible refine gate_callee (f := 103) rfl ?_); refine goesL_ (some 15) rfl rfl Try.func103 (by kernel_rfl) rfl #[.slice A0 l0.length c0, .slice A1 l1.length c1] rfl zd_ ?_; (with_reducible refine (spec_rtAsked.calls k _ _ l0 _ _ l1 true _ ?side1 ?side2 ?side3 ?side4 A6.out).mono ?_); (case side1 => exact zbe_); (case side2 => exact HC0.out); (case side3 => exact zbb_); (case side4 => exact HC1.out); rintro e w15 ⟨rfl, hb⟩; refine ⟨_, rfl, ?_⟩; have n_ := z (blk_below (g := gb295) (o := .cells #[.int .i64 a2_0, .int .i64 a2_1] 32 (0, 0)) (zb BK295.out) hb) <| z1 (below_step zbf_ hb); clear BK295 HB; obtain ⟨BK295, HB⟩ := n_; (try clear hb)) | (go_at_call 104; (with_reducible refine (spec_rtRouting.calls k _ _ l0 _ _ l1 false _ ?side1 ?side2 ?side3 ?side4 A8.out).mono ?_); (case side1 => exact zbe_); (case side2 => exact HC0.out); (case side3 => exact zbb_); (case side4 => exact HC1.out); rintro e w16 ⟨rfl, hb⟩; have n_ := z (blk_below (g := gb295) (o := .cells #[.int .i64 a2_0, .int .i64 a2_1] 32 (0, 0)) (zb BK295.out) hb) <| z1 (below_step zbf_ hb); clear BK295 HB; obtain ⟨BK295, HB⟩ := n_; (try clear hb)))
    go_meet
    case rel => exact ⟨_, (true), zc_, H', ⟨zbg_⟩, ⟨zb BK295.out⟩, ⟨zbf_⟩⟩
  ·replace c7 := Bool.eq_false_iff.mpr c7
   subst c7
   have H1 : (spec_FreeTracks.j0 k l0 l1 true a2_0 a2_1) = some (r1, r2) := by rw [if_neg (show ¬ (false = true) by decide)] at H; exact H
   clear H
   have H := H1
   clear H1
   have H' := aM H
   clear H
   go_wp2_with (first | ((with_reducible refine gate_callee (f := 103) rfl ?_); refine goesL_ (some 15) rfl rfl Try.func103 (by kernel_rfl) rfl #[.slice A0 l0.length c0, .slice A1 l1.length c1] rfl zd_ ?_; (with_reducible refine (spec_rtAsked.calls k _ _ l0 _ _ l1 false _ ?side1 ?side2 ?side3 ?side4 A6.out).mono ?_); (case side1 => exact zbe_); (case side2 => exact HC0.out); (case side3 => exact zbb_); (case side4 => exact HC1.out); rintro e w17 ⟨rfl, hb⟩; refine ⟨_, rfl, ?_⟩; have n_ := z (blk_below (g := gb295) (o := .cells #[.int .i64 a2_0, .int .i64 a2_1] 32 (0, 0)) (zb BK295.out) hb) <| z1 (below_step zbf_ hb); clear BK295 HB; obtain ⟨BK295, HB⟩ := n_; (try clear hb)))
   go_meet
   case rel => exact ⟨_, (true), zc_, H', ⟨zbg_⟩, ⟨zb BK295.out⟩, ⟨zbf_⟩⟩
 case rest =>
  clear HC4
  try clear c1
  try clear p2
  try clear c7
  try clear c9
  try clear c10
  try clear c16
  try clear hcz13_0
  try clear hcz13_1
  try clear hfz13_0
  try clear hfz13_1
  obtain ⟨kq, x27_3, rfl, HA, HJ3, BK295, HB⟩ := hcut
  cases kq with
  | zero => exact absurd HA.out (by simp [spec_FreeTracks.j0])
  | succ kj3 =>
   have H := HA.out
   clear HA
   simp only [spec_FreeTracks.j0] at H
   by_cases c18 : x27_3 = true
   ·subst c18
    have H1 : (some (([] : List Int), false)) = some (r1, r2) := by rw [if_pos rfl] at H; exact H
    clear H
    have H := H1
    clear H1
    simp only [Option.some.injEq, Prod.mk.injEq] at H
    obtain ⟨rfl, rfl⟩ := H
    go_wp2
    go_ret2
    exact ⟨_, zg_, zch_, zbf_⟩
   ·replace c18 := Bool.eq_false_iff.mpr c18
    subst c18
    have H1 : (spec_FreeTracks.l0 kj3 l0 l1 ([] : List Int) 0 a2_0 a2_1) = some (r1, r2) := by rw [if_neg (show ¬ (false = true) by decide)] at H; exact H
    clear H
    have H := H1
    clear H1
    have H' := aM H
    clear H
    go_wp2
    go_loopg [8, 9] kj3 (fun kq v8 v9 w' => ∃ (x8_2 : List Int) (x9_2 : Int), v9 = .int .i64 x9_2 ∧ Aside0 (spec_FreeTracks.l0 kq l0 l1 x8_2 x9_2 a2_0 a2_1 = some (r1, r2)) ∧ Aside0 (kq ≤ kj3) ∧ Aside0 (Kd.R (Kd.int .i64) 3 w' w.heap.size (fun _ => True) v8 x8_2) ∧ Aside0 (w'.heap[gb295]? = some (.cells #[.int .i64 a2_0, .int .i64 a2_1] 32 (0, 0))) ∧ Aside0 (Below w.heap.size w w'))
    case atStart => exact ⟨(([] : List Int)), (0), zc_, H', ⟨Nat.le_refl _⟩, ⟨zch_⟩, ⟨zb BK295.out⟩, ⟨zbf_⟩⟩
    case round =>
     clear H'
     try clear c1
     try clear p2
     try clear c7
     try clear c9
     try clear c10
     try clear c16
     try clear c18
     try clear hcz13_0
     try clear hcz13_1
     try clear hfz13_0
     try clear hfz13_1
     try clear p2
     obtain ⟨x8_2, x9_2, rfl, HA, HK2, HO_8, BK295, HB⟩ := hrel
     cases gk with
     | zero => exact absurd HA.out (by simp [spec_FreeTracks.l0])
     | succ k2 =>
      have H := HA.out
      clear HA
      simp only [spec_FreeTracks.l0] at H
      replace H := oB.mp H
      obtain ⟨t299, A190, H⟩ := H
      replace H : (if x9_2 < t299 then (spec_FreeTracks.l1 k2 l0 l1 x8_2 x9_2 true l0 (l0.length : Int) 0 a2_0 a2_1) else (some (x8_2, true))) = some (r1, r2) := H
      have A19 := aM A190
      clear A190
      by_cases c20 : x9_2 < t299
      ·rw [if_pos c20] at H
       have c20b0 : decide (x9_2 < t299) = true := decide_eq_true c20
       clear c20
       have H' := aM H
       clear H
       go_wp2_with (first | ((with_reducible refine gate_callee (f := 107) rfl ?_); refine goesL_ (some 30) rfl rfl Try.func107 (by kernel_rfl) rfl #[.slice A1 l1.length c1] rfl zd_ ?_; (with_reducible refine (spec_rtTop.calls k2 _ _ l1 t299 _ ?side1 ?side2 A19.out).mono ?_); (case side1 => exact zbb_); (case side2 => exact HC1.out); rintro e w' ⟨rfl, ⟨nd, rfl⟩⟩; refine ⟨_, rfl, ?_⟩))
       go_loopg [10, 36] k2 (fun kq v10 v36 w' => ∃ (x10_3 : Bool) (x36_3 : Int), v10 = .bool x10_3 ∧ v36 = .int .i64 x36_3 ∧ Aside0 (spec_FreeTracks.l1 kq l0 l1 x8_2 x9_2 x10_3 l0 (l0.length : Int) x36_3 a2_0 a2_1 = some (r1, r2)) ∧ Aside0 (kq ≤ k2) ∧ Aside0 (Kd.R (Kd.int .i64) 3 w' w.heap.size (fun _ => True) u8 x8_2) ∧ Aside0 (w'.heap[gb295]? = some (.cells #[.int .i64 a2_0, .int .i64 a2_1] 32 (0, 0))) ∧ Aside0 (Below w.heap.size w w'))
       case atStart => exact ⟨(true), (0), zc_, zc_, H', ⟨Nat.le_refl _⟩, ⟨zr HO_8.out⟩, ⟨zb BK295.out⟩, ⟨zbf_⟩⟩
       case round =>
        clear H'
        try clear c1
        try clear c2
        try clear p2
        try clear c7
        try clear c9
        try clear c10
        try clear c16
        try clear c18
        try clear c20
        try clear c20b0
        try clear hcz13_0
        try clear hcz13_1
        try clear hfz13_0
        try clear hfz13_1
        try clear p2
        obtain ⟨x10_3, x36_3, rfl, rfl, HA, HK3, HO_8, BK295, HB⟩ := hrel
        cases gk with
        | zero => exact absurd HA.out (by simp [spec_FreeTracks.l1])
        | succ k3 =>
         have H := HA.out
         clear HA
         simp only [spec_FreeTracks.l1] at H
         by_cases c21 : x36_3 < (l0.length : Int)
         ·rw [if_pos c21] at H
          have c21b0 : decide (x36_3 < (l0.length : Int)) = true := decide_eq_true c21
          clear c21
          by_cases c22 : 0 ≤ x36_3
          ·rw [if_pos c22] at H
           have c22b0 : decide (0 ≤ x36_3) = true := decide_eq_true c22
           clear c22
           by_cases c23 : x36_3 < (l0.length : Int)
           ·rw [if_pos c23] at H
            have c23b0 : decide (x36_3 < (l0.length : Int)) = true := decide_eq_true c23
            clear c23
            by_cases c24 : x10_3 = true
            ·subst c24
             have H1 : (if x36_3 < (l1.length : Int) then (if (rd l1 x36_3) = x9_2 then ((spec_rtMeet.f ((rd_T32 l0 x36_3).f0) ((rd_T32 l0 x36_3).f1) a2_0 a2_1).bind fun t303 => (spec_FreeTracks.l1 k3 l0 l1 x8_2 x9_2 (!t303) l0 (l0.length : Int) (wrap64 (x36_3 + 1)) a2_0 a2_1)) else (spec_FreeTracks.l1 k3 l0 l1 x8_2 x9_2 true l0 (l0.length : Int) (wrap64 (x36_3 + 1)) a2_0 a2_1)) else (none)) = some (r1, r2) := by rw [if_pos rfl] at H; exact H
             clear H
             have H := H1
             clear H1
             by_cases c25 : x36_3 < (l1.length : Int)
             ·rw [if_pos c25] at H
              have c25b0 : decide (x36_3 < (l1.length : Int)) = true := decide_eq_true c25
              clear c25
              by_cases c26 : (rd l1 x36_3) = x9_2
              ·rw [if_pos c26] at H
               have c26b0 : ((rd l1 x36_3) == x9_2) = true := beq_iff_eq.mpr c26
               have c26b1 : ((rd l1 x36_3) != x9_2) = false := bne_eq_false_iff_eq.mpr c26
               clear c26
               replace H := oB.mp H
               obtain ⟨t303, A270, H⟩ := H
               replace H : (spec_FreeTracks.l1 k3 l0 l1 x8_2 x9_2 (!t303) l0 (l0.length : Int) (wrap64 (x36_3 + 1)) a2_0 a2_1) = some (r1, r2) := H
               have A27 := aM A270
               clear A270
               have H' := aM H
               clear H
               have p300 : 0 ≤ (x36_3 : Int) := of_decide_eq_true zb_
               have q300 : x36_3 < (l0.length : Int) := of_decide_eq_true zb_
               obtain ⟨ad300, e300, hx300_0, hx300_1⟩ := at_T32 HR0.out x36_3 p300 q300
               cases e300
               (try (replace hx300_0 := (HB.out.cell (World.block_lt_of_cell? w _ hx300_0)).trans hx300_0))
               (try (replace hx300_1 := (HB.out.cell (World.block_lt_of_cell? w _ hx300_1)).trans hx300_1))
               replace p300 := eq_true p300
               replace q300 := eq_true q300
               go_wp2_with (first | ((with_reducible refine gate_dst (N := 12) rfl ?_); refine box_event ?hg (N := 12) ?hd (cs := #[.int .i64 0, .int .i64 0]) (t := 32) ?hr ?_; (case hd => rfl); (case hg => rfl); (case hr => exact zf_); intro gb301 hg w28 hbox hb; have n_ := z (Kd.R_below (zr HO_8.out) hb) <| z (blk_below (g := gb295) (o := .cells #[.int .i64 a2_0, .int .i64 a2_1] 32 (0, 0)) (zb BK295.out) hb) <| z (below_step zbf_ hb) <| z (hbox) <| z ((by rw [hg]; exact (below_size zbf_) : w.heap.size ≤ gb301)) <| z ((by rw [hg]; exact (below_size zbf_) : w.heap.size ≤ gb301)) <| z ((by rw [hg]; exact Nat.ne_of_lt (blk_lt (g := gb295) (o := .cells #[.int .i64 a2_0, .int .i64 a2_1] 32 (0, 0)) (zb BK295.out)) : gb295 ≠ gb301)) <| z1 ((by rw [hg]; exact Nat.ne_of_gt (blk_lt (g := gb295) (o := .cells #[.int .i64 a2_0, .int .i64 a2_1] 32 (0, 0)) (zb BK295.out)) : gb301 ≠ gb295)); clear HO_8 BK295 HB; obtain ⟨HO_8, BK295, HB, BK301, GW301, GE301, NB295_301, NB301_295⟩ := n_; clear hb hbox hg; have hnb29 := NB301_295.out; have hnc29 := NB295_301.out; have hcz30_0 : w28.cell? ⟨gb301, 0, none⟩ = some (.int .i64 0) := (blk_cell BK301.out 0).trans rfl; have hcz30_1 : w28.cell? ⟨gb301, 1, none⟩ = some (.int .i64 0) := (blk_cell BK301.out 1).trans rfl; have hfz30_0 := blk_frozen BK301.out 0; have hfz30_1 := blk_frozen BK301.out 1; have p302 : 0 ≤ (x36_3 : Int) := of_decide_eq_true zb_; have q302 : x36_3 < (l1.length : Int) := of_decide_eq_true zb_; obtain ⟨ad302, e302, hx302_0⟩ := Kd.at_int HR1.out x36_3 p302 q302; cases e302; have hn302_0 : ad302.block ≠ gb301 := Nat.ne_of_lt (Nat.lt_of_lt_of_le zfj_ GW301.out); have hn302_1 : ad302.block ≠ gb301 := Nat.ne_of_lt (Nat.lt_of_lt_of_le zfj_ GW301.out); replace hx302_0 := (HB.out.cell (World.block_lt_of_cell? w _ hx302_0)).trans hx302_0; replace hx302_0 := (cell_far (p := ⟨gb301, 0, none⟩) (by first | (rw [add_block]; exact hn302_0) | (show (Addr.add _ _).block ≠ _; rw [add_block]; exact hn302_0) | exact hn302_0) (.int .i64 ((rd_T32 l0 x36_3).f0))).trans hx302_0; replace hx302_0 := (cell_far (p := ⟨gb301, 1, none⟩) (by first | (rw [add_block]; exact hn302_1) | (show (Addr.add _ _).block ≠ _; rw [add_block]; exact hn302_1) | exact hn302_1) (.int .i64 ((rd_T32 l0 x36_3).f1))).trans hx302_0; clear hn302_0 hn302_1; replace p302 := eq_true p302; replace q302 := eq_true q302; have hcz31_0 : w28.cell? ⟨gb295, 0, none⟩ = some (.int .i64 a2_0) := (blk_cell BK295.out 0).trans rfl; have hcz31_1 : w28.cell? ⟨gb295, 1, none⟩ = some (.int .i64 a2_1) := (blk_cell BK295.out 1).trans rfl; have hfz31_0 := blk_frozen BK295.out 0; have hfz31_1 := blk_frozen BK295.out 1) | (go_at_call 114; (with_reducible refine (spec_rtMeet.calls ((rd_T32 l0 x36_3).f0) ((rd_T32 l0 x36_3).f1) a2_0 a2_1 t303 _ A27.out).mono ?_); rintro e w32 ⟨rfl, hb⟩; have n_ := z (Kd.R_below (by refine zr ?_; exact (Kd.R_mono (Kd.R_far (p := ⟨gb301, 1, none⟩) (Kd.R_far (p := ⟨gb301, 0, none⟩) (Kd.R_types HO_8.out BK301.out (by decide)) (fun _ hk => hk.2) (.int .i64 ((rd_T32 l0 x36_3).f0))) (fun _ hk => hk.2) (.int .i64 ((rd_T32 l0 x36_3).f1))) (fun _ h_ => h_.1))) hb) <| z (blk_below (g := gb295) (o := .cells #[.int .i64 a2_0, .int .i64 a2_1] 32 (0, 0)) zgj_ hb) <| z (blk_below (g := gb301) (o := .cells #[.int .i64 ((rd_T32 l0 x36_3).f0), .int .i64 ((rd_T32 l0 x36_3).f1)] 32 (0, 0)) (by refine zb ?_; refine blk_put (cs := #[.int .i64 ((rd_T32 l0 x36_3).f0), .int .i64 0]) ?_ 1 _ rfl; refine zb ?_; refine blk_put (cs := #[.int .i64 0, .int .i64 0]) ?_ 0 _ rfl; refine zb ?_; exact BK301.out) hb) <| z1 (below_step zga_ hb); clear HO_8 BK295 BK301 HB; obtain ⟨HO_8, BK295, BK301, HB⟩ := n_; (try clear hb); (try clear hk)))
               go_roundg k3
               case measure => have := HJ3.out; have := HK2.out; have := HK3.out; omega
               case rel => exact ⟨(!t303), (wrap64 (x36_3 + 1)), zc_, zc_, H', ⟨zcf_⟩, ⟨zr HO_8.out⟩, ⟨zb BK295.out⟩, ⟨zga_⟩⟩
              ·rw [if_neg c26] at H
               have c26b0 : ((rd l1 x36_3) == x9_2) = false := beq_eq_false_iff_ne.mpr c26
               have c26b1 : ((rd l1 x36_3) != x9_2) = true := bne_iff_ne.mpr c26
               have H' := aM H
               clear H
               have p300 : 0 ≤ (x36_3 : Int) := of_decide_eq_true zb_
               have q300 : x36_3 < (l0.length : Int) := of_decide_eq_true zb_
               obtain ⟨ad300, e300, hx300_0, hx300_1⟩ := at_T32 HR0.out x36_3 p300 q300
               cases e300
               (try (replace hx300_0 := (HB.out.cell (World.block_lt_of_cell? w _ hx300_0)).trans hx300_0))
               (try (replace hx300_1 := (HB.out.cell (World.block_lt_of_cell? w _ hx300_1)).trans hx300_1))
               replace p300 := eq_true p300
               replace q300 := eq_true q300
               go_wp2_with (first | ((with_reducible refine gate_dst (N := 12) rfl ?_); refine box_event ?hg (N := 12) ?hd (cs := #[.int .i64 0, .int .i64 0]) (t := 32) ?hr ?_; (case hd => rfl); (case hg => rfl); (case hr => exact zf_); intro gb301 hg w33 hbox hb; have n_ := z (Kd.R_below (zr HO_8.out) hb) <| z (blk_below (g := gb295) (o := .cells #[.int .i64 a2_0, .int .i64 a2_1] 32 (0, 0)) (zb BK295.out) hb) <| z (below_step zbf_ hb) <| z (hbox) <| z ((by rw [hg]; exact (below_size zbf_) : w.heap.size ≤ gb301)) <| z ((by rw [hg]; exact (below_size zbf_) : w.heap.size ≤ gb301)) <| z ((by rw [hg]; exact Nat.ne_of_lt (blk_lt (g := gb295) (o := .cells #[.int .i64 a2_0, .int .i64 a2_1] 32 (0, 0)) (zb BK295.out)) : gb295 ≠ gb301)) <| z1 ((by rw [hg]; exact Nat.ne_of_gt (blk_lt (g := gb295) (o := .cells #[.int .i64 a2_0, .int .i64 a2_1] 32 (0, 0)) (zb BK295.out)) : gb301 ≠ gb295)); clear HO_8 BK295 HB; obtain ⟨HO_8, BK295, HB, BK301, GW301, GE301, NB295_301, NB301_295⟩ := n_; clear hb hbox hg; have hnb34 := NB301_295.out; have hnc34 := NB295_301.out; have hcz35_0 : w33.cell? ⟨gb301, 0, none⟩ = some (.int .i64 0) := (blk_cell BK301.out 0).trans rfl; have hcz35_1 : w33.cell? ⟨gb301, 1, none⟩ = some (.int .i64 0) := (blk_cell BK301.out 1).trans rfl; have hfz35_0 := blk_frozen BK301.out 0; have hfz35_1 := blk_frozen BK301.out 1; have p302 : 0 ≤ (x36_3 : Int) := of_decide_eq_true zb_; have q302 : x36_3 < (l1.length : Int) := of_decide_eq_true zb_; obtain ⟨ad302, e302, hx302_0⟩ := Kd.at_int HR1.out x36_3 p302 q302; cases e302; have hn302_0 : ad302.block ≠ gb301 := Nat.ne_of_lt (Nat.lt_of_lt_of_le zfj_ GW301.out); have hn302_1 : ad302.block ≠ gb301 := Nat.ne_of_lt (Nat.lt_of_lt_of_le zfj_ GW301.out); replace hx302_0 := (HB.out.cell (World.block_lt_of_cell? w _ hx302_0)).trans hx302_0; replace hx302_0 := (cell_far (p := ⟨gb301, 0, none⟩) (by first | (rw [add_block]; exact hn302_0) | (show (Addr.add _ _).block ≠ _; rw [add_block]; exact hn302_0) | exact hn302_0) (.int .i64 ((rd_T32 l0 x36_3).f0))).trans hx302_0; replace hx302_0 := (cell_far (p := ⟨gb301, 1, none⟩) (by first | (rw [add_block]; exact hn302_1) | (show (Addr.add _ _).block ≠ _; rw [add_block]; exact hn302_1) | exact hn302_1) (.int .i64 ((rd_T32 l0 x36_3).f1))).trans hx302_0; clear hn302_0 hn302_1; replace p302 := eq_true p302; replace q302 := eq_true q302))
               go_roundg k3
               case measure => have := HJ3.out; have := HK2.out; have := HK3.out; omega
               case rel => exact ⟨(true), (wrap64 (x36_3 + 1)), zc_, zc_, H', ⟨zcf_⟩, ⟨by refine zr ?_; exact Kd.R_mono (Kd.R_far (p := ⟨gb301, 1, none⟩) (Kd.R_far (p := ⟨gb301, 0, none⟩) (Kd.R_types HO_8.out BK301.out (by decide)) (fun _ hk => hk.2) (.int .i64 ((rd_T32 l0 x36_3).f0))) (fun _ hk => hk.2) (.int .i64 ((rd_T32 l0 x36_3).f1))) (fun _ hk => trivial)⟩, ⟨zgj_⟩, ⟨zga_⟩⟩
             ·rw [if_neg c25] at H
              exact absurd H (by simp)
            ·replace c24 := Bool.eq_false_iff.mpr c24
             subst c24
             have H1 : (spec_FreeTracks.l1 k3 l0 l1 x8_2 x9_2 false l0 (l0.length : Int) (wrap64 (x36_3 + 1)) a2_0 a2_1) = some (r1, r2) := by rw [if_neg (show ¬ (false = true) by decide)] at H; exact H
             clear H
             have H := H1
             clear H1
             have H' := aM H
             clear H
             have p300 : 0 ≤ (x36_3 : Int) := of_decide_eq_true zb_
             have q300 : x36_3 < (l0.length : Int) := of_decide_eq_true zb_
             obtain ⟨ad300, e300, hx300_0, hx300_1⟩ := at_T32 HR0.out x36_3 p300 q300
             cases e300
             (try (replace hx300_0 := (HB.out.cell (World.block_lt_of_cell? w _ hx300_0)).trans hx300_0))
             (try (replace hx300_1 := (HB.out.cell (World.block_lt_of_cell? w _ hx300_1)).trans hx300_1))
             replace p300 := eq_true p300
             replace q300 := eq_true q300
             go_wp2_with (first | ((with_reducible refine gate_dst (N := 12) rfl ?_); refine box_event ?hg (N := 12) ?hd (cs := #[.int .i64 0, .int .i64 0]) (t := 32) ?hr ?_; (case hd => rfl); (case hg => rfl); (case hr => exact zf_); intro gb301 hg w36 hbox hb; have n_ := z (Kd.R_below (zr HO_8.out) hb) <| z (blk_below (g := gb295) (o := .cells #[.int .i64 a2_0, .int .i64 a2_1] 32 (0, 0)) (zb BK295.out) hb) <| z (below_step zbf_ hb) <| z (hbox) <| z ((by rw [hg]; exact (below_size zbf_) : w.heap.size ≤ gb301)) <| z ((by rw [hg]; exact (below_size zbf_) : w.heap.size ≤ gb301)) <| z ((by rw [hg]; exact Nat.ne_of_lt (blk_lt (g := gb295) (o := .cells #[.int .i64 a2_0, .int .i64 a2_1] 32 (0, 0)) (zb BK295.out)) : gb295 ≠ gb301)) <| z1 ((by rw [hg]; exact Nat.ne_of_gt (blk_lt (g := gb295) (o := .cells #[.int .i64 a2_0, .int .i64 a2_1] 32 (0, 0)) (zb BK295.out)) : gb301 ≠ gb295)); clear HO_8 BK295 HB; obtain ⟨HO_8, BK295, HB, BK301, GW301, GE301, NB295_301, NB301_295⟩ := n_; clear hb hbox hg; have hnb37 := NB301_295.out; have hnc37 := NB295_301.out; have hcz38_0 : w36.cell? ⟨gb301, 0, none⟩ = some (.int .i64 0) := (blk_cell BK301.out 0).trans rfl; have hcz38_1 : w36.cell? ⟨gb301, 1, none⟩ = some (.int .i64 0) := (blk_cell BK301.out 1).trans rfl; have hfz38_0 := blk_frozen BK301.out 0; have hfz38_1 := blk_frozen BK301.out 1))
             go_roundg k3
             case measure => have := HJ3.out; have := HK2.out; have := HK3.out; omega
             case rel => exact ⟨(false), (wrap64 (x36_3 + 1)), zc_, zc_, H', ⟨zcf_⟩, ⟨by refine zr ?_; exact Kd.R_mono (Kd.R_far (p := ⟨gb301, 1, none⟩) (Kd.R_far (p := ⟨gb301, 0, none⟩) (Kd.R_types HO_8.out BK301.out (by decide)) (fun _ hk => hk.2) (.int .i64 ((rd_T32 l0 x36_3).f0))) (fun _ hk => hk.2) (.int .i64 ((rd_T32 l0 x36_3).f1))) (fun _ hk => trivial)⟩, ⟨zgj_⟩, ⟨zga_⟩⟩
           ·rw [if_neg c23] at H
            exact absurd H (by simp)
          ·rw [if_neg c22] at H
           exact absurd H (by simp)
         ·rw [if_neg c21] at H
          have c21b0 : decide (x36_3 < (l0.length : Int)) = false := decide_eq_false c21
          clear c21
          by_cases c39 : x10_3 = true
          ·subst c39
           have H1 : (if x8_2.length < 17592186044416 then (spec_FreeTracks.l0 k3 l0 l1 (x8_2 ++ [x9_2]) (wrap64 (x9_2 + 1)) a2_0 a2_1) else (none)) = some (r1, r2) := by rw [if_pos rfl] at H; exact H
           clear H
           have H := H1
           clear H1
           by_cases c40 : x8_2.length < 17592186044416
           ·rw [if_pos c40] at H
            have LMc40 := aM c40
            clear c40
            obtain ⟨y304, hy304⟩ : ∃ y_ : List Int, y_ = (x8_2 ++ [x9_2]) := ⟨_, rfl⟩
            replace H : (spec_FreeTracks.l0 k3 l0 l1 y304 (wrap64 (x9_2 + 1)) a2_0 a2_1) = some (r1, r2) := by first | (rw [hy304]; with_reducible exact H) | (have H2_ := (oS _ _).symm.trans H; rw [hy304]; with_reducible exact H2_) | (have H2_ := (oS _ _).symm.trans H; with_reducible exact H2_) | with_reducible exact H | (rw [hy304]; exact H) | exact H
            have Ny304 := aM hy304
            clear hy304
            have H' := aM H
            clear H
            go_wp2_with (first | ((with_reducible refine gate_builtin (b := .append) (xs := #[.tmp 58, .tmp 60]) rfl ?_); at_builtin; refine Kd.R_append (Kd.int .i64) (w0 := w) w.heap.size rfl (.tmp 58) (.tmp 60) 24 3 (.int .i64 0) 8 rfl Try.underlying24 info3 rfl (by decide) (by omega) u8 x8_2 x9_2 [.int .i64 x9_2] (fun _ => True) (fun _ => False) rfl rfl ?aP (fun _ hk => hk.elim) ?aF ?aO ?aB ?aS ?aL ?_; (case aP => exact rfl); (case aB => exact zbf_); (case aF => exact zcj_); (case aO => exact (zr HO_8.out)); (case aS => exact (below_size zbf_)); (case aL => have := LMc40.out; omega); intro v305 w41 ho hb hg hat; rw [← Ny304.out] at ho; have n_ := z (blk_grown (g := gb295) (o := .cells #[.int .i64 a2_0, .int .i64 a2_1] 32 (0, 0)) (zb BK295.out) hg (Kd.R_ne HO_8.out BK295.out (by decide))) <| z (hb) <| z1 (ho); clear BK295 HB HO_8; obtain ⟨BK295, HB, HO306⟩ := n_; clear ho hb hg hat))
            go_roundg k3
            case measure => have := HJ3.out; have := HK2.out; have := HK3.out; omega
            case rel => exact ⟨(y304), (wrap64 (x9_2 + 1)), zc_, H', ⟨zcf_⟩, ⟨zr HO306.out⟩, ⟨zb BK295.out⟩, ⟨zbf_⟩⟩
           ·rw [if_neg c40] at H
            exact absurd H (by simp)
          ·replace c39 := Bool.eq_false_iff.mpr c39
           subst c39
           have H1 : (spec_FreeTracks.l0 k3 l0 l1 x8_2 (wrap64 (x9_2 + 1)) a2_0 a2_1) = some (r1, r2) := by rw [if_neg (show ¬ (false = true) by decide)] at H; exact H
           clear H
           have H := H1
           clear H1
           have H' := aM H
           clear H
           go_wp2
           go_roundg k3
           case measure => have := HJ3.out; have := HK2.out; have := HK3.out; omega
           case rel => exact ⟨(x8_2), (wrap64 (x9_2 + 1)), zc_, H', ⟨zcf_⟩, ⟨zr HO_8.out⟩, ⟨zb BK295.out⟩, ⟨zbf_⟩⟩
      ·rw [if_neg c20] at H
       have c20b0 : decide (x9_2 < t299) = false := decide_eq_false c20
       clear c20
       simp only [Option.some.injEq, Prod.mk.injEq] at H
       obtain ⟨rfl, rfl⟩ := H
       go_wp2_with (first | ((with_reducible refine gate_callee (f := 107) rfl ?_); refine goesL_ (some 30) rfl rfl Try.func107 (by kernel_rfl) rfl #[.slice A1 l1.length c1] rfl zd_ ?_; (with_reducible refine (spec_rtTop.calls k2 _ _ l1 t299 _ ?side1 ?side2 A19.out).mono ?_); (case side1 => exact zbb_); (case side2 => exact HC1.out); rintro e w' ⟨rfl, ⟨nd, rfl⟩⟩; refine ⟨_, rfl, ?_⟩))
       go_ret2
       exact ⟨_, zg_, by refine zr ?_; exact HO_8.out, zbf_⟩
def spec_DrawLayersOf.f (k : Nat) (l0 : List Int) : Option (List Int × Int) := (spec_l1Cur_routed.f k l0 0 0).bind fun bt308 => ((spec_l1Cur_among.f l0 bt308.2.2.1 bt308.2.2.2 (([0, 21] : List Int))).bind fun bt319 => ((spec_l1Cur_among.f l0 bt319.2.1 bt319.2.2 (([1, 2, 3, 20, bt319.1] : List Int))).bind fun bt325 => (some (bt308.2.1, bt325.1))))
theorem spec_DrawLayersOf.calls (k : Nat) (A0 : Option Addr) (c0 : Nat) (l0 : List Int) (r1 : List Int) (r2 : Int) (w : World) (hr0 : Kd.C (Kd.int .u8) w A0 l0.length l0) (hc0 : l0.length ≤ c0) (h : spec_DrawLayersOf.f k l0 = some (r1, r2)) :
  Calls Try.prog 17 #[.slice A0 l0.length c0] w fun e w' => ∃ v0_ : Value, e = .returned (.tuple #[v0_, .int .i64 r2]) ∧ Kd.Q (Kd.int .i64) 3 w' w.heap.size (fun _ => True) v0_ r1 ∧ Below w.heap.size w w' := by
 have hu111 := Try.underlying111
 have HR0 := aM hr0
 have HC0 := aM hc0
 clear hr0 hc0
 have HB := aM (Below.refl w.heap.size w)
 have H : ((spec_l1Cur_routed.f k l0 0 0).bind fun bt308 => ((spec_l1Cur_among.f l0 bt308.2.2.1 bt308.2.2.2 (([0, 21] : List Int))).bind fun bt319 => ((spec_l1Cur_among.f l0 bt319.2.1 bt319.2.2 (([1, 2, 3, 20, bt319.1] : List Int))).bind fun bt325 => (some (bt308.2.1, bt325.1))))) = some (r1, r2) := h
 clear h
 replace H := oB.mp H
 obtain ⟨⟨t308, t311, t314, t315⟩, A20, H⟩ := H
 replace H : ((spec_l1Cur_among.f l0 t314 t315 (([0, 21] : List Int))).bind fun bt319 => ((spec_l1Cur_among.f l0 bt319.2.1 bt319.2.2 (([1, 2, 3, 20, bt319.1] : List Int))).bind fun bt325 => (some (t311, bt325.1)))) = some (r1, r2) := H
 have A2 := aM A20
 clear A20
 obtain ⟨y316, hy316⟩ : ∃ y_ : List Int, y_ = (([0, 21] : List Int)) := ⟨_, rfl⟩
 replace H : ((spec_l1Cur_among.f l0 t314 t315 y316).bind fun bt319 => ((spec_l1Cur_among.f l0 bt319.2.1 bt319.2.2 (([1, 2, 3, 20, bt319.1] : List Int))).bind fun bt325 => (some (t311, bt325.1)))) = some (r1, r2) := by first | (rw [hy316]; with_reducible exact H) | (have H2_ := (oS _ _).symm.trans H; rw [hy316]; with_reducible exact H2_) | (have H2_ := (oS _ _).symm.trans H; with_reducible exact H2_) | with_reducible exact H | (rw [hy316]; exact H) | exact H
 have Ny316 := aM hy316
 clear hy316
 replace H := oB.mp H
 obtain ⟨⟨t319, t320, t321⟩, A30, H⟩ := H
 replace H : ((spec_l1Cur_among.f l0 t320 t321 (([1, 2, 3, 20, t319] : List Int))).bind fun bt325 => (some (t311, bt325.1))) = some (r1, r2) := H
 have A3 := aM A30
 clear A30
 obtain ⟨y322, hy322⟩ : ∃ y_ : List Int, y_ = (([1, 2, 3, 20, t319] : List Int)) := ⟨_, rfl⟩
 replace H : ((spec_l1Cur_among.f l0 t320 t321 y322).bind fun bt325 => (some (t311, bt325.1))) = some (r1, r2) := by first | (rw [hy322]; with_reducible exact H) | (have H2_ := (oS _ _).symm.trans H; rw [hy322]; with_reducible exact H2_) | (have H2_ := (oS _ _).symm.trans H; with_reducible exact H2_) | with_reducible exact H | (rw [hy322]; exact H) | exact H
 have Ny322 := aM hy322
 clear hy322
 replace H := oB.mp H
 obtain ⟨⟨t325, t326, t327⟩, A40, H⟩ := H
 replace H : (some (t311, t325)) = some (r1, r2) := H
 have A4 := aM A40
 clear A40
 simp only [Option.some.injEq, Prod.mk.injEq] at H
 obtain ⟨rfl, rfl⟩ := H
 go_enter Try.func17, Try.ntmps17
 go_wp2_with (first | ((with_reducible refine gate_dst (N := 9) rfl ?_); refine box_event ?hg (N := 9) ?hd (cs := #[.slice A0 l0.length c0, .int .i64 0, .int .u64 0]) (t := 111) ?hr ?_; (case hd => rfl); (case hg => rfl); (case hr => exact zf_); intro gb307 hg w5 hbox hb; have n_ := z (below_step za_ hb) <| z ((by rw [hg]; exact (below_size za_) : w.heap.size ≤ gb307)) <| z ((by rw [hg]; exact (below_size za_) : w.heap.size ≤ gb307)) <| z1 ((⟨_, _, hbox, (by rw [hg]; exact (below_size za_) : w.heap.size ≤ gb307), HR0.out⟩ : IsS111 w w5 gb307 l0 0 0)); clear HB; obtain ⟨HB, GW307, GE307, HI307⟩ := n_; clear hb hbox hg) | ((with_reducible refine gate_callee (f := 100) rfl ?_); refine goesL_ (some 12) rfl rfl Try.func100 (by kernel_rfl) rfl #[.pointer (some ⟨gb307, 0, none⟩)] rfl zd_ ?_; (with_reducible refine (spec_l1Cur_routed.calls k gb307 l0 0 0 t308 t311 t314 t315 w _ ?side1 ?side2 A2.out).mono ?_); (case side1 => exact zei_); (case side2 => exact zcg_); rintro e w6 ⟨v309, v312, rfl, ho0, ho1, hi, hb, hk⟩; refine ⟨_, rfl, ?_⟩; have n_ := z (Kd.R_lower ho0 (below_size zcg_)) <| z (Kd.Q_lower ho1 (below_size zcg_)) <| z (hb) <| z1 (hi); clear HB HI307; obtain ⟨HO310, HO313, HB, HI307⟩ := n_; (try clear hb); (try clear hk); (try clear hi); (try clear ho0); (try clear ho1)) | ((with_reducible refine gate_dst (N := 18) rfl ?_); refine Kd.R_lit (Kd.int .i64) _ 3 ?hg (N := 18) ?hd (xs := ([0, 21] : List Int)) (inner := [.int .i64 0, .int .i64 21]) (ok := fun _ => True) (okp := fun _ => True) ?hr ?hp (fun _ hk => hk) trivial (Below.refl _ _) (Nat.le_refl _) (by simp) ?_; (case hd => rfl); (case hg => rfl); (case hr => exact zf_); (case hp => exact (Reps.one (show Kd.M (Kd.int .i64) _ _ _ 0 [.int .i64 0] from rfl) (Reps.one (show Kd.M (Kd.int .i64) _ _ _ 21 [.int .i64 21] from rfl) (Reps.none _ _)))); intro v317 w7 ho8 hb hg_ hnew_; clear hg_ hnew_; (first | rw [← Ny316.out] at ho8 | (simp only [Int.reduceToNat] at ho8; rw [← Ny316.out] at ho8)); have n_ := z (Kd.R_below (zr HO310.out) hb) <| z (Kd.Q_elder' (zq HO313.out) (Kd.R_base ho8) hb) <| z (Kd.R_lower (Kd.R_new' ho8 (Kd.Q_lt (zq HO313.out))) (below_size zcg_)) <| z (IsS111.below zei_ hb) <| z1 (below_step zcg_ hb); clear HO310 HO313 HI307 HB; obtain ⟨HO310, HO313, HO318, HI307, HB⟩ := n_; clear hb ho8; obtain ⟨Ao9, co9, eo9⟩ := Kd.R_slice HO318.out; subst eo9) | ((with_reducible refine gate_callee (f := 110) rfl ?_); refine goesL_ (some 19) rfl rfl Try.func110 (by kernel_rfl) rfl #[.pointer (some ⟨gb307, 0, none⟩), .slice Ao9 y316.length co9] rfl zd_ ?_; (with_reducible refine (spec_l1Cur_among.calls gb307 l0 t314 t315 _ _ y316 t319 t320 t321 w _ ?side1 ?side2 ?side3 ?side4 ?side5 A3.out).mono ?_); (case side1 => exact zei_); (case side2 => exact zcg_); (case side3 => repeat (first | exact (Kd.R_reads' HO318.out).2.2 | (with_reducible refine cA ?_ _) | (with_reducible refine cN ?_ _) | (with_reducible refine cD ?_))); (case side4 => exact (Kd.R_reads' HO318.out).2.1); (case side5 => exact far_slice (IsS111.own_ne HI307.out HO318.out (by decide))); rintro e w10 ⟨rfl, hi, hb, hk⟩; refine ⟨_, rfl, ?_⟩; have n_ := z (Kd.R_mono (Kd.R_keep (IsS111.apart (show IsS111 w _ gb307 l0 t314 t315 from by repeat (first | (with_reducible first | exact HI307.out | apply IsS111.alloc | apply IsS111.drewN | apply IsS111.drew | apply IsS111.set_1 | apply IsS111.set_2) | exact HI307.out)) (zr HO310.out) (by decide)) hk (fun _ h => h.2)) (fun _ h => h.1)) <| z (Kd.Q_mono (Kd.Q_keep (IsS111.apartQ (show IsS111 w _ gb307 l0 t314 t315 from by repeat (first | (with_reducible first | exact HI307.out | apply IsS111.alloc | apply IsS111.drewN | apply IsS111.drew | apply IsS111.set_1 | apply IsS111.set_2) | exact HI307.out)) (zq HO313.out) (by decide)) hk (fun _ h => h.2)) (fun _ h => h.1)) <| z (Kd.R_mono (Kd.R_keep (IsS111.apart (show IsS111 w _ gb307 l0 t314 t315 from by repeat (first | (with_reducible first | exact HI307.out | apply IsS111.alloc | apply IsS111.drewN | apply IsS111.drew | apply IsS111.set_1 | apply IsS111.set_2) | exact HI307.out)) (zr HO318.out) (by decide)) hk (fun _ h => h.2)) (fun _ h => h.1)) <| z (hb) <| z1 (hi); clear HO310 HO313 HO318 HB HI307; obtain ⟨HO310, HO313, HO318, HB, HI307⟩ := n_; (try clear hb); (try clear hk); (try clear hi)) | ((with_reducible refine gate_dst (N := 20) rfl ?_); refine Kd.R_lit (Kd.int .i64) _ 3 ?hg (N := 20) ?hd (xs := ([1, 2, 3, 20, t319] : List Int)) (inner := [.int .i64 1, .int .i64 2, .int .i64 3, .int .i64 20, .int .i64 t319]) (ok := fun _ => True) (okp := fun _ => True) ?hr ?hp (fun _ hk => hk) trivial (Below.refl _ _) (Nat.le_refl _) (by simp) ?_; (case hd => rfl); (case hg => rfl); (case hr => exact zf_); (case hp => exact (Reps.one (show Kd.M (Kd.int .i64) _ _ _ 1 [.int .i64 1] from rfl) (Reps.one (show Kd.M (Kd.int .i64) _ _ _ 2 [.int .i64 2] from rfl) (Reps.one (show Kd.M (Kd.int .i64) _ _ _ 3 [.int .i64 3] from rfl) (Reps.one (show Kd.M (Kd.int .i64) _ _ _ 20 [.int .i64 20] from rfl) (Reps.one (show Kd.M (Kd.int .i64) _ _ _ t319 [.int .i64 t319] from rfl) (Reps.none _ _))))))); intro v323 w11 ho12 hb hg_ hnew_; clear hg_ hnew_; (first | rw [← Ny322.out] at ho12 | (simp only [Int.reduceToNat] at ho12; rw [← Ny322.out] at ho12)); have n_ := z (Kd.R_below (zr HO310.out) hb) <| z (Kd.Q_elder' (zq HO313.out) (Kd.R_base ho12) hb) <| z (Kd.R_elder' (zr HO318.out) (Kd.R_base ho12) hb) <| z (Kd.R_lower (Kd.R_new' (Kd.R_new' ho12 (Kd.Q_lt (zq HO313.out))) (Kd.R_lt (zr HO318.out))) (below_size zcg_)) <| z (IsS111.below zei_ hb) <| z1 (below_step zcg_ hb); clear HO310 HO313 HO318 HI307 HB; obtain ⟨HO310, HO313, HO318, HO324, HI307, HB⟩ := n_; clear hb ho12; obtain ⟨Ao13, co13, eo13⟩ := Kd.R_slice HO324.out; subst eo13) | ((with_reducible refine gate_callee (f := 110) rfl ?_); refine goesL_ (some 21) rfl rfl Try.func110 (by kernel_rfl) rfl #[.pointer (some ⟨gb307, 0, none⟩), .slice Ao13 y322.length co13] rfl zd_ ?_; (with_reducible refine (spec_l1Cur_among.calls gb307 l0 t320 t321 _ _ y322 t325 t326 t327 w _ ?side1 ?side2 ?side3 ?side4 ?side5 A4.out).mono ?_); (case side1 => exact zei_); (case side2 => exact zcg_); (case side3 => repeat (first | exact (Kd.R_reads' HO324.out).2.2 | (with_reducible refine cA ?_ _) | (with_reducible refine cN ?_ _) | (with_reducible refine cD ?_))); (case side4 => exact (Kd.R_reads' HO324.out).2.1); (case side5 => exact far_slice (IsS111.own_ne HI307.out HO324.out (by decide))); rintro e w14 ⟨rfl, hi, hb, hk⟩; refine ⟨_, rfl, ?_⟩; have n_ := z (Kd.R_mono (Kd.R_keep (IsS111.apart (show IsS111 w _ gb307 l0 t320 t321 from by repeat (first | (with_reducible first | exact HI307.out | apply IsS111.alloc | apply IsS111.drewN | apply IsS111.drew | apply IsS111.set_1 | apply IsS111.set_2) | exact HI307.out)) (zr HO310.out) (by decide)) hk (fun _ h => h.2)) (fun _ h => h.1)) <| z (Kd.Q_mono (Kd.Q_keep (IsS111.apartQ (show IsS111 w _ gb307 l0 t320 t321 from by repeat (first | (with_reducible first | exact HI307.out | apply IsS111.alloc | apply IsS111.drewN | apply IsS111.drew | apply IsS111.set_1 | apply IsS111.set_2) | exact HI307.out)) (zq HO313.out) (by decide)) hk (fun _ h => h.2)) (fun _ h => h.1)) <| z (Kd.R_mono (Kd.R_keep (IsS111.apart (show IsS111 w _ gb307 l0 t320 t321 from by repeat (first | (with_reducible first | exact HI307.out | apply IsS111.alloc | apply IsS111.drewN | apply IsS111.drew | apply IsS111.set_1 | apply IsS111.set_2) | exact HI307.out)) (zr HO318.out) (by decide)) hk (fun _ h => h.2)) (fun _ h => h.1)) <| z (Kd.R_mono (Kd.R_keep (IsS111.apart (show IsS111 w _ gb307 l0 t320 t321 from by repeat (first | (with_reducible first | exact HI307.out | apply IsS111.alloc | apply IsS111.drewN | apply IsS111.drew | apply IsS111.set_1 | apply IsS111.set_2) | exact HI307.out)) (zr HO324.out) (by decide)) hk (fun _ h => h.2)) (fun _ h => h.1)) <| z (hb) <| z1 (hi); clear HO310 HO313 HO318 HO324 HB HI307; obtain ⟨HO310, HO313, HO318, HO324, HB, HI307⟩ := n_; (try clear hb); (try clear hk); (try clear hi)))
 go_ret2
 exact ⟨_, zg_, by refine zq ?_; exact Kd.Q_mono HO313.out (fun _ hk => trivial), zcg_⟩
mutual
def impl_LayersOf.j0 : Nat → List Int → Int → Bool → Option (List Int × Int × Bool)
 | 0, _, _, _ => none
 | k + 1, x0, x1, x20 => if x20 = true then (some (([] : List Int), 0, false)) else (impl_LayersOf.l0 k x1 (([] : List Int)) x0 (x0.length : Int) 0)
def impl_LayersOf.l0 : Nat → Int → List Int → List Int → Int → Int → Option (List Int × Int × Bool)
 | 0, _, _, _, _, _ => none
 | k + 1, x1, x7, x22, x23, x24 => if x24 < x23 then (if 0 ≤ x24 then (if x24 < (x22.length : Int) then (if x1 = 0 then (none) else (if x7.length < 17592186044416 then (impl_LayersOf.l0 k x1 (x7 ++ [wrap64 (Int.tdiv (rd x22 x24) x1)]) x22 x23 (wrap64 (x24 + 1))) else (none))) else (none)) else (none)) else ((impl_greatest.f k x7).bind fun t336 => (some (x7, wrap64 (t336 + 1), true)))
end
def impl_LayersOf.f (k : Nat) (l0 : List Int) (a1 : Int) : Option (List Int × Int × Bool) := (impl_areTracks.f k l0).bind fun t328 => (if t328 = true then (if a1 < 1 then (impl_LayersOf.j0 k l0 a1 true) else (impl_LayersOf.j0 k l0 a1 (decide (a1 > 20)))) else (impl_LayersOf.j0 k l0 a1 true))
theorem impl_LayersOf.calls (k : Nat) (A0 : Option Addr) (c0 : Nat) (l0 : List Int) (a1 : Int) (r1 : List Int) (r2 : Int) (r3 : Bool) (w : World) (hr0 : Kd.C (Kd.int .i64) w A0 l0.length l0) (hc0 : l0.length ≤ c0) (h : impl_LayersOf.f k l0 a1 = some (r1, r2, r3)) :
  Calls Try.prog 18 #[.slice A0 l0.length c0, .int .i64 a1] w fun e w' => ∃ v0_ : Value, e = .returned (.tuple #[v0_, .int .i64 r2, .bool r3]) ∧ Kd.R (Kd.int .i64) 3 w' w.heap.size (fun _ => True) v0_ r1 ∧ Below w.heap.size w w' := by
 have HR0 := aM hr0
 have HC0 := aM hc0
 clear hr0 hc0
 have HB := aM (Below.refl w.heap.size w)
 have H : ((impl_areTracks.f k l0).bind fun t328 => (if t328 = true then (if a1 < 1 then (impl_LayersOf.j0 k l0 a1 true) else (impl_LayersOf.j0 k l0 a1 (decide (a1 > 20)))) else (impl_LayersOf.j0 k l0 a1 true))) = some (r1, r2, r3) := h
 clear h
 have HC3 := aM H
 clear H
 go_enter Try.func18, Try.ntmps18
 go_upto_region 1 with (fail)
 go_cut [20] (fun v20 wc => ∃ (kq : Nat) (x20_2 : Bool), v20 = .bool x20_2 ∧ Aside0 (impl_LayersOf.j0 kq l0 a1 x20_2 = some (r1, r2, r3)) ∧ Aside0 (kq ≤ k) ∧ Aside0 (Below w.heap.size w wc))
 case first =>
  have H := HC3.out
  clear HC3
  replace H := oB.mp H
  obtain ⟨t328, A40, H⟩ := H
  replace H : (if t328 = true then (if a1 < 1 then (impl_LayersOf.j0 k l0 a1 true) else (impl_LayersOf.j0 k l0 a1 (decide (a1 > 20)))) else (impl_LayersOf.j0 k l0 a1 true)) = some (r1, r2, r3) := H
  have A4 := aM A40
  clear A40
  by_cases c5 : t328 = true
  ·subst c5
   have H1 : (if a1 < 1 then (impl_LayersOf.j0 k l0 a1 true) else (impl_LayersOf.j0 k l0 a1 (decide (a1 > 20)))) = some (r1, r2, r3) := by rw [if_pos rfl] at H; exact H
   clear H
   have H := H1
   clear H1
   by_cases c6 : a1 < 1
   ·rw [if_pos c6] at H
    have c6b0 : decide (a1 < 1) = true := decide_eq_true c6
    clear c6
    (first | rw [c6b0] | (simp only [i64_w, i32_w]; rw [c6b0]) | skip)
    have H' := aM H
    clear H
    go_wp2_with (first | ((with_reducible refine gate_callee (f := 101) rfl ?_); refine goesL_ (some 11) rfl rfl Try.func101 (by kernel_rfl) rfl #[.slice A0 l0.length c0] rfl zd_ ?_; (with_reducible refine (impl_areTracks.calls k _ _ l0 true _ ?side1 ?side2 A4.out).mono ?_); (case side1 => exact zbe_); (case side2 => exact HC0.out); rintro e w' ⟨rfl, ⟨nd, rfl⟩⟩; refine ⟨_, rfl, ?_⟩))
    go_meet
    case rel => exact ⟨_, (true), zc_, H', ⟨zbg_⟩, ⟨za_⟩⟩
   ·rw [if_neg c6] at H
    have c6b0 : decide (a1 < 1) = false := decide_eq_false c6
    clear c6
    (first | rw [c6b0] | (simp only [i64_w, i32_w]; rw [c6b0]) | skip)
    have H' := aM H
    clear H
    go_wp2_with (first | ((with_reducible refine gate_callee (f := 101) rfl ?_); refine goesL_ (some 11) rfl rfl Try.func101 (by kernel_rfl) rfl #[.slice A0 l0.length c0] rfl zd_ ?_; (with_reducible refine (impl_areTracks.calls k _ _ l0 true _ ?side1 ?side2 A4.out).mono ?_); (case side1 => exact zbe_); (case side2 => exact HC0.out); rintro e w' ⟨rfl, ⟨nd, rfl⟩⟩; refine ⟨_, rfl, ?_⟩))
    go_meet
    case rel => exact ⟨_, (decide (a1 > 20)), zc_, H', ⟨zbg_⟩, ⟨za_⟩⟩
  ·replace c5 := Bool.eq_false_iff.mpr c5
   subst c5
   have H1 : (impl_LayersOf.j0 k l0 a1 true) = some (r1, r2, r3) := by rw [if_neg (show ¬ (false = true) by decide)] at H; exact H
   clear H
   have H := H1
   clear H1
   have H' := aM H
   clear H
   go_wp2_with (first | ((with_reducible refine gate_callee (f := 101) rfl ?_); refine goesL_ (some 11) rfl rfl Try.func101 (by kernel_rfl) rfl #[.slice A0 l0.length c0] rfl zd_ ?_; (with_reducible refine (impl_areTracks.calls k _ _ l0 false _ ?side1 ?side2 A4.out).mono ?_); (case side1 => exact zbe_); (case side2 => exact HC0.out); rintro e w' ⟨rfl, ⟨nd, rfl⟩⟩; refine ⟨_, rfl, ?_⟩))
   go_meet
   case rel => exact ⟨_, (true), zc_, H', ⟨zbg_⟩, ⟨za_⟩⟩
 case rest =>
  clear HC3
  try clear c1
  try clear p2
  try clear c5
  try clear c6
  try clear c6b0
  obtain ⟨kq, x20_2, rfl, HA, HJ2, HB⟩ := hcut
  cases kq with
  | zero => exact absurd HA.out (by simp [impl_LayersOf.j0])
  | succ kj2 =>
   have H := HA.out
   clear HA
   simp only [impl_LayersOf.j0] at H
   by_cases c7 : x20_2 = true
   ·subst c7
    have H1 : (some (([] : List Int), 0, false)) = some (r1, r2, r3) := by rw [if_pos rfl] at H; exact H
    clear H
    have H := H1
    clear H1
    simp only [Option.some.injEq, Prod.mk.injEq] at H
    obtain ⟨rfl, rfl, rfl⟩ := H
    go_wp2
    go_ret3
    exact ⟨_, zg_, zch_, za_⟩
   ·replace c7 := Bool.eq_false_iff.mpr c7
    subst c7
    have H1 : (impl_LayersOf.l0 kj2 a1 (([] : List Int)) l0 (l0.length : Int) 0) = some (r1, r2, r3) := by rw [if_neg (show ¬ (false = true) by decide)] at H; exact H
    clear H
    have H := H1
    clear H1
    obtain ⟨y329, hy329⟩ : ∃ y_ : List Int, y_ = (([] : List Int)) := ⟨_, rfl⟩
    replace H : (impl_LayersOf.l0 kj2 a1 y329 l0 (l0.length : Int) 0) = some (r1, r2, r3) := by first | (rw [hy329]; with_reducible exact H) | (have H2_ := (oS _ _).symm.trans H; rw [hy329]; with_reducible exact H2_) | (have H2_ := (oS _ _).symm.trans H; with_reducible exact H2_) | with_reducible exact H | (rw [hy329]; exact H) | exact H
    have Ny329 := aM hy329
    clear hy329
    have H' := aM H
    clear H
    go_wp2_with (first | ((with_reducible refine gate_dst (N := 21) rfl ?_); refine Kd.R_lit (Kd.int .i64) _ 3 ?hg (N := 21) ?hd (xs := ([] : List Int)) (inner := []) (ok := fun _ => True) (okp := fun _ => True) ?hr ?hp (fun _ hk => hk) trivial (Below.refl _ _) (Nat.le_refl _) (by simp) ?_; (case hd => rfl); (case hg => rfl); (case hr => exact zf_); (case hp => exact (Reps.none _ _)); intro v330 w8 ho9 hb hg_ hnew_; clear hg_ hnew_; (first | rw [← Ny329.out] at ho9 | (simp only [Int.reduceToNat] at ho9; rw [← Ny329.out] at ho9)); have n_ := z (Kd.R_lower ho9 (below_size za_)) <| z1 (below_step za_ hb); clear HB; obtain ⟨HO331, HB⟩ := n_; clear hb ho9))
    go_loopg [7, 24] kj2 (fun kq v7 v24 w' => ∃ (x7_2 : List Int) (x24_2 : Int), v24 = .int .i64 x24_2 ∧ Aside0 (impl_LayersOf.l0 kq a1 x7_2 l0 (l0.length : Int) x24_2 = some (r1, r2, r3)) ∧ Aside0 (kq ≤ kj2) ∧ Aside0 (Kd.R (Kd.int .i64) 3 w' w.heap.size (fun _ => True) v7 x7_2) ∧ Aside0 (Below w.heap.size w w'))
    case atStart => exact ⟨(y329), (0), zc_, H', ⟨Nat.le_refl _⟩, ⟨zr HO331.out⟩, ⟨za_⟩⟩
    case round =>
     clear H'
     try clear c1
     try clear p2
     try clear c5
     try clear c6
     try clear c6b0
     try clear c7
     try clear p2
     obtain ⟨x7_2, x24_2, rfl, HA, HK2, HO_7, HB⟩ := hrel
     cases gk with
     | zero => exact absurd HA.out (by simp [impl_LayersOf.l0])
     | succ k2 =>
      have H := HA.out
      clear HA
      simp only [impl_LayersOf.l0] at H
      by_cases c10 : x24_2 < (l0.length : Int)
      ·rw [if_pos c10] at H
       have c10b0 : decide (x24_2 < (l0.length : Int)) = true := decide_eq_true c10
       clear c10
       by_cases c11 : 0 ≤ x24_2
       ·rw [if_pos c11] at H
        have c11b0 : decide (0 ≤ x24_2) = true := decide_eq_true c11
        clear c11
        by_cases c12 : x24_2 < (l0.length : Int)
        ·rw [if_pos c12] at H
         have c12b0 : decide (x24_2 < (l0.length : Int)) = true := decide_eq_true c12
         clear c12
         by_cases c13 : a1 = 0
         ·rw [if_pos c13] at H
          exact absurd H (by simp)
         ·rw [if_neg c13] at H
          have c13b0 : (a1 == 0) = false := beq_eq_false_iff_ne.mpr c13
          have c13b1 : (a1 != 0) = true := bne_iff_ne.mpr c13
          by_cases c14 : x7_2.length < 17592186044416
          ·rw [if_pos c14] at H
           have LMc14 := aM c14
           clear c14
           obtain ⟨y333, hy333⟩ : ∃ y_ : List Int, y_ = (x7_2 ++ [wrap64 (Int.tdiv (rd l0 x24_2) a1)]) := ⟨_, rfl⟩
           replace H : (impl_LayersOf.l0 k2 a1 y333 l0 (l0.length : Int) (wrap64 (x24_2 + 1))) = some (r1, r2, r3) := by first | (rw [hy333]; with_reducible exact H) | (have H2_ := (oS _ _).symm.trans H; rw [hy333]; with_reducible exact H2_) | (have H2_ := (oS _ _).symm.trans H; with_reducible exact H2_) | with_reducible exact H | (rw [hy333]; exact H) | exact H
           have Ny333 := aM hy333
           clear hy333
           have H' := aM H
           clear H
           have p332 : 0 ≤ (x24_2 : Int) := of_decide_eq_true zb_
           have q332 : x24_2 < (l0.length : Int) := of_decide_eq_true zb_
           obtain ⟨ad332, e332, hx332_0⟩ := Kd.at_int HR0.out x24_2 p332 q332
           cases e332
           (try (replace hx332_0 := (HB.out.cell (World.block_lt_of_cell? w _ hx332_0)).trans hx332_0))
           replace p332 := eq_true p332
           replace q332 := eq_true q332
           go_wp2_with (first | ((with_reducible refine gate_builtin (b := .append) (xs := #[.tmp 28, .tmp 32]) rfl ?_); at_builtin; refine Kd.R_append (Kd.int .i64) (w0 := w) w.heap.size rfl (.tmp 28) (.tmp 32) 24 3 (.int .i64 0) 8 rfl Try.underlying24 info3 rfl (by decide) (by omega) u7 x7_2 (wrap64 (Int.tdiv (rd l0 x24_2) a1)) [.int .i64 (wrap64 (Int.tdiv (rd l0 x24_2) a1))] (fun _ => True) (fun _ => False) rfl rfl ?aP (fun _ hk => hk.elim) ?aF ?aO ?aB ?aS ?aL ?_; (case aP => exact rfl); (case aB => exact zcd_); (case aF => exact zcj_); (case aO => exact (zr HO_7.out)); (case aS => exact zce_); (case aL => have := LMc14.out; omega); intro v334 w15 ho hb hg hat; rw [← Ny333.out] at ho; have n_ := z (hb) <| z1 (ho); clear HB HO_7; obtain ⟨HB, HO335⟩ := n_; clear ho hb hg hat))
           go_roundg k2
           case measure => have := HJ2.out; have := HK2.out; omega
           case rel => exact ⟨(y333), (wrap64 (x24_2 + 1)), zc_, H', ⟨by have := HJ2.out; have := HK2.out; omega⟩, ⟨zr HO335.out⟩, ⟨za_⟩⟩
          ·rw [if_neg c14] at H
           exact absurd H (by simp)
        ·rw [if_neg c12] at H
         exact absurd H (by simp)
       ·rw [if_neg c11] at H
        exact absurd H (by simp)
      ·rw [if_neg c10] at H
       have c10b0 : decide (x24_2 < (l0.length : Int)) = false := decide_eq_false c10
       clear c10
       replace H := oB.mp H
       obtain ⟨t336, A160, H⟩ := H
       replace H : (some (x7_2, wrap64 (t336 + 1), true)) = some (r1, r2, r3) := H
       have A16 := aM A160
       clear A160
       simp only [Option.some.injEq, Prod.mk.injEq] at H
       obtain ⟨rfl, rfl, rfl⟩ := H
       obtain ⟨Ao17, co17, eo17⟩ := Kd.R_slice HO_7.out
       subst eo17
       go_wp2_with (first | ((with_reducible refine gate_callee (f := 105) rfl ?_); refine goesL_ (some 37) rfl rfl Try.func105 (by kernel_rfl) rfl #[.slice Ao17 x7_2.length co17] rfl zd_ ?_; (with_reducible refine (impl_greatest.calls k2 _ _ x7_2 t336 _ ?side1 ?side2 A16.out).mono ?_); (case side1 => repeat (first | exact (Kd.R_reads' HO_7.out).2.2 | (with_reducible refine cA ?_ _) | (with_reducible refine cN ?_ _) | (with_reducible refine cD ?_))); (case side2 => exact (Kd.R_reads' HO_7.out).2.1); rintro e w18 ⟨rfl, hb⟩; refine ⟨_, rfl, ?_⟩; have n_ := z (Kd.R_below (zr HO_7.out) hb) <| z1 (below_step za_ hb); clear HO_7 HB; obtain ⟨HO_7, HB⟩ := n_; (try clear hb)))
       go_ret3
       exact ⟨_, zg_, by refine zr ?_; exact HO_7.out, za_⟩
end Go.Proofs.Ytbkighlfgaifeaa.QFnTracks
