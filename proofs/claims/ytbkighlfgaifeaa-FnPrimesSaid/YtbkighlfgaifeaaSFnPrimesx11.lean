/- Functions of the law FnPrimes, each as a Lean function, and the proofs that the Go code comes to their answers. Made by wip/gen/slim.py. Conditions: those of each theorem. -/
import Derived.Test.YtbkighlfgaifeaaSFnPrimesx0
import Derived.Test.YtbkighlfgaifeaaSFnPrimesx2
import Derived.Test.YtbkighlfgaifeaaSFnPrimesx6
import Derived.Test.YtbkighlfgaifeaaSFnPrimesx10
namespace Go.Proofs.Ytbkighlfgaifeaa.QFnPrimes
open Go.RowKit Go.Proofs.YtbkighlfgaifeaaW.PrintWords Go.Proofs.YtbkighlfgaifeaaW.PrintLast Go.Proofs.YtbkighlfgaifeaaW.PrintMore
open Go.Proofs.YtbkighlfgaifeaaW.PrintWords renaming pw_below_drewN → pN, below_drew1 → p1, below_alloc → pA
open Go.Proofs.YtbkighlfgaifeaaW.PrintWords.Kd renaming R_alloc → kA, R_drewN → kN, R_drew → kD, Q_alloc → qA, Q_drewN → qN, Q_drew → qD, C_alloc → cA, C_drewN → cN, C_drew → cD
open Go.Proofs.YtbkighlfgaifeaaW.PrintWords.Aside0 renaming mk → aM
open List renaming setIfInBounds_toArray → sI, set_cons_zero → s0, set_cons_succ → sS, map_toArray → mT, length_take → lT, length_drop → lD, map_cons → mC, map_nil → mN
open Option renaming bind_eq_some_iff → oB, bind_some → oS
attribute [local go_sem] max2_int min2_int max_two min_two max_three min_three max_four min_four
set_option maxHeartbeats 8000000
set_option maxRecDepth 100000
set_option linter.unusedVariables false
set_option linter.unusedSimpArgs false
def spec_nfTerm.f (a0 : Int) (a1_0 : Int) (a1_1 : Int) : Option (Bool) := (spec_ttInputs.f a0).bind fun t358 => (if t358 = true then (if 0 ≤ (IntKind.u64.wrap (a0)) then ((spec_l1In.f a1_0 0 (wrap64 ((shl .i64 1 (IntKind.u64.wrap (a0))) - 1))).bind fun t359 => (if t359 = true then ((spec_l1In.f a1_1 0 a1_0).bind fun t360 => (if t360 = true then (some ((Go.bits .and .i64 a1_1 a1_0) == a1_1)) else (some false))) else (some false))) else (none)) else (some false))
theorem spec_nfTerm.calls (a0 : Int) (a1_0 : Int) (a1_1 : Int) (r : Bool) (w : World) (h : spec_nfTerm.f a0 a1_0 a1_1 = some r) :
  Calls Try.prog 135 #[.int .i64 a0, .agg #[.int .i64 a1_0, .int .i64 a1_1]] w fun e w' => e = .returned (.bool r) ∧ Below w.heap.size w w' := by
 have hu72 := Try.underlying72
 have HB := aM (Below.refl w.heap.size w)
 have H : ((spec_ttInputs.f a0).bind fun t358 => (if t358 = true then (if 0 ≤ (IntKind.u64.wrap (a0)) then ((spec_l1In.f a1_0 0 (wrap64 ((shl .i64 1 (IntKind.u64.wrap (a0))) - 1))).bind fun t359 => (if t359 = true then ((spec_l1In.f a1_1 0 a1_0).bind fun t360 => (if t360 = true then (some ((Go.bits .and .i64 a1_1 a1_0) == a1_1)) else (some false))) else (some false))) else (none)) else (some false))) = some r := h
 clear h
 replace H := oB.mp H
 obtain ⟨t358, A30, H⟩ := H
 replace H : (if t358 = true then (if 0 ≤ (IntKind.u64.wrap (a0)) then ((spec_l1In.f a1_0 0 (wrap64 ((shl .i64 1 (IntKind.u64.wrap (a0))) - 1))).bind fun t359 => (if t359 = true then ((spec_l1In.f a1_1 0 a1_0).bind fun t360 => (if t360 = true then (some ((Go.bits .and .i64 a1_1 a1_0) == a1_1)) else (some false))) else (some false))) else (none)) else (some false)) = some r := H
 have A3 := aM A30
 clear A30
 by_cases c4 : t358 = true
 ·subst c4
  have H1 : (if 0 ≤ (IntKind.u64.wrap (a0)) then ((spec_l1In.f a1_0 0 (wrap64 ((shl .i64 1 (IntKind.u64.wrap (a0))) - 1))).bind fun t359 => (if t359 = true then ((spec_l1In.f a1_1 0 a1_0).bind fun t360 => (if t360 = true then (some ((Go.bits .and .i64 a1_1 a1_0) == a1_1)) else (some false))) else (some false))) else (none)) = some r := by rw [if_pos rfl] at H; exact H
  clear H; have H := H1; clear H1; obtain ⟨ji5, hji5⟩ : ∃ j_ : Int, (IntKind.u64.wrap (a0)) = j_ := ⟨_, rfl⟩; replace H : (if 0 ≤ (ji5) then ((spec_l1In.f a1_0 0 (wrap64 ((shl .i64 1 (ji5)) - 1))).bind fun t359 => (if t359 = true then ((spec_l1In.f a1_1 0 a1_0).bind fun t360 => (if t360 = true then (some ((Go.bits .and .i64 a1_1 a1_0) == a1_1)) else (some false))) else (some false))) else (none)) = some r := by first | (rw [hji5] at H; exact H) | (simp only [hji5] at H ⊢; exact H)
  (try rw [hji5] at A3)
  by_cases c6 : 0 ≤ (ji5)
  ·rw [if_pos c6] at H
   have c6b0 := eq_true c6; have c6b1 : decide (0 ≤ (ji5)) = true := decide_eq_true c6; clear c6; obtain ⟨ji7, hji7⟩ : ∃ j_ : Int, (shl .i64 1 (ji5)) = j_ := ⟨_, rfl⟩; replace H : ((spec_l1In.f a1_0 0 (wrap64 ((ji7) - 1))).bind fun t359 => (if t359 = true then ((spec_l1In.f a1_1 0 a1_0).bind fun t360 => (if t360 = true then (some ((Go.bits .and .i64 a1_1 a1_0) == a1_1)) else (some false))) else (some false))) = some r := by first | (rw [hji7] at H; exact H) | (simp only [hji7] at H ⊢; exact H)
   (try rw [hji7] at A3); have hji7_ : (IntKind.i64.wrap (1 * 2 ^ min (ji5).toNat 64)) = ji7 := hji7; have hji7z : (ji5) ≤ 64 → (IntKind.i64.wrap (1 * 2 ^ (ji5).toNat)) = ji7 := shl_small hji7; have hji7u : (IntKind.i64.wrap (2 ^ min (ji5).toNat 64)) = ji7 := by have h_ := hji7_; rw [Int.one_mul] at h_; exact h_
   have hji7v : (ji5) ≤ 64 → (IntKind.i64.wrap (2 ^ (ji5).toNat)) = ji7 := fun hle_ => by have h_ := hji7z hle_; rw [Int.one_mul] at h_; exact h_
   have hji7y : (wrap64 (1 * 2 ^ min (ji5).toNat 64)) = ji7 := (i64_w _).symm.trans hji7_; have hji7x : (ji5) ≤ 64 → (wrap64 (1 * 2 ^ (ji5).toNat)) = ji7 := fun h_ => (i64_w _).symm.trans (hji7z h_)
   replace H := oB.mp H; obtain ⟨t359, A80, H⟩ := H; replace H : (if t359 = true then ((spec_l1In.f a1_1 0 a1_0).bind fun t360 => (if t360 = true then (some ((Go.bits .and .i64 a1_1 a1_0) == a1_1)) else (some false))) else (some false)) = some r := H; have A8 := aM A80; clear A80
   by_cases c9 : t359 = true
   ·subst c9
    have H1 : ((spec_l1In.f a1_1 0 a1_0).bind fun t360 => (if t360 = true then (some ((Go.bits .and .i64 a1_1 a1_0) == a1_1)) else (some false))) = some r := by rw [if_pos rfl] at H; exact H
    clear H; have H := H1; clear H1; replace H := oB.mp H; obtain ⟨t360, A100, H⟩ := H; replace H : (if t360 = true then (some ((Go.bits .and .i64 a1_1 a1_0) == a1_1)) else (some false)) = some r := H; have A10 := aM A100; clear A100
    by_cases c11 : t360 = true
    ·subst c11
     have H1 : (some ((Go.bits .and .i64 a1_1 a1_0) == a1_1)) = some r := by rw [if_pos rfl] at H; exact H
     clear H; have H := H1; clear H1; obtain rfl := Option.some.inj H
     go_enter Try.func135, Try.ntmps135
     go_wp2_with (first | ((with_reducible refine gate_dst (N := 3) rfl ?_); refine box_event ?hg (N := 3) ?hd (cs := #[.int .i64 a1_0, .int .i64 a1_1]) (t := 72) ?hr ?_; (case hd => rfl); (case hg => rfl); (case hr => exact zc_); intro gb357 hg w12 hbox hb; have n_ := z (below_step za_ hb) <| z (hbox) <| z ((by rw [hg]; exact (below_size za_) : w.heap.size ≤ gb357)) <| z1 ((by rw [hg]; exact (below_size za_) : w.heap.size ≤ gb357)); clear HB; obtain ⟨HB, BK357, GW357, GE357⟩ := n_; clear hb hbox hg) | ((with_reducible refine gate_callee (f := 144) rfl ?_); refine goesL_ (some 6) rfl rfl Try.func144 (by kernel_rfl) rfl #[.int .i64 a0] rfl ze_ ?_; (with_reducible refine (spec_ttInputs.calls a0 true _ A3.out).mono ?_); rintro e w' ⟨rfl, ⟨nd, rfl⟩⟩; refine ⟨_, rfl, ?_⟩; have hcz13_0 : w12.cell? ⟨gb357, 0, none⟩ = some (.int .i64 a1_0) := (blk_cell BK357.out 0).trans rfl; have hcz13_1 : w12.cell? ⟨gb357, 1, none⟩ = some (.int .i64 a1_1) := (blk_cell BK357.out 1).trans rfl; have hfz13_0 := blk_frozen BK357.out 0; have hfz13_1 := blk_frozen BK357.out 1) | (go_at_call 108; (with_reducible refine (spec_l1In.calls a1_0 0 (wrap64 ((ji7) - 1)) true _ A8.out).mono ?_); rintro e w' ⟨rfl, ⟨nd, rfl⟩⟩) | (go_at_call 108; (with_reducible refine (spec_l1In.calls a1_1 0 a1_0 true _ A10.out).mono ?_); rintro e w' ⟨rfl, ⟨nd, rfl⟩⟩))
     go_ret
     exact ⟨zgg_, zja_⟩
    ·replace c11 := Bool.eq_false_iff.mpr c11
     subst c11; have H1 : (some false) = some r := by rw [if_neg (show ¬ (false = true) by decide)] at H; exact H
     clear H; have H := H1; clear H1; obtain rfl := Option.some.inj H
     go_enter Try.func135, Try.ntmps135
     go_wp2_with (first | ((with_reducible refine gate_dst (N := 3) rfl ?_); refine box_event ?hg (N := 3) ?hd (cs := #[.int .i64 a1_0, .int .i64 a1_1]) (t := 72) ?hr ?_; (case hd => rfl); (case hg => rfl); (case hr => exact zc_); intro gb357 hg w14 hbox hb; have n_ := z (below_step za_ hb) <| z (hbox) <| z ((by rw [hg]; exact (below_size za_) : w.heap.size ≤ gb357)) <| z1 ((by rw [hg]; exact (below_size za_) : w.heap.size ≤ gb357)); clear HB; obtain ⟨HB, BK357, GW357, GE357⟩ := n_; clear hb hbox hg) | ((with_reducible refine gate_callee (f := 144) rfl ?_); refine goesL_ (some 6) rfl rfl Try.func144 (by kernel_rfl) rfl #[.int .i64 a0] rfl ze_ ?_; (with_reducible refine (spec_ttInputs.calls a0 true _ A3.out).mono ?_); rintro e w' ⟨rfl, ⟨nd, rfl⟩⟩; refine ⟨_, rfl, ?_⟩; have hcz15_0 : w14.cell? ⟨gb357, 0, none⟩ = some (.int .i64 a1_0) := (blk_cell BK357.out 0).trans rfl; have hcz15_1 : w14.cell? ⟨gb357, 1, none⟩ = some (.int .i64 a1_1) := (blk_cell BK357.out 1).trans rfl; have hfz15_0 := blk_frozen BK357.out 0; have hfz15_1 := blk_frozen BK357.out 1) | (go_at_call 108; (with_reducible refine (spec_l1In.calls a1_0 0 (wrap64 ((ji7) - 1)) true _ A8.out).mono ?_); rintro e w' ⟨rfl, ⟨nd, rfl⟩⟩) | (go_at_call 108; (with_reducible refine (spec_l1In.calls a1_1 0 a1_0 false _ A10.out).mono ?_); rintro e w' ⟨rfl, ⟨nd, rfl⟩⟩))
     go_ret
     exact ⟨zgg_, zja_⟩
   ·replace c9 := Bool.eq_false_iff.mpr c9
    subst c9; have H1 : (some false) = some r := by rw [if_neg (show ¬ (false = true) by decide)] at H; exact H
    clear H; have H := H1; clear H1; obtain rfl := Option.some.inj H
    go_enter Try.func135, Try.ntmps135
    go_wp2_with (first | ((with_reducible refine gate_dst (N := 3) rfl ?_); refine box_event ?hg (N := 3) ?hd (cs := #[.int .i64 a1_0, .int .i64 a1_1]) (t := 72) ?hr ?_; (case hd => rfl); (case hg => rfl); (case hr => exact zc_); intro gb357 hg w16 hbox hb; have n_ := z (below_step za_ hb) <| z (hbox) <| z ((by rw [hg]; exact (below_size za_) : w.heap.size ≤ gb357)) <| z1 ((by rw [hg]; exact (below_size za_) : w.heap.size ≤ gb357)); clear HB; obtain ⟨HB, BK357, GW357, GE357⟩ := n_; clear hb hbox hg) | ((with_reducible refine gate_callee (f := 144) rfl ?_); refine goesL_ (some 6) rfl rfl Try.func144 (by kernel_rfl) rfl #[.int .i64 a0] rfl ze_ ?_; (with_reducible refine (spec_ttInputs.calls a0 true _ A3.out).mono ?_); rintro e w' ⟨rfl, ⟨nd, rfl⟩⟩; refine ⟨_, rfl, ?_⟩; have hcz17_0 : w16.cell? ⟨gb357, 0, none⟩ = some (.int .i64 a1_0) := (blk_cell BK357.out 0).trans rfl; have hcz17_1 : w16.cell? ⟨gb357, 1, none⟩ = some (.int .i64 a1_1) := (blk_cell BK357.out 1).trans rfl; have hfz17_0 := blk_frozen BK357.out 0; have hfz17_1 := blk_frozen BK357.out 1) | (go_at_call 108; (with_reducible refine (spec_l1In.calls a1_0 0 (wrap64 ((ji7) - 1)) false _ A8.out).mono ?_); rintro e w' ⟨rfl, ⟨nd, rfl⟩⟩))
    go_ret
    exact ⟨zgg_, zja_⟩
  ·rw [if_neg c6] at H
   exact absurd H (by simp)
 ·replace c4 := Bool.eq_false_iff.mpr c4
  subst c4; have H1 : (some false) = some r := by rw [if_neg (show ¬ (false = true) by decide)] at H; exact H
  clear H; have H := H1; clear H1; obtain rfl := Option.some.inj H
  go_enter Try.func135, Try.ntmps135
  go_wp2_with (first | ((with_reducible refine gate_dst (N := 3) rfl ?_); refine box_event ?hg (N := 3) ?hd (cs := #[.int .i64 a1_0, .int .i64 a1_1]) (t := 72) ?hr ?_; (case hd => rfl); (case hg => rfl); (case hr => exact zc_); intro gb357 hg w18 hbox hb; have n_ := z (below_step za_ hb) <| z (hbox) <| z ((by rw [hg]; exact (below_size za_) : w.heap.size ≤ gb357)) <| z1 ((by rw [hg]; exact (below_size za_) : w.heap.size ≤ gb357)); clear HB; obtain ⟨HB, BK357, GW357, GE357⟩ := n_; clear hb hbox hg) | ((with_reducible refine gate_callee (f := 144) rfl ?_); refine goesL_ (some 6) rfl rfl Try.func144 (by kernel_rfl) rfl #[.int .i64 a0] rfl ze_ ?_; (with_reducible refine (spec_ttInputs.calls a0 false _ A3.out).mono ?_); rintro e w' ⟨rfl, ⟨nd, rfl⟩⟩; refine ⟨_, rfl, ?_⟩))
  go_ret
  exact ⟨zi_, zja_⟩
def spec_l1Num.f : Nat → Int → Option (ByteArray)
 | 0, _ => none
 | k + 1, a0 => if a0 < 10 then (some (strOfNums (([(wrap64 (48 + a0)) % 256] : List Int)))) else ((spec_l1Num.f k (wrap64 (Int.tdiv a0 10))).bind fun t364 => ((some (([(wrap64 (48 + (Int.tmod a0 10))) % 256] : List Int) : List Int)).bind fun y365 => (if t364.size + (strOfNums y365).size ≤ 9223372036854775807 then (some (t364 ++ (strOfNums y365))) else (none))))
def spec_l1Num.T3 : Bool × List (List Nat × List Nat) := (true, [([], []), ([0], [0]), ([1], [1]), ([], []), ([3], [3]), ([4], [4]), ([5], [5]), ([6], [6]), ([7], [7]), ([2, 8], [2, 8]), ([9, 2, 0, 1, 2, 3, 4, 5, 6, 7, 8, 9], [9])])
def spec_l1Num.B3 : List Nat := [0, 1, 3, 0, 8, 24, 56, 120, 248, 511, 1023]
theorem spec_l1Num.tab3 : rtab .any (opsOf Try.f182 3) = spec_l1Num.T3 := by kernel_rfl
theorem spec_l1Num.bits3 : waitsOk spec_l1Num.T3.2 spec_l1Num.B3 = true := by kernel_rfl
theorem spec_l1Num.calls (k : Nat) : ∀ (a0 : Int) (r : ByteArray) (w : World) (h : spec_l1Num.f k a0 = some r),
  Calls Try.prog 182 #[.int .i64 a0] w fun e w' => e = .returned (.string r) ∧ Below w.heap.size w w' := by
 induction k using Nat.strongRecOn with
 | _ k ih =>
 intro a0 r w h
 cases k with
 | zero => exact absurd h (by simp [spec_l1Num.f])
 | succ k =>
 simp only [spec_l1Num.f] at h
 have HB := aM (Below.refl w.heap.size w)
 have H : (if a0 < 10 then (some (strOfNums (([(wrap64 (48 + a0)) % 256] : List Int)))) else ((spec_l1Num.f k (wrap64 (Int.tdiv a0 10))).bind fun t364 => ((some (([(wrap64 (48 + (Int.tmod a0 10))) % 256] : List Int) : List Int)).bind fun y365 => (if t364.size + (strOfNums y365).size ≤ 9223372036854775807 then (some (t364 ++ (strOfNums y365))) else (none))))) = some r := h
 clear h
 by_cases c2 : a0 < 10
 ·rw [if_pos c2] at H
  have c2b0 : decide (a0 < 10) = true := decide_eq_true c2; clear c2; obtain ⟨y361, hy361⟩ : ∃ y_ : List Int, y_ = (([(wrap64 (48 + a0)) % 256] : List Int)) := ⟨_, rfl⟩; replace H : (some (strOfNums y361)) = some r := by first | (rw [hy361]; with_reducible exact H) | (have H2_ := (oS _ _).symm.trans H; rw [hy361]; with_reducible exact H2_) | (have H2_ := (oS _ _).symm.trans H; with_reducible exact H2_) | with_reducible exact H | (rw [hy361]; exact H) | exact H
  have Ny361 := aM hy361; clear hy361; obtain rfl := Option.some.inj H
  go_enter Try.func182, Try.ntmps182
  go_wp2_with (first | ((with_reducible refine gate_dst (N := 8) rfl ?_); refine Kd.R_lit (Kd.int .u8) _ 5 ?hg (N := 8) ?hd (xs := ([(wrap64 (48 + a0)) % 256] : List Int)) (inner := [.int .u8 ((wrap64 (48 + a0)) % 256)]) (ok := fun _ => True) (okp := fun _ => True) ?hr ?hp (fun _ hk => hk) trivial (Below.refl _ _) (Nat.le_refl _) (by simp) ?_; (case hd => rfl); (case hg => rfl); (case hr => exact zc_); (case hp => exact (Reps.one (show Kd.M (Kd.int .u8) _ _ _ ((wrap64 (48 + a0)) % 256) [.int .u8 ((wrap64 (48 + a0)) % 256)] from rfl) (Reps.none _ _))); intro v362 w3 ho4 hb hg_ hnew_; clear hg_ hnew_; (first | rw [← Ny361.out] at ho4 | (simp only [Int.reduceToNat] at ho4; rw [← Ny361.out] at ho4)); have n_ := z (Kd.R_lower ho4 (below_size za_)) <| z1 (below_step za_ hb); clear HB; obtain ⟨HO363, HB⟩ := n_; clear hb ho4; have hcv5 := own_string (P := Try.prog) Try.underlying22 Try.underlying5 Try.underlying9 (Kd.own_of_R HO363.out)))
  go_ret
  exact ⟨zi_, za_⟩
 ·rw [if_neg c2] at H
  have c2b0 : decide (a0 < 10) = false := decide_eq_false c2; clear c2; replace H := oB.mp H; obtain ⟨t364, A60, H⟩ := H; replace H : ((some (([(wrap64 (48 + (Int.tmod a0 10))) % 256] : List Int) : List Int)).bind fun y365 => (if t364.size + (strOfNums y365).size ≤ 9223372036854775807 then (some (t364 ++ (strOfNums y365))) else (none))) = some r := H; have A6 := aM A60; clear A60; obtain ⟨y365, hy365⟩ : ∃ y_ : List Int, y_ = (([(wrap64 (48 + (Int.tmod a0 10))) % 256] : List Int)) := ⟨_, rfl⟩; replace H : (if t364.size + (strOfNums y365).size ≤ 9223372036854775807 then (some (t364 ++ (strOfNums y365))) else (none)) = some r := by first | (rw [hy365]; with_reducible exact H) | (have H2_ := (oS _ _).symm.trans H; rw [hy365]; with_reducible exact H2_) | (have H2_ := (oS _ _).symm.trans H; with_reducible exact H2_) | with_reducible exact H | (rw [hy365]; exact H) | exact H
  have Ny365 := aM hy365; clear hy365
  by_cases c7 : t364.size + (strOfNums y365).size ≤ 9223372036854775807
  ·rw [if_pos c7] at H
   have c7b0 := eq_true c7; have c7b1 : decide (t364.size + (strOfNums y365).size ≤ 9223372036854775807) = true := decide_eq_true c7; (try have c7b2 : (9223372036854775807 < t364.size + (strOfNums y365).size) = False := eq_false (Nat.not_lt.2 c7)); obtain rfl := Option.some.inj H
   go_enter Try.func182, Try.ntmps182
   (try go_wp2); have n0_ := aM (p1 HB.out); clear HB; have HB := n0_; clear n0_
   refine start_ (n := 11) (S := fun w' => True) (ds := []) #[fi,fi,fi,fi,fi,fi,fi,fi,fi,fi,fi] (by kernel_rfl) rfl rfl trivial (fun hHeld => ?_); refine with_tabW spec_l1Num.tab3 spec_l1Num.bits3 (fun HT_ HW_ => ?_)
   generalize w.drew = w8 at HB hHeld ⊢; refine py_ 0 10 HT_.out ?_; refine py_ 1 11 HT_.out ?_; refine py_ 3 13 HT_.out ?_; refine py_ 4 14 HT_.out ?_; refine py_ 5 15 HT_.out ?_; refine py_ 6 16 HT_.out ?_
   refine join_ (σ := Value) 2 #[ti,ti,ti,ti,ti,ti,ti,ti,ti,fi,fi] (fun s_ => [(12, .string t364), (17, s_), (18, .string (strOfNums y365))]) (fun s_ w' => (Kd.R (Kd.int .u8) 5 w' w.heap.size (fun _ => True) s_ y365) ∧ (Below w.heap.size w w')) ?_ ?_
   rotate_left
   ·intro hCont
    refine two_ (i := 2) (j := 7) (Ni := some 12) (Nj := some 17) #[ti,ti,ti,ti,ti,ti,ti,fi,fi,fi,fi] #[ti,ti,fi,ti,ti,ti,ti,ti,fi,fi,fi] rfl rfl rfl rfl (two_of HT_.out (by kernel_rfl)) (by decide) (by decide) (fun K hK => ?_) (fun K hK => ?_)
    ·skip
     refine goes_ Try.func182 (by kernel_rfl) rfl #[.int .i64 (wrap64 (Int.tdiv a0 10))] (by rfl) rfl rfl ze_ ?_
     with_reducible refine (ih k (by omega) (wrap64 (Int.tdiv a0 10)) t364 _ A6.out).mono ?_
     rintro e w9 ⟨rfl, hb⟩
     refine ⟨_, rfl, ?_⟩
     have n0_ := aM (below_step za_ hb); clear HB; have HB := n0_; clear n0_; (try clear hb); (try clear hb2); (try clear hk); (try clear hi)
     refine hK.out _ _ trivial (fun hHeld => ?_)
     clear hK K
     refine norm_ (a' := ?_) ?_ ?_
     rotate_left
     ·show Act.put _ (some 12) _ = _
      simp only [Act.put, sI, s0, sS, i64_w, i32_w]
      rfl
     refine one_ (i := 7) (N := some 17) #[ti,ti,ti,ti,ti,ti,ti,ti,fi,fi,fi] rfl rfl (one_of HT_.out (by kernel_rfl)) (by decide) (fun K hK => ?_)
     refine Kd.R_lit_step (Kd.int .u8) _ 5 ?hg (N := 17) ?hd (xs := ([(wrap64 (48 + (Int.tmod a0 10))) % 256] : List Int)) (inner := [.int .u8 ((wrap64 (48 + (Int.tmod a0 10))) % 256)]) (ok := fun _ => True) (okp := fun _ => True) ?hr ?hp (fun _ hk => hk) trivial (Below.refl _ _) (Nat.le_refl _) (by simp) ?_; (case hd => rfl); (case hg => rfl); (case hr => exact zc_); (case hp => exact (Reps.one (show Kd.M (Kd.int .u8) _ _ _ ((wrap64 (48 + (Int.tmod a0 10))) % 256) [.int .u8 ((wrap64 (48 + (Int.tmod a0 10))) % 256)] from rfl) (Reps.none _ _)))
     intro v366 w10 ho11 hb hg_ hnew_
     clear hg_ hnew_; (first | rw [← Ny365.out] at ho11 | (simp only [Int.reduceToNat] at ho11; rw [← Ny365.out] at ho11)); have n_ := z (Kd.R_lower ho11 (below_size za_)) <| z1 (below_step za_ hb)
     clear HB; obtain ⟨HO367, HB⟩ := n_; clear hb ho11
     refine hK.out _ _ trivial (fun hHeld => ?_)
     clear hK K
     refine norm_ (a' := ?_) ?_ ?_
     rotate_left
     ·show Act.put _ (some 17) _ = _
      simp only [Act.put, sI, s0, sS, i64_w, i32_w]
      rfl
     refine one_ (i := 8) (N := some 18) #[ti,ti,ti,ti,ti,ti,ti,ti,ti,fi,fi] rfl rfl (one_of HT_.out (by kernel_rfl)) (by decide) (fun K hK => ?_)
     have hcv12 := own_string (P := Try.prog) Try.underlying22 Try.underlying5 Try.underlying9 (Kd.own_of_R HO367.out)
     refine value_ (w1 := ?_) (v := ?_) (by rfl) rfl ?_ ?_
     rotate_left 2
     ·go_simp
      constructor
      ·rfl
      ·rfl
     clear hcv12
     refine hK.out _ _ trivial (fun hHeld => ?_)
     clear hK K
     refine norm_ (a' := ?_) ?_ ?_
     rotate_left
     ·show Act.put _ (some 18) _ = _
      simp only [Act.put, sI, s0, sS, i64_w, i32_w]
      rfl
     exact norm_ (by simp only [putAll, Act.put, sI, s0, sS]) (hCont (v366) _ ⟨(zr HO367.out), za_⟩)
    ·skip
     refine Kd.R_lit_step (Kd.int .u8) _ 5 ?hg (N := 17) ?hd (xs := ([(wrap64 (48 + (Int.tmod a0 10))) % 256] : List Int)) (inner := [.int .u8 ((wrap64 (48 + (Int.tmod a0 10))) % 256)]) (ok := fun _ => True) (okp := fun _ => True) ?hr ?hp (fun _ hk => hk) trivial (Below.refl _ _) (Nat.le_refl _) (by simp) ?_; (case hd => rfl); (case hg => rfl); (case hr => exact zc_); (case hp => exact (Reps.one (show Kd.M (Kd.int .u8) _ _ _ ((wrap64 (48 + (Int.tmod a0 10))) % 256) [.int .u8 ((wrap64 (48 + (Int.tmod a0 10))) % 256)] from rfl) (Reps.none _ _)))
     intro v366 w9 ho10 hb hg_ hnew_
     clear hg_ hnew_; (first | rw [← Ny365.out] at ho10 | (simp only [Int.reduceToNat] at ho10; rw [← Ny365.out] at ho10)); have n_ := z (Kd.R_lower ho10 (below_size za_)) <| z1 (below_step za_ hb)
     clear HB; obtain ⟨HO367, HB⟩ := n_; clear hb ho10
     refine hK.out _ _ trivial (fun hHeld => ?_)
     clear hK K
     refine norm_ (a' := ?_) ?_ ?_
     rotate_left
     ·show Act.put _ (some 17) _ = _
      simp only [Act.put, sI, s0, sS, i64_w, i32_w]
      rfl
     refine two_ (i := 2) (j := 8) (Ni := some 12) (Nj := some 18) #[ti,ti,ti,ti,ti,ti,ti,ti,fi,fi,fi] #[ti,ti,fi,ti,ti,ti,ti,ti,ti,fi,fi] rfl rfl rfl rfl (two_of HT_.out (by kernel_rfl)) (by decide) (by decide) (fun K hK => ?_) (fun K hK => ?_)
     ·skip
      refine goes_ Try.func182 (by kernel_rfl) rfl #[.int .i64 (wrap64 (Int.tdiv a0 10))] (by rfl) rfl rfl ze_ ?_
      with_reducible refine (ih k (by omega) (wrap64 (Int.tdiv a0 10)) t364 _ A6.out).mono ?_
      rintro e w11 ⟨rfl, hb⟩
      refine ⟨_, rfl, ?_⟩
      have n_ := z (Kd.R_below (zr HO367.out) hb) <| z1 (below_step za_ hb)
      clear HO367 HB; obtain ⟨HO367, HB⟩ := n_; (try clear hb); (try clear hb2); (try clear hk); (try clear hi)
      refine hK.out _ _ trivial (fun hHeld => ?_)
      clear hK K
      refine norm_ (a' := ?_) ?_ ?_
      rotate_left
      ·show Act.put _ (some 12) _ = _
       simp only [Act.put, sI, s0, sS, i64_w, i32_w]
       rfl
      refine one_ (i := 8) (N := some 18) #[ti,ti,ti,ti,ti,ti,ti,ti,ti,fi,fi] rfl rfl (one_of HT_.out (by kernel_rfl)) (by decide) (fun K hK => ?_)
      have hcv12 := own_string (P := Try.prog) Try.underlying22 Try.underlying5 Try.underlying9 (Kd.own_of_R HO367.out)
      refine value_ (w1 := ?_) (v := ?_) (by rfl) rfl ?_ ?_
      rotate_left 2
      ·go_simp
       constructor
       ·rfl
       ·rfl
      clear hcv12
      refine hK.out _ _ trivial (fun hHeld => ?_)
      clear hK K
      refine norm_ (a' := ?_) ?_ ?_
      rotate_left
      ·show Act.put _ (some 18) _ = _
       simp only [Act.put, sI, s0, sS, i64_w, i32_w]
       rfl
      exact norm_ (by simp only [putAll, Act.put, sI, s0, sS]) (hCont (v366) _ ⟨(zr HO367.out), za_⟩)
     ·skip
      have hcv11 := own_string (P := Try.prog) Try.underlying22 Try.underlying5 Try.underlying9 (Kd.own_of_R HO367.out)
      refine value_ (w1 := ?_) (v := ?_) (by rfl) rfl ?_ ?_
      rotate_left 2
      ·go_simp
       constructor
       ·rfl
       ·rfl
      clear hcv11
      refine hK.out _ _ trivial (fun hHeld => ?_)
      clear hK K
      refine norm_ (a' := ?_) ?_ ?_
      rotate_left
      ·show Act.put _ (some 18) _ = _
       simp only [Act.put, sI, s0, sS, i64_w, i32_w]
       rfl
      refine one_ (i := 2) (N := some 12) #[ti,ti,ti,ti,ti,ti,ti,ti,ti,fi,fi] rfl rfl (one_of HT_.out (by kernel_rfl)) (by decide) (fun K hK => ?_)
      refine goes_ Try.func182 (by kernel_rfl) rfl #[.int .i64 (wrap64 (Int.tdiv a0 10))] (by rfl) rfl rfl ze_ ?_
      with_reducible refine (ih k (by omega) (wrap64 (Int.tdiv a0 10)) t364 _ A6.out).mono ?_
      rintro e w12 ⟨rfl, hb⟩
      refine ⟨_, rfl, ?_⟩
      have n_ := z (Kd.R_below (zr HO367.out) hb) <| z1 (below_step za_ hb)
      clear HO367 HB; obtain ⟨HO367, HB⟩ := n_; (try clear hb); (try clear hb2); (try clear hk); (try clear hi)
      refine hK.out _ _ trivial (fun hHeld => ?_)
      clear hK K
      refine norm_ (a' := ?_) ?_ ?_
      rotate_left
      ·show Act.put _ (some 12) _ = _
       simp only [Act.put, sI, s0, sS, i64_w, i32_w]
       rfl
      exact norm_ (by simp only [putAll, Act.put, sI, s0, sS]) (hCont (v366) _ ⟨(zr HO367.out), za_⟩)
   rintro v366 w13 ⟨h0_, h1_⟩
   have n0_ : Aside0 (Kd.R (Kd.int .u8) 5 w13 w.heap.size (fun _ => True) v366 y365) := ⟨h0_⟩; have n1_ : Aside0 (Below w.heap.size w w13) := ⟨h1_⟩; clear HB h0_ h1_; have HO367 := n0_; have HB := n1_; clear n0_ n1_; have hHeld := trivial
   refine norm_ (a' := ?_) ?_ ?_
   rotate_left
   ·simp only [putAll, Act.put, sI, s0, sS]
    rfl
   refine py_ 9 19 HT_.out ?_; refine py_ 10 2 HT_.out ?_
   refine done_ (done_of HT_.out (by kernel_rfl)) ?_
   (try go_wp2)
   go_ret
   exact ⟨zi_, za_⟩
  ·rw [if_neg c7] at H
   exact absurd H (by simp)
def spec_nfText.l0 : Nat → Int → ByteArray → Int → Int → Int → Option (ByteArray)
 | 0, _, _, _, _, _ => none
 | k + 1, x0, x5, x6, x369000, x369001 => if x6 < x0 then ((spec_ttBit.f x369000 x6).bind fun t369 => (if t369 = 0 then (if x5.size + 1 ≤ 9223372036854775807 then (spec_nfText.l0 k x0 (x5 ++ (⟨#[45]⟩ : ByteArray)) (wrap64 (x6 + 1)) x369000 x369001) else (none)) else ((spec_ttBit.f x369001 x6).bind fun t370 => ((spec_l1Num.f k t370).bind fun t371 => (if x5.size + t371.size ≤ 9223372036854775807 then (spec_nfText.l0 k x0 (x5 ++ t371) (wrap64 (x6 + 1)) x369000 x369001) else (none)))))) else (some x5)
def spec_nfText.f (k : Nat) (a0 : Int) (a1_0 : Int) (a1_1 : Int) : Option (ByteArray) := spec_nfText.l0 k a0 (⟨#[]⟩ : ByteArray) 0 a1_0 a1_1
theorem spec_nfText.calls (k : Nat) (a0 : Int) (a1_0 : Int) (a1_1 : Int) (r : ByteArray) (w : World) (h : spec_nfText.f k a0 a1_0 a1_1 = some r) :
  Calls Try.prog 136 #[.int .i64 a0, .agg #[.int .i64 a1_0, .int .i64 a1_1]] w fun e w' => e = .returned (.string r) ∧ Below w.heap.size w w' := by
 have hu72 := Try.underlying72
 have HB := aM (Below.refl w.heap.size w)
 have H : (spec_nfText.l0 k a0 (⟨#[]⟩ : ByteArray) 0 a1_0 a1_1) = some r := h
 clear h
 have H' := aM H
 clear H
 go_enter Try.func136, Try.ntmps136
 go_wp2_with (first | ((with_reducible refine gate_dst (N := 3) rfl ?_); refine box_event ?hg (N := 3) ?hd (cs := #[.int .i64 a1_0, .int .i64 a1_1]) (t := 72) ?hr ?_; (case hd => rfl); (case hg => rfl); (case hr => exact zc_); intro gb368 hg w3 hbox hb; have n_ := z (below_step za_ hb) <| z (hbox) <| z ((by rw [hg]; exact (below_size za_) : w.heap.size ≤ gb368)) <| z1 ((by rw [hg]; exact (below_size za_) : w.heap.size ≤ gb368)); clear HB; obtain ⟨HB, BK368, GW368, GE368⟩ := n_; clear hb hbox hg))
 go_loopg [5, 6] k (fun kq v5 v6 w' => ∃ (x5_1 : ByteArray) (x6_1 : Int), v5 = .string x5_1 ∧ v6 = .int .i64 x6_1 ∧ Aside0 (spec_nfText.l0 kq a0 x5_1 x6_1 a1_0 a1_1 = some r) ∧ Aside0 (kq ≤ k) ∧ Aside0 (w'.heap[gb368]? = some (.cells #[.int .i64 a1_0, .int .i64 a1_1] 72 (0, 0))) ∧ Aside0 (Below w.heap.size w w'))
 case atStart => exact ⟨((⟨#[]⟩ : ByteArray)), (0), zd_, zd_, H', ⟨Nat.le_refl _⟩, ⟨zb BK368.out⟩, ⟨zhi_⟩⟩
 case round =>
  clear H'; (try clear c1); (try clear p2); obtain ⟨x5_1, x6_1, rfl, rfl, HA, HK1, BK368, HB⟩ := hrel
  cases gk with
  | zero => exact absurd HA.out (by simp [spec_nfText.l0])
  | succ k1 =>
   have H := HA.out; clear HA
   simp only [spec_nfText.l0] at H
   by_cases c4 : x6_1 < a0
   ·rw [if_pos c4] at H
    have c4b0 : decide (x6_1 < a0) = true := decide_eq_true c4; clear c4; replace H := oB.mp H; obtain ⟨t369, A50, H⟩ := H; replace H : (if t369 = 0 then (if x5_1.size + 1 ≤ 9223372036854775807 then (spec_nfText.l0 k1 a0 (x5_1 ++ (⟨#[45]⟩ : ByteArray)) (wrap64 (x6_1 + 1)) a1_0 a1_1) else (none)) else ((spec_ttBit.f a1_1 x6_1).bind fun t370 => ((spec_l1Num.f k1 t370).bind fun t371 => (if x5_1.size + t371.size ≤ 9223372036854775807 then (spec_nfText.l0 k1 a0 (x5_1 ++ t371) (wrap64 (x6_1 + 1)) a1_0 a1_1) else (none))))) = some r := H; have A5 := aM A50; clear A50
    by_cases c6 : t369 = 0
    ·rw [if_pos c6] at H
     have c6b0 : (t369 == 0) = true := beq_iff_eq.mpr c6; have c6b1 : (t369 != 0) = false := bne_eq_false_iff_eq.mpr c6; clear c6
     by_cases c7 : x5_1.size + 1 ≤ 9223372036854775807
     ·rw [if_pos c7] at H
      have c7b0 := eq_true c7; have c7b1 : decide (x5_1.size + 1 ≤ 9223372036854775807) = true := decide_eq_true c7; (try have c7b2 : (9223372036854775807 < x5_1.size + 1) = False := eq_false (Nat.not_lt.2 c7)); have H' := aM H; clear H; have hcz8_0 : wr.cell? ⟨gb368, 0, none⟩ = some (.int .i64 a1_0) := (blk_cell BK368.out 0).trans rfl; have hcz8_1 : wr.cell? ⟨gb368, 1, none⟩ = some (.int .i64 a1_1) := (blk_cell BK368.out 1).trans rfl; have hfz8_0 := blk_frozen BK368.out 0; have hfz8_1 := blk_frozen BK368.out 1
      go_wp2_with (first | ((with_reducible refine gate_callee (f := 181) rfl ?_); refine goesL_ (some 23) rfl rfl Try.func181 (by kernel_rfl) rfl #[.int .i64 a1_0, .int .i64 x6_1] rfl ze_ ?_; (with_reducible refine (spec_ttBit.calls a1_0 x6_1 t369 _ A5.out).mono ?_); rintro e w' ⟨rfl, ⟨nd, rfl⟩⟩; refine ⟨_, rfl, ?_⟩))
      go_roundg k1
      case measure => have := HK1.out; omega
      case rel => exact ⟨(x5_1 ++ (⟨#[45]⟩ : ByteArray)), (wrap64 (x6_1 + 1)), zd_, zd_, H', ⟨zbc_⟩, ⟨zb BK368.out⟩, ⟨zhi_⟩⟩
     ·rw [if_neg c7] at H
      exact absurd H (by simp)
    ·rw [if_neg c6] at H
     have c6b0 : (t369 == 0) = false := beq_eq_false_iff_ne.mpr c6; have c6b1 : (t369 != 0) = true := bne_iff_ne.mpr c6; replace H := oB.mp H; obtain ⟨t370, A90, H⟩ := H; replace H : ((spec_l1Num.f k1 t370).bind fun t371 => (if x5_1.size + t371.size ≤ 9223372036854775807 then (spec_nfText.l0 k1 a0 (x5_1 ++ t371) (wrap64 (x6_1 + 1)) a1_0 a1_1) else (none))) = some r := H; have A9 := aM A90; clear A90; replace H := oB.mp H; obtain ⟨t371, A100, H⟩ := H; replace H : (if x5_1.size + t371.size ≤ 9223372036854775807 then (spec_nfText.l0 k1 a0 (x5_1 ++ t371) (wrap64 (x6_1 + 1)) a1_0 a1_1) else (none)) = some r := H; have A10 := aM A100; clear A100
     by_cases c11 : x5_1.size + t371.size ≤ 9223372036854775807
     ·rw [if_pos c11] at H
      have c11b0 := eq_true c11; have c11b1 : decide (x5_1.size + t371.size ≤ 9223372036854775807) = true := decide_eq_true c11; (try have c11b2 : (9223372036854775807 < x5_1.size + t371.size) = False := eq_false (Nat.not_lt.2 c11)); have H' := aM H; clear H; have hcz12_0 : wr.cell? ⟨gb368, 0, none⟩ = some (.int .i64 a1_0) := (blk_cell BK368.out 0).trans rfl; have hcz12_1 : wr.cell? ⟨gb368, 1, none⟩ = some (.int .i64 a1_1) := (blk_cell BK368.out 1).trans rfl; have hfz12_0 := blk_frozen BK368.out 0; have hfz12_1 := blk_frozen BK368.out 1
      go_wp2_with (first | ((with_reducible refine gate_callee (f := 181) rfl ?_); refine goesL_ (some 23) rfl rfl Try.func181 (by kernel_rfl) rfl #[.int .i64 a1_0, .int .i64 x6_1] rfl ze_ ?_; (with_reducible refine (spec_ttBit.calls a1_0 x6_1 t369 _ A5.out).mono ?_); rintro e w' ⟨rfl, ⟨nd, rfl⟩⟩; refine ⟨_, rfl, ?_⟩) | ((with_reducible refine gate_callee (f := 181) rfl ?_); refine goesL_ (some 16) rfl rfl Try.func181 (by kernel_rfl) rfl #[.int .i64 a1_1, .int .i64 x6_1] rfl ze_ ?_; (with_reducible refine (spec_ttBit.calls a1_1 x6_1 t370 _ A9.out).mono ?_); rintro e w' ⟨rfl, ⟨nd, rfl⟩⟩; refine ⟨_, rfl, ?_⟩) | ((with_reducible refine gate_callee (f := 182) rfl ?_); refine goesL_ (some 17) rfl rfl Try.func182 (by kernel_rfl) rfl #[.int .i64 t370] rfl ze_ ?_; (with_reducible refine (spec_l1Num.calls k1 t370 t371 _ A10.out).mono ?_); rintro e w13 ⟨rfl, hb⟩; refine ⟨_, rfl, ?_⟩; have n_ := z (blk_below (g := gb368) (o := .cells #[.int .i64 a1_0, .int .i64 a1_1] 72 (0, 0)) (zb BK368.out) hb) <| z1 (below_step zhi_ hb); clear BK368 HB; obtain ⟨BK368, HB⟩ := n_; (try clear hb)))
      go_roundg k1
      case measure => have := HK1.out; omega
      case rel => exact ⟨(x5_1 ++ t371), (wrap64 (x6_1 + 1)), zd_, zd_, H', ⟨zbc_⟩, ⟨zb BK368.out⟩, ⟨zhi_⟩⟩
     ·rw [if_neg c11] at H
      exact absurd H (by simp)
   ·rw [if_neg c4] at H
    have c4b0 : decide (x6_1 < a0) = false := decide_eq_false c4; clear c4; obtain rfl := Option.some.inj H
    go_wp2
    go_ret
    exact ⟨zi_, zhi_⟩
def spec_TermText.f (k : Nat) (a0 : Int) (a1_0 : Int) (a1_1 : Int) : Option (ByteArray × Bool) := (spec_nfTerm.f a0 a1_0 a1_1).bind fun t373 => (if t373 = true then ((spec_nfText.f k a0 a1_0 a1_1).bind fun t374 => (some (t374, true))) else (some ((⟨#[]⟩ : ByteArray), false)))
theorem spec_TermText.calls (k : Nat) (a0 : Int) (a1_0 : Int) (a1_1 : Int) (r1 : ByteArray) (r2 : Bool) (w : World) (h : spec_TermText.f k a0 a1_0 a1_1 = some (r1, r2)) :
  Calls Try.prog 50 #[.int .i64 a0, .agg #[.int .i64 a1_0, .int .i64 a1_1]] w fun e w' => e = .returned (.tuple #[.string r1, .bool r2]) ∧ Below w.heap.size w w' := by
 have hu72 := Try.underlying72
 have HB := aM (Below.refl w.heap.size w)
 have H : ((spec_nfTerm.f a0 a1_0 a1_1).bind fun t373 => (if t373 = true then ((spec_nfText.f k a0 a1_0 a1_1).bind fun t374 => (some (t374, true))) else (some ((⟨#[]⟩ : ByteArray), false)))) = some (r1, r2) := h
 clear h
 replace H := oB.mp H
 obtain ⟨t373, A30, H⟩ := H
 replace H : (if t373 = true then ((spec_nfText.f k a0 a1_0 a1_1).bind fun t374 => (some (t374, true))) else (some ((⟨#[]⟩ : ByteArray), false))) = some (r1, r2) := H
 have A3 := aM A30
 clear A30
 by_cases c4 : t373 = true
 ·subst c4
  have H1 : ((spec_nfText.f k a0 a1_0 a1_1).bind fun t374 => (some (t374, true))) = some (r1, r2) := by rw [if_pos rfl] at H; exact H
  clear H; have H := H1; clear H1; replace H := oB.mp H; obtain ⟨t374, A50, H⟩ := H; replace H : (some (t374, true)) = some (r1, r2) := H; have A5 := aM A50; clear A50
  simp only [Option.some.injEq, Prod.mk.injEq] at H
  obtain ⟨rfl, rfl⟩ := H
  go_enter Try.func50, Try.ntmps50
  go_wp2_with (first | ((with_reducible refine gate_dst (N := 3) rfl ?_); refine box_event ?hg (N := 3) ?hd (cs := #[.int .i64 a1_0, .int .i64 a1_1]) (t := 72) ?hr ?_; (case hd => rfl); (case hg => rfl); (case hr => exact zc_); intro gb372 hg w6 hbox hb; have n_ := z (below_step za_ hb) <| z (hbox) <| z ((by rw [hg]; exact (below_size za_) : w.heap.size ≤ gb372)) <| z1 ((by rw [hg]; exact (below_size za_) : w.heap.size ≤ gb372)); clear HB; obtain ⟨HB, BK372, GW372, GE372⟩ := n_; clear hb hbox hg; have hcz7_0 : w6.cell? ⟨gb372, 0, none⟩ = some (.int .i64 a1_0) := (blk_cell BK372.out 0).trans rfl; have hcz7_1 : w6.cell? ⟨gb372, 1, none⟩ = some (.int .i64 a1_1) := (blk_cell BK372.out 1).trans rfl; have hfz7_0 := blk_frozen BK372.out 0; have hfz7_1 := blk_frozen BK372.out 1) | ((with_reducible refine gate_callee (f := 135) rfl ?_); refine goesL_ (some 8) rfl rfl Try.func135 (by kernel_rfl) rfl #[.int .i64 a0, .agg #[.int .i64 a1_0, .int .i64 a1_1]] rfl ze_ ?_; (with_reducible refine (spec_nfTerm.calls a0 a1_0 a1_1 true _ A3.out).mono ?_); rintro e w8 ⟨rfl, hb⟩; refine ⟨_, rfl, ?_⟩; have n_ := z (blk_below (g := gb372) (o := .cells #[.int .i64 a1_0, .int .i64 a1_1] 72 (0, 0)) (zb BK372.out) hb) <| z1 (below_step zhj_ hb); clear BK372 HB; obtain ⟨BK372, HB⟩ := n_; (try clear hb); have hcz9_0 : w8.cell? ⟨gb372, 0, none⟩ = some (.int .i64 a1_0) := (blk_cell BK372.out 0).trans rfl; have hcz9_1 : w8.cell? ⟨gb372, 1, none⟩ = some (.int .i64 a1_1) := (blk_cell BK372.out 1).trans rfl; have hfz9_0 := blk_frozen BK372.out 0; have hfz9_1 := blk_frozen BK372.out 1) | ((with_reducible refine gate_callee (f := 136) rfl ?_); refine goesL_ (some 12) rfl rfl Try.func136 (by kernel_rfl) rfl #[.int .i64 a0, .agg #[.int .i64 a1_0, .int .i64 a1_1]] rfl ze_ ?_; (with_reducible refine (spec_nfText.calls k a0 a1_0 a1_1 t374 _ A5.out).mono ?_); rintro e w10 ⟨rfl, hb⟩; refine ⟨_, rfl, ?_⟩; have n_ := z (blk_below (g := gb372) (o := .cells #[.int .i64 a1_0, .int .i64 a1_1] 72 (0, 0)) (zb BK372.out) hb) <| z1 (below_step zhj_ hb); clear BK372 HB; obtain ⟨BK372, HB⟩ := n_; (try clear hb)))
  go_ret2
  exact ⟨zi_, zhj_⟩
 ·replace c4 := Bool.eq_false_iff.mpr c4
  subst c4; have H1 : (some ((⟨#[]⟩ : ByteArray), false)) = some (r1, r2) := by rw [if_neg (show ¬ (false = true) by decide)] at H; exact H
  clear H; have H := H1; clear H1
  simp only [Option.some.injEq, Prod.mk.injEq] at H
  obtain ⟨rfl, rfl⟩ := H
  go_enter Try.func50, Try.ntmps50
  go_wp2_with (first | ((with_reducible refine gate_dst (N := 3) rfl ?_); refine box_event ?hg (N := 3) ?hd (cs := #[.int .i64 a1_0, .int .i64 a1_1]) (t := 72) ?hr ?_; (case hd => rfl); (case hg => rfl); (case hr => exact zc_); intro gb372 hg w11 hbox hb; have n_ := z (below_step za_ hb) <| z (hbox) <| z ((by rw [hg]; exact (below_size za_) : w.heap.size ≤ gb372)) <| z1 ((by rw [hg]; exact (below_size za_) : w.heap.size ≤ gb372)); clear HB; obtain ⟨HB, BK372, GW372, GE372⟩ := n_; clear hb hbox hg; have hcz12_0 : w11.cell? ⟨gb372, 0, none⟩ = some (.int .i64 a1_0) := (blk_cell BK372.out 0).trans rfl; have hcz12_1 : w11.cell? ⟨gb372, 1, none⟩ = some (.int .i64 a1_1) := (blk_cell BK372.out 1).trans rfl; have hfz12_0 := blk_frozen BK372.out 0; have hfz12_1 := blk_frozen BK372.out 1) | ((with_reducible refine gate_callee (f := 135) rfl ?_); refine goesL_ (some 8) rfl rfl Try.func135 (by kernel_rfl) rfl #[.int .i64 a0, .agg #[.int .i64 a1_0, .int .i64 a1_1]] rfl ze_ ?_; (with_reducible refine (spec_nfTerm.calls a0 a1_0 a1_1 false _ A3.out).mono ?_); rintro e w13 ⟨rfl, hb⟩; refine ⟨_, rfl, ?_⟩; have n_ := z (blk_below (g := gb372) (o := .cells #[.int .i64 a1_0, .int .i64 a1_1] 72 (0, 0)) (zb BK372.out) hb) <| z1 (below_step zhj_ hb); clear BK372 HB; obtain ⟨BK372, HB⟩ := n_; (try clear hb)))
  go_ret2
  exact ⟨zi_, zhj_⟩
def impl_TermIndices.l0 : Nat → Int → List Int → Int → Int → Int → Option (List Int × Bool)
 | 0, _, _, _, _, _ => none
 | k + 1, x0, x6, x7, x376000, x376001 => if 0 ≤ x0 then (if x7 < (shl .i64 1 x0) then (if (Go.bits .and .i64 x7 x376000) = x376001 then (if x6.length < 17592186044416 then (impl_TermIndices.l0 k x0 (x6 ++ [x7]) (wrap64 (x7 + 1)) x376000 x376001) else (none)) else (impl_TermIndices.l0 k x0 x6 (wrap64 (x7 + 1)) x376000 x376001)) else (some (x6, true))) else (none)
def impl_TermIndices.f (k : Nat) (a0 : Int) (a1_0 : Int) (a1_1 : Int) : Option (List Int × Bool) := (impl_IsTerm.f a0 a1_0 a1_1).bind fun t376 => (if t376 = true then (impl_TermIndices.l0 k a0 (([] : List Int)) 0 a1_0 a1_1) else (some (([] : List Int), false)))
theorem impl_TermIndices.calls (k : Nat) (a0 : Int) (a1_0 : Int) (a1_1 : Int) (r1 : List Int) (r2 : Bool) (w : World) (h : impl_TermIndices.f k a0 a1_0 a1_1 = some (r1, r2)) :
  Calls Try.prog 51 #[.int .i64 a0, .agg #[.int .i64 a1_0, .int .i64 a1_1]] w fun e w' => ∃ v0_ : Value, e = .returned (.tuple #[v0_, .bool r2]) ∧ Kd.R (Kd.int .i64) 3 w' w.heap.size (fun _ => True) v0_ r1 ∧ Below w.heap.size w w' := by
 have hu72 := Try.underlying72
 have HB := aM (Below.refl w.heap.size w)
 have H : ((impl_IsTerm.f a0 a1_0 a1_1).bind fun t376 => (if t376 = true then (impl_TermIndices.l0 k a0 (([] : List Int)) 0 a1_0 a1_1) else (some (([] : List Int), false)))) = some (r1, r2) := h
 clear h
 replace H := oB.mp H
 obtain ⟨t376, A30, H⟩ := H
 replace H : (if t376 = true then (impl_TermIndices.l0 k a0 (([] : List Int)) 0 a1_0 a1_1) else (some (([] : List Int), false))) = some (r1, r2) := H
 have A3 := aM A30
 clear A30
 by_cases c4 : t376 = true
 ·subst c4
  have H1 : (impl_TermIndices.l0 k a0 (([] : List Int)) 0 a1_0 a1_1) = some (r1, r2) := by rw [if_pos rfl] at H; exact H
  clear H; have H := H1; clear H1; obtain ⟨y377, hy377⟩ : ∃ y_ : List Int, y_ = (([] : List Int)) := ⟨_, rfl⟩; replace H : (impl_TermIndices.l0 k a0 y377 0 a1_0 a1_1) = some (r1, r2) := by first | (rw [hy377]; with_reducible exact H) | (have H2_ := (oS _ _).symm.trans H; rw [hy377]; with_reducible exact H2_) | (have H2_ := (oS _ _).symm.trans H; with_reducible exact H2_) | with_reducible exact H | (rw [hy377]; exact H) | exact H
  have Ny377 := aM hy377; clear hy377; have H' := aM H; clear H
  go_enter Try.func51, Try.ntmps51
  go_wp2_with (first | ((with_reducible refine gate_dst (N := 3) rfl ?_); refine box_event ?hg (N := 3) ?hd (cs := #[.int .i64 a1_0, .int .i64 a1_1]) (t := 72) ?hr ?_; (case hd => rfl); (case hg => rfl); (case hr => exact zc_); intro gb375 hg w5 hbox hb; have n_ := z (below_step za_ hb) <| z (hbox) <| z ((by rw [hg]; exact (below_size za_) : w.heap.size ≤ gb375)) <| z1 ((by rw [hg]; exact (below_size za_) : w.heap.size ≤ gb375)); clear HB; obtain ⟨HB, BK375, GW375, GE375⟩ := n_; clear hb hbox hg; have hcz6_0 : w5.cell? ⟨gb375, 0, none⟩ = some (.int .i64 a1_0) := (blk_cell BK375.out 0).trans rfl; have hcz6_1 : w5.cell? ⟨gb375, 1, none⟩ = some (.int .i64 a1_1) := (blk_cell BK375.out 1).trans rfl; have hfz6_0 := blk_frozen BK375.out 0; have hfz6_1 := blk_frozen BK375.out 1) | ((with_reducible refine gate_callee (f := 60) rfl ?_); refine goesL_ (some 10) rfl rfl Try.func60 (by kernel_rfl) rfl #[.int .i64 a0, .agg #[.int .i64 a1_0, .int .i64 a1_1]] rfl ze_ ?_; (with_reducible refine (impl_IsTerm.calls a0 a1_0 a1_1 true _ A3.out).mono ?_); rintro e w7 ⟨rfl, hb⟩; refine ⟨_, rfl, ?_⟩; have n_ := z (blk_below (g := gb375) (o := .cells #[.int .i64 a1_0, .int .i64 a1_1] 72 (0, 0)) (zb BK375.out) hb) <| z1 (below_step zdg_ hb); clear BK375 HB; obtain ⟨BK375, HB⟩ := n_; (try clear hb)) | ((with_reducible refine gate_dst (N := 12) rfl ?_); refine Kd.R_lit (Kd.int .i64) _ 3 ?hg (N := 12) ?hd (xs := ([] : List Int)) (inner := []) (ok := fun _ => True) (okp := fun _ => True) ?hr ?hp (fun _ hk => hk) trivial (Below.refl _ _) (Nat.le_refl _) (by simp) ?_; (case hd => rfl); (case hg => rfl); (case hr => exact zc_); (case hp => exact (Reps.none _ _)); intro v378 w8 ho9 hb hg_ hnew_; clear hg_ hnew_; (first | rw [← Ny377.out] at ho9 | (simp only [Int.reduceToNat] at ho9; rw [← Ny377.out] at ho9)); have n_ := z (Kd.R_lower ho9 (below_size zdg_)) <| z (blk_below (g := gb375) (o := .cells #[.int .i64 a1_0, .int .i64 a1_1] 72 (0, 0)) (zb BK375.out) hb) <| z1 (below_step zdg_ hb); clear BK375 HB; obtain ⟨HO379, BK375, HB⟩ := n_; clear hb ho9))
  go_loopg [6, 7] k (fun kq v6 v7 w' => ∃ (x6_1 : List Int) (x7_1 : Int), v7 = .int .i64 x7_1 ∧ Aside0 (impl_TermIndices.l0 kq a0 x6_1 x7_1 a1_0 a1_1 = some (r1, r2)) ∧ Aside0 (kq ≤ k) ∧ Aside0 (Kd.R (Kd.int .i64) 3 w' w.heap.size (fun _ => True) v6 x6_1) ∧ Aside0 (w'.heap[gb375]? = some (.cells #[.int .i64 a1_0, .int .i64 a1_1] 72 (0, 0))) ∧ Aside0 (Below w.heap.size w w'))
  case atStart => exact ⟨(y377), (0), zd_, H', ⟨Nat.le_refl _⟩, ⟨zr HO379.out⟩, ⟨zb BK375.out⟩, ⟨zdg_⟩⟩
  case round =>
   clear H'; (try clear p2); (try clear c4); (try clear c5); (try clear c6); (try clear hcz6_0); (try clear hcz6_1); (try clear hfz6_0); (try clear hfz6_1); obtain ⟨x6_1, x7_1, rfl, HA, HK1, HO_6, BK375, HB⟩ := hrel
   cases gk with
   | zero => exact absurd HA.out (by simp [impl_TermIndices.l0])
   | succ k1 =>
    have H := HA.out; clear HA
    simp only [impl_TermIndices.l0] at H
    by_cases c10 : 0 ≤ a0
    ·rw [if_pos c10] at H
     have c10b0 := eq_true c10; have c10b1 : decide (0 ≤ a0) = true := decide_eq_true c10; clear c10; obtain ⟨ji11, hji11⟩ : ∃ j_ : Int, (shl .i64 1 a0) = j_ := ⟨_, rfl⟩; replace H : (if x7_1 < (ji11) then (if (Go.bits .and .i64 x7_1 a1_0) = a1_1 then (if x6_1.length < 17592186044416 then (impl_TermIndices.l0 k1 a0 (x6_1 ++ [x7_1]) (wrap64 (x7_1 + 1)) a1_0 a1_1) else (none)) else (impl_TermIndices.l0 k1 a0 x6_1 (wrap64 (x7_1 + 1)) a1_0 a1_1)) else (some (x6_1, true))) = some (r1, r2) := by first | (rw [hji11] at H; exact H) | (simp only [hji11] at H ⊢; exact H)
     have hji11_ : (IntKind.i64.wrap (1 * 2 ^ min a0.toNat 64)) = ji11 := hji11; have hji11z : a0 ≤ 64 → (IntKind.i64.wrap (1 * 2 ^ a0.toNat)) = ji11 := shl_small hji11; have hji11u : (IntKind.i64.wrap (2 ^ min a0.toNat 64)) = ji11 := by have h_ := hji11_; rw [Int.one_mul] at h_; exact h_
     have hji11v : a0 ≤ 64 → (IntKind.i64.wrap (2 ^ a0.toNat)) = ji11 := fun hle_ => by have h_ := hji11z hle_; rw [Int.one_mul] at h_; exact h_
     have hji11y : (wrap64 (1 * 2 ^ min a0.toNat 64)) = ji11 := (i64_w _).symm.trans hji11_; have hji11x : a0 ≤ 64 → (wrap64 (1 * 2 ^ a0.toNat)) = ji11 := fun h_ => (i64_w _).symm.trans (hji11z h_)
     by_cases c12 : x7_1 < (ji11)
     ·rw [if_pos c12] at H
      have c12b0 : decide (x7_1 < (ji11)) = true := decide_eq_true c12; clear c12
      by_cases c13 : (Go.bits .and .i64 x7_1 a1_0) = a1_1
      ·rw [if_pos c13] at H
       have c13b0 : ((Go.bits .and .i64 x7_1 a1_0) == a1_1) = true := beq_iff_eq.mpr c13; have c13b1 : ((Go.bits .and .i64 x7_1 a1_0) != a1_1) = false := bne_eq_false_iff_eq.mpr c13; clear c13
       by_cases c14 : x6_1.length < 17592186044416
       ·rw [if_pos c14] at H
        have LMc14 := aM c14; clear c14; obtain ⟨y380, hy380⟩ : ∃ y_ : List Int, y_ = (x6_1 ++ [x7_1]) := ⟨_, rfl⟩; replace H : (impl_TermIndices.l0 k1 a0 y380 (wrap64 (x7_1 + 1)) a1_0 a1_1) = some (r1, r2) := by first | (rw [hy380]; with_reducible exact H) | (have H2_ := (oS _ _).symm.trans H; rw [hy380]; with_reducible exact H2_) | (have H2_ := (oS _ _).symm.trans H; with_reducible exact H2_) | with_reducible exact H | (rw [hy380]; exact H) | exact H
        have Ny380 := aM hy380; clear hy380; have H' := aM H; clear H; have hcz15_0 : wr.cell? ⟨gb375, 0, none⟩ = some (.int .i64 a1_0) := (blk_cell BK375.out 0).trans rfl; have hcz15_1 : wr.cell? ⟨gb375, 1, none⟩ = some (.int .i64 a1_1) := (blk_cell BK375.out 1).trans rfl; have hfz15_0 := blk_frozen BK375.out 0; have hfz15_1 := blk_frozen BK375.out 1
        go_wp2_with (first | ((with_reducible refine gate_builtin (b := .append) (xs := #[.tmp 26, .tmp 28]) rfl ?_); at_builtin; refine Kd.R_append (Kd.int .i64) (w0 := w) w.heap.size rfl (.tmp 26) (.tmp 28) 24 3 (.int .i64 0) 8 rfl Try.underlying24 info3 rfl (by decide) (by omega) u6 x6_1 x7_1 [.int .i64 x7_1] (fun _ => True) (fun _ => False) rfl rfl ?aP (fun _ hk => hk.elim) ?aF ?aO ?aB ?aS ?aL ?_; (case aP => exact rfl); (case aB => exact zdg_); (case aF => exact zeh_); (case aO => exact (zr HO_6.out)); (case aS => exact (below_size zdg_)); (case aL => have := LMc14.out; omega); intro v381 w16 ho hb hg hat; rw [← Ny380.out] at ho; have n_ := z (blk_grown (g := gb375) (o := .cells #[.int .i64 a1_0, .int .i64 a1_1] 72 (0, 0)) (zb BK375.out) hg (Kd.R_ne HO_6.out BK375.out (by decide))) <| z (hb) <| z1 (ho); clear BK375 HB HO_6; obtain ⟨BK375, HB, HO382⟩ := n_; clear ho hb hg hat))
        go_roundg k1
        case measure => have := HK1.out; omega
        case rel => exact ⟨(y380), (wrap64 (x7_1 + 1)), zd_, H', ⟨zbc_⟩, ⟨zr HO382.out⟩, ⟨zb BK375.out⟩, ⟨zdg_⟩⟩
       ·rw [if_neg c14] at H
        exact absurd H (by simp)
      ·rw [if_neg c13] at H
       have c13b0 : ((Go.bits .and .i64 x7_1 a1_0) == a1_1) = false := beq_eq_false_iff_ne.mpr c13; have c13b1 : ((Go.bits .and .i64 x7_1 a1_0) != a1_1) = true := bne_iff_ne.mpr c13; have H' := aM H; clear H; have hcz17_0 : wr.cell? ⟨gb375, 0, none⟩ = some (.int .i64 a1_0) := (blk_cell BK375.out 0).trans rfl; have hcz17_1 : wr.cell? ⟨gb375, 1, none⟩ = some (.int .i64 a1_1) := (blk_cell BK375.out 1).trans rfl; have hfz17_0 := blk_frozen BK375.out 0; have hfz17_1 := blk_frozen BK375.out 1
       go_wp2
       go_roundg k1
       case measure => have := HK1.out; omega
       case rel => exact ⟨(x6_1), (wrap64 (x7_1 + 1)), zd_, H', ⟨zbc_⟩, ⟨zr HO_6.out⟩, ⟨zb BK375.out⟩, ⟨zdg_⟩⟩
     ·rw [if_neg c12] at H
      have c12b0 : decide (x7_1 < (ji11)) = false := decide_eq_false c12; clear c12
      simp only [Option.some.injEq, Prod.mk.injEq] at H
      obtain ⟨rfl, rfl⟩ := H
      go_wp2
      go_ret2
      exact ⟨_, by first | rfl | (simp [errW_none, errW_some] <;> rfl) | (simp only [← hji11]; first | rfl | (simp [errW_none, errW_some] <;> rfl)) | (simp [*, errW_none, errW_some] <;> rfl), by refine zr ?_; exact HO_6.out, zdg_⟩
    ·rw [if_neg c10] at H
     exact absurd H (by simp)
 ·replace c4 := Bool.eq_false_iff.mpr c4
  subst c4; have H1 : (some (([] : List Int), false)) = some (r1, r2) := by rw [if_neg (show ¬ (false = true) by decide)] at H; exact H
  clear H; have H := H1; clear H1
  simp only [Option.some.injEq, Prod.mk.injEq] at H
  obtain ⟨rfl, rfl⟩ := H
  go_enter Try.func51, Try.ntmps51
  go_wp2_with (first | ((with_reducible refine gate_dst (N := 3) rfl ?_); refine box_event ?hg (N := 3) ?hd (cs := #[.int .i64 a1_0, .int .i64 a1_1]) (t := 72) ?hr ?_; (case hd => rfl); (case hg => rfl); (case hr => exact zc_); intro gb375 hg w18 hbox hb; have n_ := z (below_step za_ hb) <| z (hbox) <| z ((by rw [hg]; exact (below_size za_) : w.heap.size ≤ gb375)) <| z1 ((by rw [hg]; exact (below_size za_) : w.heap.size ≤ gb375)); clear HB; obtain ⟨HB, BK375, GW375, GE375⟩ := n_; clear hb hbox hg; have hcz19_0 : w18.cell? ⟨gb375, 0, none⟩ = some (.int .i64 a1_0) := (blk_cell BK375.out 0).trans rfl; have hcz19_1 : w18.cell? ⟨gb375, 1, none⟩ = some (.int .i64 a1_1) := (blk_cell BK375.out 1).trans rfl; have hfz19_0 := blk_frozen BK375.out 0; have hfz19_1 := blk_frozen BK375.out 1) | ((with_reducible refine gate_callee (f := 60) rfl ?_); refine goesL_ (some 10) rfl rfl Try.func60 (by kernel_rfl) rfl #[.int .i64 a0, .agg #[.int .i64 a1_0, .int .i64 a1_1]] rfl ze_ ?_; (with_reducible refine (impl_IsTerm.calls a0 a1_0 a1_1 false _ A3.out).mono ?_); rintro e w20 ⟨rfl, hb⟩; refine ⟨_, rfl, ?_⟩; have n_ := z (blk_below (g := gb375) (o := .cells #[.int .i64 a1_0, .int .i64 a1_1] 72 (0, 0)) (zb BK375.out) hb) <| z1 (below_step zdg_ hb); clear BK375 HB; obtain ⟨BK375, HB⟩ := n_; (try clear hb)))
  go_ret2
  exact ⟨_, zi_, zdf_, zdg_⟩
def spec_TermIndices.f (k : Nat) (a0 : Int) (a1_0 : Int) (a1_1 : Int) : Option (List Int × Bool) := (spec_nfTerm.f a0 a1_0 a1_1).bind fun t384 => (if t384 = true then ((spec_nfIndices.f k a0 a1_0 a1_1).bind fun t385 => (some (t385, true))) else (some (([] : List Int), false)))
theorem spec_TermIndices.calls (k : Nat) (a0 : Int) (a1_0 : Int) (a1_1 : Int) (r1 : List Int) (r2 : Bool) (w : World) (h : spec_TermIndices.f k a0 a1_0 a1_1 = some (r1, r2)) :
  Calls Try.prog 52 #[.int .i64 a0, .agg #[.int .i64 a1_0, .int .i64 a1_1]] w fun e w' => ∃ v0_ : Value, e = .returned (.tuple #[v0_, .bool r2]) ∧ Kd.R (Kd.int .i64) 3 w' w.heap.size (fun _ => True) v0_ r1 ∧ Below w.heap.size w w' := by
 have hu72 := Try.underlying72
 have HB := aM (Below.refl w.heap.size w)
 have H : ((spec_nfTerm.f a0 a1_0 a1_1).bind fun t384 => (if t384 = true then ((spec_nfIndices.f k a0 a1_0 a1_1).bind fun t385 => (some (t385, true))) else (some (([] : List Int), false)))) = some (r1, r2) := h
 clear h
 replace H := oB.mp H
 obtain ⟨t384, A30, H⟩ := H
 replace H : (if t384 = true then ((spec_nfIndices.f k a0 a1_0 a1_1).bind fun t385 => (some (t385, true))) else (some (([] : List Int), false))) = some (r1, r2) := H
 have A3 := aM A30
 clear A30
 by_cases c4 : t384 = true
 ·subst c4
  have H1 : ((spec_nfIndices.f k a0 a1_0 a1_1).bind fun t385 => (some (t385, true))) = some (r1, r2) := by rw [if_pos rfl] at H; exact H
  clear H; have H := H1; clear H1; replace H := oB.mp H; obtain ⟨t385, A50, H⟩ := H; replace H : (some (t385, true)) = some (r1, r2) := H; have A5 := aM A50; clear A50
  simp only [Option.some.injEq, Prod.mk.injEq] at H
  obtain ⟨rfl, rfl⟩ := H
  go_enter Try.func52, Try.ntmps52
  go_wp2_with (first | ((with_reducible refine gate_dst (N := 3) rfl ?_); refine box_event ?hg (N := 3) ?hd (cs := #[.int .i64 a1_0, .int .i64 a1_1]) (t := 72) ?hr ?_; (case hd => rfl); (case hg => rfl); (case hr => exact zc_); intro gb383 hg w6 hbox hb; have n_ := z (below_step za_ hb) <| z (hbox) <| z ((by rw [hg]; exact (below_size za_) : w.heap.size ≤ gb383)) <| z1 ((by rw [hg]; exact (below_size za_) : w.heap.size ≤ gb383)); clear HB; obtain ⟨HB, BK383, GW383, GE383⟩ := n_; clear hb hbox hg; have hcz7_0 : w6.cell? ⟨gb383, 0, none⟩ = some (.int .i64 a1_0) := (blk_cell BK383.out 0).trans rfl; have hcz7_1 : w6.cell? ⟨gb383, 1, none⟩ = some (.int .i64 a1_1) := (blk_cell BK383.out 1).trans rfl; have hfz7_0 := blk_frozen BK383.out 0; have hfz7_1 := blk_frozen BK383.out 1) | ((with_reducible refine gate_callee (f := 135) rfl ?_); refine goesL_ (some 8) rfl rfl Try.func135 (by kernel_rfl) rfl #[.int .i64 a0, .agg #[.int .i64 a1_0, .int .i64 a1_1]] rfl ze_ ?_; (with_reducible refine (spec_nfTerm.calls a0 a1_0 a1_1 true _ A3.out).mono ?_); rintro e w8 ⟨rfl, hb⟩; refine ⟨_, rfl, ?_⟩; have n_ := z (blk_below (g := gb383) (o := .cells #[.int .i64 a1_0, .int .i64 a1_1] 72 (0, 0)) (zb BK383.out) hb) <| z1 (below_step zgi_ hb); clear BK383 HB; obtain ⟨BK383, HB⟩ := n_; (try clear hb); have hcz9_0 : w8.cell? ⟨gb383, 0, none⟩ = some (.int .i64 a1_0) := (blk_cell BK383.out 0).trans rfl; have hcz9_1 : w8.cell? ⟨gb383, 1, none⟩ = some (.int .i64 a1_1) := (blk_cell BK383.out 1).trans rfl; have hfz9_0 := blk_frozen BK383.out 0; have hfz9_1 := blk_frozen BK383.out 1) | ((with_reducible refine gate_callee (f := 137) rfl ?_); refine goesL_ (some 12) rfl rfl Try.func137 (by kernel_rfl) rfl #[.int .i64 a0, .agg #[.int .i64 a1_0, .int .i64 a1_1]] rfl ze_ ?_; (with_reducible refine (spec_nfIndices.calls k a0 a1_0 a1_1 t385 _ A5.out).mono ?_); rintro e w10 ⟨v386, rfl, ho0, hb⟩; refine ⟨_, rfl, ?_⟩; have n_ := z (Kd.R_lower ho0 (below_size zgi_)) <| z (blk_below (g := gb383) (o := .cells #[.int .i64 a1_0, .int .i64 a1_1] 72 (0, 0)) (zb BK383.out) hb) <| z1 (below_step zgi_ hb); clear BK383 HB; obtain ⟨HO387, BK383, HB⟩ := n_; (try clear hb); (try clear ho0)))
  go_ret2
  exact ⟨_, zi_, by refine zr ?_; exact HO387.out, zgi_⟩
 ·replace c4 := Bool.eq_false_iff.mpr c4
  subst c4; have H1 : (some (([] : List Int), false)) = some (r1, r2) := by rw [if_neg (show ¬ (false = true) by decide)] at H; exact H
  clear H; have H := H1; clear H1
  simp only [Option.some.injEq, Prod.mk.injEq] at H
  obtain ⟨rfl, rfl⟩ := H
  go_enter Try.func52, Try.ntmps52
  go_wp2_with (first | ((with_reducible refine gate_dst (N := 3) rfl ?_); refine box_event ?hg (N := 3) ?hd (cs := #[.int .i64 a1_0, .int .i64 a1_1]) (t := 72) ?hr ?_; (case hd => rfl); (case hg => rfl); (case hr => exact zc_); intro gb383 hg w11 hbox hb; have n_ := z (below_step za_ hb) <| z (hbox) <| z ((by rw [hg]; exact (below_size za_) : w.heap.size ≤ gb383)) <| z1 ((by rw [hg]; exact (below_size za_) : w.heap.size ≤ gb383)); clear HB; obtain ⟨HB, BK383, GW383, GE383⟩ := n_; clear hb hbox hg; have hcz12_0 : w11.cell? ⟨gb383, 0, none⟩ = some (.int .i64 a1_0) := (blk_cell BK383.out 0).trans rfl; have hcz12_1 : w11.cell? ⟨gb383, 1, none⟩ = some (.int .i64 a1_1) := (blk_cell BK383.out 1).trans rfl; have hfz12_0 := blk_frozen BK383.out 0; have hfz12_1 := blk_frozen BK383.out 1) | ((with_reducible refine gate_callee (f := 135) rfl ?_); refine goesL_ (some 8) rfl rfl Try.func135 (by kernel_rfl) rfl #[.int .i64 a0, .agg #[.int .i64 a1_0, .int .i64 a1_1]] rfl ze_ ?_; (with_reducible refine (spec_nfTerm.calls a0 a1_0 a1_1 false _ A3.out).mono ?_); rintro e w13 ⟨rfl, hb⟩; refine ⟨_, rfl, ?_⟩; have n_ := z (blk_below (g := gb383) (o := .cells #[.int .i64 a1_0, .int .i64 a1_1] 72 (0, 0)) (zb BK383.out) hb) <| z1 (below_step zgi_ hb); clear BK383 HB; obtain ⟨BK383, HB⟩ := n_; (try clear hb)))
  go_ret2
  exact ⟨_, zi_, zdf_, zgi_⟩
end Go.Proofs.Ytbkighlfgaifeaa.QFnPrimes
