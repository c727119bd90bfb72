/- Functions of FnLeastSums, each as a Lean function, with the proof that the Go code comes to its answers. -/
import Derived.Test.YtbkighlfgaifeaaSFnLeastSumsx0
import Derived.Test.YtbkighlfgaifeaaSFnLeastSumsx2
import Derived.Test.YtbkighlfgaifeaaSFnLeastSumsx13
namespace Go.Proofs.Ytbkighlfgaifeaa.QFnLeastSums
open Go.RowKit Go.Proofs.YtbkighlfgaifeaaW.PrintWords Go.Proofs.YtbkighlfgaifeaaW.PrintLast Go.Proofs.YtbkighlfgaifeaaW.PrintMore
open Go.Proofs.YtbkighlfgaifeaaW.PrintWords renaming pw_below_drewN → pN, below_drew1 → p1, below_alloc → pA
open Go.Proofs.YtbkighlfgaifeaaW.PrintWords.Kd renaming R_alloc → kA, R_drewN → kN, R_drew → kD, Q_alloc → qA, Q_drewN → qN, Q_drew → qD, C_alloc → cA, C_drewN → cN, C_drew → cD
open Go.Proofs.YtbkighlfgaifeaaW.PrintWords.Aside0 renaming mk → aM
open List renaming setIfInBounds_toArray → sI, set_cons_zero → s0, set_cons_succ → sS, map_toArray → mT, length_take → lT, length_drop → lD, map_cons → mC, map_nil → mN
open Option renaming bind_eq_some_iff → oB, bind_some → oS
attribute [local go_sem] max2_int min2_int max_two min_two max_three min_three max_four min_four
set_option maxHeartbeats 8000000
set_option maxRecDepth 100000
set_option linter.unusedVariables false
set_option linter.unusedSimpArgs false
mutual
def spec_SumTable.j0 : Nat → Int → List (S72) → Bool → Option (Int × List Int × Bool)
 | 0, _, _, _ => none
 | k + 1, x0, x1, x18 => if x18 = true then (some (0, ([] : List Int), false)) else (if 0 ≤ (IntKind.u64.wrap (x0)) then (if 0 ≤ (shl .i64 1 (IntKind.u64.wrap (x0))) then (if (shl .i64 1 (IntKind.u64.wrap (x0)) : Int).toNat ≤ 35184372088832 then (spec_SumTable.l0 k x0 x1 (x1.length : Int) 0 x0 (List.replicate (shl .i64 1 (IntKind.u64.wrap (x0)) : Int).toNat 0)) else (none)) else (none)) else (none))
def spec_SumTable.l0 : Nat → Int → List (S72) → Int → Int → Int → List Int → Option (Int × List Int × Bool)
 | 0, _, _, _, _, _, _ => none
 | k + 1, x0, x26, x27, x28, x464000, x464001 => if x28 < x27 then (if 0 ≤ x28 then (if x28 < (x26.length : Int) then ((spec_nfTerm.f x0 ((rd_T72 x26 x28).f0) ((rd_T72 x26 x28).f1)).bind fun t466 => (if t466 = true then ((spec_nfIndices.f k x0 ((rd_T72 x26 x28).f0) ((rd_T72 x26 x28).f1)).bind fun t467 => (spec_SumTable.l1 k x0 x26 x27 x28 t467 (t467.length : Int) 0 x464000 x464001)) else (some (0, ([] : List Int), false)))) else (none)) else (none)) else (some (x464000, x464001, true))
def spec_SumTable.l1 : Nat → Int → List (S72) → Int → Int → List Int → Int → Int → Int → List Int → Option (Int × List Int × Bool)
 | 0, _, _, _, _, _, _, _, _, _ => none
 | k + 1, x0, x26, x27, x28, x39, x40, x41, x464000, x464001 => if x41 < x40 then (if 0 ≤ x41 then (if x41 < (x39.length : Int) then (if 0 ≤ (rd x39 x41) then (if (rd x39 x41) < (x464001.length : Int) then (spec_SumTable.l1 k x0 x26 x27 x28 x39 x40 (wrap64 (x41 + 1)) x464000 (x464001.set ((rd x39 x41) : Int).toNat 1)) else (none)) else (none)) else (none)) else (none)) else (spec_SumTable.l0 k x0 x26 x27 (wrap64 (x28 + 1)) x464000 x464001)
end
def spec_SumTable.f (k : Nat) (a0 : Int) (l1 : List (S72)) : Option (Int × List Int × Bool) := (spec_ttInputs.f a0).bind fun t459 => (if t459 = true then (spec_SumTable.j0 k a0 l1 (decide ((l1.length : Int) > 16))) else (spec_SumTable.j0 k a0 l1 true))
theorem spec_SumTable.calls (k : Nat) (a0 : Int) (A1 : Option Addr) (c1 : Nat) (l1 : List (S72)) (r1 : Int) (r2 : List Int) (r3 : Bool) (w : World) (hr1 : Kd.C k72 w A1 l1.length l1) (hc1 : l1.length ≤ c1) (h : spec_SumTable.f k a0 l1 = some (r1, r2, r3)) :
  Calls Try.prog 97 #[.int .i64 a0, .slice A1 l1.length c1] w fun e w' => ∃ v1_ : Value, e = .returned (.tuple #[.agg #[.int .i64 r1, v1_], .bool r3]) ∧ Kd.R (Kd.int .i64) 3 w' w.heap.size (fun _ => True) v1_ r2 ∧ Below w.heap.size w w' := by
 have hu60 := Try.underlying60
 have hu72 := Try.underlying72
 have HR1 := aM hr1
 have HC1 := aM hc1
 clear hr1 hc1
 have HB := aM (Below.refl w.heap.size w)
 have H : ((spec_ttInputs.f a0).bind fun t459 => (if t459 = true then (spec_SumTable.j0 k a0 l1 (decide ((l1.length : Int) > 16))) else (spec_SumTable.j0 k a0 l1 true))) = some (r1, r2, r3) := h
 clear h
 have HC3 := aM H
 clear H
 go_enter Try.func97, Try.ntmps97
 go_upto_region 1 with (first | ((with_reducible refine gate_dst (N := 4) rfl ?_); (try (refine gate_guard (by rfl) ?_; dsimp only)); refine box_event ?hg (N := 4) ?hd (cs := #[.int .i64 0, .slice none 0 0]) (t := 60) ?hr ?_; (case hd => rfl); (case hg => rfl); (case hr => exact zc_); intro gb458 hg w4 hbox hb; have n_ := z (below_step za_ hb) <| z (hbox) <| z ((by rw [hg]; exact (below_size za_) : w.heap.size ≤ gb458)) <| z1 ((by rw [hg]; exact (below_size za_) : w.heap.size ≤ gb458)); clear HB; obtain ⟨HB, BK458, GW458, GE458⟩ := n_; clear hb hbox hg))
 (try simp only [Act.put, sI, s0, sS])
 go_cut [18] (fun v18 wc => ∃ (kq : Nat) (x18_2 : Bool), v18 = .bool x18_2 ∧ Aside0 (spec_SumTable.j0 kq a0 l1 x18_2 = some (r1, r2, r3)) ∧ Aside0 (kq ≤ k) ∧ Aside0 (wc.heap[gb458]? = some (.cells #[.int .i64 0, (.slice none 0 0)] 60 (0, 0))) ∧ Aside0 (Below w.heap.size w wc))
 case first =>
  have H := HC3.out; clear HC3; replace H := oB.mp H; obtain ⟨t459, A50, H⟩ := H; replace H : (if t459 = true then (spec_SumTable.j0 k a0 l1 (decide ((l1.length : Int) > 16))) else (spec_SumTable.j0 k a0 l1 true)) = some (r1, r2, r3) := H; have A5 := aM A50; clear A50
  by_cases c6 : t459 = true
  ·subst c6
   have H1 : (spec_SumTable.j0 k a0 l1 (decide ((l1.length : Int) > 16))) = some (r1, r2, r3) := by rw [if_pos rfl] at H; exact H
   clear H; have H := H1; clear H1; have H' := aM H; clear H
   go_wp2_with (first | ((with_reducible refine gate_callee (f := 144) rfl ?_); refine goesL_ (some 12) rfl rfl Try.func144 (by kernel_rfl) rfl #[.int .i64 a0] rfl ze_ ?_; (with_reducible refine (spec_ttInputs.calls a0 true _ A5.out).mono ?_); rintro e w' ⟨rfl, ⟨nd, rfl⟩⟩; refine ⟨_, rfl, ?_⟩))
   go_meet
   case rel => exact ⟨_, (decide ((l1.length : Int) > 16)), zb_, H', ⟨zeh_⟩, ⟨zb BK458.out⟩, ⟨zei_⟩⟩
  ·replace c6 := Bool.eq_false_iff.mpr c6
   subst c6; have H1 : (spec_SumTable.j0 k a0 l1 true) = some (r1, r2, r3) := by rw [if_neg (show ¬ (false = true) by decide)] at H; exact H
   clear H; have H := H1; clear H1; have H' := aM H; clear H
   go_wp2_with (first | ((with_reducible refine gate_callee (f := 144) rfl ?_); refine goesL_ (some 12) rfl rfl Try.func144 (by kernel_rfl) rfl #[.int .i64 a0] rfl ze_ ?_; (with_reducible refine (spec_ttInputs.calls a0 false _ A5.out).mono ?_); rintro e w' ⟨rfl, ⟨nd, rfl⟩⟩; refine ⟨_, rfl, ?_⟩))
   go_meet
   case rel => exact ⟨_, (true), zb_, H', ⟨zeh_⟩, ⟨zb BK458.out⟩, ⟨zei_⟩⟩
 case rest =>
  clear HC3; obtain ⟨kq, x18_2, rfl, HA, HJ2, BK458, HB⟩ := hcut
  cases kq with
  | zero => exact absurd HA.out (by simp [spec_SumTable.j0])
  | succ kj2 =>
   have H := HA.out; clear HA
   simp only [spec_SumTable.j0] at H
   by_cases c7 : x18_2 = true
   ·subst c7
    have H1 : (some (0, ([] : List Int), false)) = some (r1, r2, r3) := by rw [if_pos rfl] at H; exact H
    clear H; have H := H1; clear H1
    simp only [Option.some.injEq, Prod.mk.injEq] at H
    obtain ⟨rfl, rfl, rfl⟩ := H; have hcz8_0 : wc.cell? ⟨gb458, 0, none⟩ = some (.int .i64 0) := (blk_cell BK458.out 0).trans rfl; have hcz8_1 : wc.cell? ⟨gb458, 1, none⟩ = some (.slice none 0 0) := (blk_cell BK458.out 1).trans rfl; have hfz8_0 := blk_frozen BK458.out 0; have hfz8_1 := blk_frozen BK458.out 1
    go_wp2
    refine bodyPost_ret (results_ct rfl _ _ gb458 60 #[.int .i64 0, .slice none 0 0] (0, 0) _ rfl (by refine zb ?_; refine blk_put (cs := #[.int .i64 0, .slice none 0 0]) ?_ 1 _ rfl; refine zb ?_; refine blk_put (cs := #[.int .i64 0, .slice none 0 0]) ?_ 0 _ rfl; refine zb ?_; exact BK458.out) Try.underlying60 rfl (by kernel_rfl)) rfl ?_
    exact ⟨_, zf_, zbi_, zei_⟩
   ·replace c7 := Bool.eq_false_iff.mpr c7
    subst c7; have H1 : (if 0 ≤ (IntKind.u64.wrap (a0)) then (if 0 ≤ (shl .i64 1 (IntKind.u64.wrap (a0))) then (if (shl .i64 1 (IntKind.u64.wrap (a0)) : Int).toNat ≤ 35184372088832 then (spec_SumTable.l0 kj2 a0 l1 (l1.length : Int) 0 a0 (List.replicate (shl .i64 1 (IntKind.u64.wrap (a0)) : Int).toNat 0)) else (none)) else (none)) else (none)) = some (r1, r2, r3) := by rw [if_neg (show ¬ (false = true) by decide)] at H; exact H
    clear H; have H := H1; clear H1; obtain ⟨ji9, hji9⟩ : ∃ j_ : Int, (IntKind.u64.wrap (a0)) = j_ := ⟨_, rfl⟩; replace H : (if 0 ≤ (ji9) then (if 0 ≤ (shl .i64 1 (ji9)) then (if (shl .i64 1 (ji9) : Int).toNat ≤ 35184372088832 then (spec_SumTable.l0 kj2 a0 l1 (l1.length : Int) 0 a0 (List.replicate (shl .i64 1 (ji9) : Int).toNat 0)) else (none)) else (none)) else (none)) = some (r1, r2, r3) := by first | (rw [hji9] at H; exact H) | (simp only [hji9] at H ⊢; exact H)
    by_cases c10 : 0 ≤ (ji9)
    ·rw [if_pos c10] at H
     have c10b0 := eq_true c10; have c10b1 := decide_eq_true c10; clear c10; obtain ⟨ji11, hji11⟩ : ∃ j_ : Int, (shl .i64 1 (ji9)) = j_ := ⟨_, rfl⟩; replace H : (if 0 ≤ (ji11) then (if (ji11 : Int).toNat ≤ 35184372088832 then (spec_SumTable.l0 kj2 a0 l1 (l1.length : Int) 0 a0 (List.replicate (ji11 : Int).toNat 0)) else (none)) else (none)) = some (r1, r2, r3) := by first | (rw [hji11] at H; exact H) | (simp only [hji11] at H ⊢; exact H)
     have hji11_ : (IntKind.i64.wrap (1 * 2 ^ min (ji9).toNat 64)) = ji11 := hji11; have hji11z : (ji9) ≤ 64 → (IntKind.i64.wrap (1 * 2 ^ (ji9).toNat)) = ji11 := shl_small hji11; have hji11u : (IntKind.i64.wrap (2 ^ min (ji9).toNat 64)) = ji11 := by have h_ := hji11_; rw [Int.one_mul] at h_; exact h_
     have hji11v : (ji9) ≤ 64 → (IntKind.i64.wrap (2 ^ (ji9).toNat)) = ji11 := fun hle_ => by have h_ := hji11z hle_; rw [Int.one_mul] at h_; exact h_
     have hji11y : (wrap64 (1 * 2 ^ min (ji9).toNat 64)) = ji11 := (i64_w _).symm.trans hji11_; have hji11x : (ji9) ≤ 64 → (wrap64 (1 * 2 ^ (ji9).toNat)) = ji11 := fun h_ => (i64_w _).symm.trans (hji11z h_)
     by_cases c12 : 0 ≤ (ji11)
     ·rw [if_pos c12] at H
      have c12b0 := eq_true c12; have c12b1 := decide_eq_true c12; clear c12
      by_cases c13 : (ji11 : Int).toNat ≤ 35184372088832
      ·rw [if_pos c13] at H
       have c13b0 := eq_true c13; have c13b1 := decide_eq_true c13; clear c13; obtain ⟨y460, hy460⟩ : ∃ y_ : List Int, y_ = (List.replicate (ji11 : Int).toNat 0) := ⟨_, rfl⟩; replace H : (spec_SumTable.l0 kj2 a0 l1 (l1.length : Int) 0 a0 y460) = some (r1, r2, r3) := by first | (rw [hy460]; with_reducible exact H) | (have H2_ := (oS _ _).symm.trans H; rw [hy460]; with_reducible exact H2_) | (have H2_ := (oS _ _).symm.trans H; with_reducible exact H2_) | with_reducible exact H | (rw [hy460]; exact H) | exact H
       have Ny460 := aM hy460; clear hy460; have H' := aM H; clear H
       go_wp2_with (first | ((with_reducible refine gate_dst (N := 24) rfl ?_); (try (refine gate_guard (by rfl) ?_; dsimp only)); refine Kd.R_make (Kd.int .i64) _ 3 rfl (N := 24) rfl 24 _ _ rfl ji11 rfl rfl Try.underlying24 (.int .i64 0) 8 info3 rfl (by decide) (by omega) 0 (ok := fun _ => True) (okp := fun _ => True) rfl (fun _ hk => hk) trivial (of_decide_eq_true zd_) (Nat.le_trans (Nat.mul_le_mul_right _ (of_decide_eq_true zd_ : ji11.toNat ≤ 35184372088832)) (by omega)) (Below.refl _ _) (Nat.le_refl _) ?_; intro v461 w14 ho15 hb hg_ hnew_; clear hg_ hnew_; (first | rw [← Ny460.out] at ho15 | (simp only [Int.reduceToNat] at ho15; rw [← Ny460.out] at ho15)); have n_ := z (Kd.R_lower ho15 (below_size zei_)) <| z (blk_below (zb BK458.out) hb) <| z1 (below_step zei_ hb); clear BK458 HB; obtain ⟨HO462, BK458, HB⟩ := n_; clear hb ho15; obtain ⟨Ao16, co16, eo16⟩ := Kd.R_slice HO462.out; subst eo16) | ((with_reducible refine gate_dst (N := 6) rfl ?_); (try (refine gate_guard (by rfl) ?_; dsimp only)); refine box_event ?hg (N := 6) ?hd (cs := #[.int .i64 0, .slice none 0 0]) (t := 60) ?hr ?_; (case hd => rfl); (case hg => rfl); (case hr => exact zc_); intro gb463 hg w17 hbox hb; have n_ := z (Kd.R_below (zr HO462.out) hb) <| z (blk_below (zb BK458.out) hb) <| z (below_step zei_ hb) <| z (hbox) <| z ((by rw [hg]; exact (below_size zei_) : w.heap.size ≤ gb463)) <| z ((by rw [hg]; exact (below_size zei_) : w.heap.size ≤ gb463)) <| z ((by rw [hg]; exact Nat.ne_of_lt (blk_lt (zb BK458.out)) : gb458 ≠ gb463)) <| z1 ((by rw [hg]; exact Nat.ne_of_gt (blk_lt (zb BK458.out)) : gb463 ≠ gb458)); clear HO462 BK458 HB; obtain ⟨HO462, BK458, HB, BK463, GW463, GE463, NB458_463, NB463_458⟩ := n_; clear hb hbox hg; have hnb18 := NB463_458.out; have hnc18 := NB458_463.out; have hcz19_0 : w17.cell? ⟨gb463, 0, none⟩ = some (.int .i64 0) := (blk_cell BK463.out 0).trans rfl; have hcz19_1 : w17.cell? ⟨gb463, 1, none⟩ = some (.slice none 0 0) := (blk_cell BK463.out 1).trans rfl; have hfz19_0 := blk_frozen BK463.out 0; have hfz19_1 := blk_frozen BK463.out 1))
       go_loopg [28] kj2 (fun kq v28 w' => ∃ (x28_2 : Int) (x459000_2 : Int) (x464001_2 : List Int) (u464001 : Value), v28 = .int .i64 x28_2 ∧ Aside0 (spec_SumTable.l0 kq a0 l1 (l1.length : Int) x28_2 a0 x464001_2 = some (r1, r2, r3)) ∧ Aside0 (kq ≤ kj2) ∧ Aside0 (Kd.R (Kd.int .i64) 3 w' w.heap.size (fun _ => True) u464001 x464001_2) ∧ Aside0 (w'.heap[gb458]? = some (.cells #[.int .i64 x459000_2, (.slice none 0 0)] 60 (0, 0))) ∧ Aside0 (w'.heap[gb463]? = some (.cells #[.int .i64 a0, u464001] 60 (0, 0))) ∧ Aside0 (Below w.heap.size w w'))
       case atStart => exact ⟨(0), (0), (y460), (.slice Ao16 y460.length co16), zb_, H', ⟨Nat.le_refl _⟩, ⟨by refine zr ?_; exact Kd.R_mono (Kd.R_far (p := ⟨gb463, 1, none⟩) (Kd.R_far (p := ⟨gb463, 0, none⟩) (Kd.R_types HO462.out BK463.out (by decide)) (fun _ hk => hk.2) (.int .i64 a0)) (fun _ hk => hk.2) (.slice Ao16 y460.length co16)) (fun _ hk => trivial)⟩, ⟨by refine zb ?_; refine blk_far ?_ NB458_463.out _; refine zb ?_; refine blk_far ?_ NB458_463.out _; refine zb ?_; exact BK458.out⟩, ⟨by refine zb ?_; refine blk_put (cs := #[.int .i64 a0, .slice none 0 0]) ?_ 1 _ rfl; refine zb ?_; refine blk_put (cs := #[.int .i64 0, .slice none 0 0]) ?_ 0 _ rfl; refine zb ?_; exact BK463.out⟩, ⟨zej_⟩⟩
       case round =>
        clear H'; (try clear c10b0); (try clear c10b1); (try clear c12b0); (try clear c12b1); (try clear c13b0); (try clear c13b1); (try clear hcz19_0); (try clear hcz19_1); (try clear hfz19_0); (try clear hfz19_1); obtain ⟨x28_2, x459000_2, x464001_2, u464001, rfl, HA, HK2, HO_464001, BK458, BK463, HB⟩ := hrel
        cases gk with
        | zero => exact absurd HA.out (by simp [spec_SumTable.l0])
        | succ k2 =>
         have H := HA.out; clear HA
         simp only [spec_SumTable.l0] at H
         by_cases c20 : x28_2 < (l1.length : Int)
         ·rw [if_pos c20] at H
          have c20b0 := decide_eq_true c20; clear c20
          by_cases c21 : 0 ≤ x28_2
          ·rw [if_pos c21] at H
           have c21b0 := decide_eq_true c21; clear c21
           by_cases c22 : x28_2 < (l1.length : Int)
           ·rw [if_pos c22] at H
            have c22b0 := decide_eq_true c22; clear c22; replace H := oB.mp H; obtain ⟨t466, A230, H⟩ := H; replace H : (if t466 = true then ((spec_nfIndices.f k2 a0 ((rd_T72 l1 x28_2).f0) ((rd_T72 l1 x28_2).f1)).bind fun t467 => (spec_SumTable.l1 k2 a0 l1 (l1.length : Int) x28_2 t467 (t467.length : Int) 0 a0 x464001_2)) else (some (0, ([] : List Int), false))) = some (r1, r2, r3) := H; have A23 := aM A230; clear A230
            by_cases c24 : t466 = true
            ·subst c24
             have H1 : ((spec_nfIndices.f k2 a0 ((rd_T72 l1 x28_2).f0) ((rd_T72 l1 x28_2).f1)).bind fun t467 => (spec_SumTable.l1 k2 a0 l1 (l1.length : Int) x28_2 t467 (t467.length : Int) 0 a0 x464001_2)) = some (r1, r2, r3) := by rw [if_pos rfl] at H; exact H
             clear H; have H := H1; clear H1; replace H := oB.mp H; obtain ⟨t467, A250, H⟩ := H; replace H : (spec_SumTable.l1 k2 a0 l1 (l1.length : Int) x28_2 t467 (t467.length : Int) 0 a0 x464001_2) = some (r1, r2, r3) := H; have A25 := aM A250; clear A250; have H' := aM H; clear H; have p464 : 0 ≤ (x28_2 : Int) := of_decide_eq_true zd_; have q464 : x28_2 < (l1.length : Int) := of_decide_eq_true zd_; obtain ⟨ad464, e464, hx464_0, hx464_1⟩ := at_T72 HR1.out x28_2 p464 q464
             cases e464
             (try (replace hx464_0 := (HB.out.cell (World.block_lt_of_cell? w _ hx464_0)).trans hx464_0)); (try (replace hx464_1 := (HB.out.cell (World.block_lt_of_cell? w _ hx464_1)).trans hx464_1)); replace p464 := eq_true p464; replace q464 := eq_true q464
             go_wp2_with (first | ((with_reducible refine gate_dst (N := 8) rfl ?_); (try (refine gate_guard (by rfl) ?_; dsimp only)); refine box_event ?hg (N := 8) ?hd (cs := #[.int .i64 0, .int .i64 0]) (t := 72) ?hr ?_; (case hd => rfl); (case hg => rfl); (case hr => exact zc_); intro gb465 hg w26 hbox hb; have n_ := z (Kd.R_below (zr HO_464001.out) hb) <| z (blk_below (zb BK458.out) hb) <| z (blk_below (zb BK463.out) hb) <| z (below_step zej_ hb) <| z (hbox) <| z ((by rw [hg]; exact (below_size zej_) : w.heap.size ≤ gb465)) <| z ((by rw [hg]; exact (below_size zej_) : w.heap.size ≤ gb465)) <| z ((by rw [hg]; exact Nat.ne_of_lt (blk_lt (zb BK458.out)) : gb458 ≠ gb465)) <| z ((by rw [hg]; exact Nat.ne_of_gt (blk_lt (zb BK458.out)) : gb465 ≠ gb458)) <| z ((by rw [hg]; exact Nat.ne_of_lt (blk_lt (zb BK463.out)) : gb463 ≠ gb465)) <| z1 ((by rw [hg]; exact Nat.ne_of_gt (blk_lt (zb BK463.out)) : gb465 ≠ gb463)); clear HO_464001 BK458 BK463 HB; obtain ⟨HO_464001, BK458, BK463, HB, BK465, GW465, GE465, NB458_465, NB465_458, NB463_465, NB465_463⟩ := n_; clear hb hbox hg; have hnb27 := NB465_458.out; have hnc27 := NB458_465.out; have hnb28 := NB465_463.out; have hnc28 := NB463_465.out; have hcz29_0 : w26.cell? ⟨gb465, 0, none⟩ = some (.int .i64 0) := (blk_cell BK465.out 0).trans rfl; have hcz29_1 : w26.cell? ⟨gb465, 1, none⟩ = some (.int .i64 0) := (blk_cell BK465.out 1).trans rfl; have hfz29_0 := blk_frozen BK465.out 0; have hfz29_1 := blk_frozen BK465.out 1) | ((with_reducible refine gate_callee (f := 135) rfl ?_); refine goesL_ (some 34) rfl rfl Try.func135 (by kernel_rfl) rfl #[.int .i64 a0, .agg #[.int .i64 ((rd_T72 l1 x28_2).f0), .int .i64 ((rd_T72 l1 x28_2).f1)]] rfl ze_ ?_; (with_reducible refine (spec_nfTerm.calls a0 ((rd_T72 l1 x28_2).f0) ((rd_T72 l1 x28_2).f1) true _ A23.out).mono ?_); rintro e w30 ⟨rfl, hb⟩; refine ⟨_, rfl, ?_⟩; have n_ := z (Kd.R_below (by refine zr ?_; exact (Kd.R_mono (Kd.R_far (p := ⟨gb465, 1, none⟩) (Kd.R_far (p := ⟨gb465, 0, none⟩) (Kd.R_types HO_464001.out BK465.out (by decide)) (fun _ hk => hk.2) (.int .i64 ((rd_T72 l1 x28_2).f0))) (fun _ hk => hk.2) (.int .i64 ((rd_T72 l1 x28_2).f1))) (fun _ h_ => h_.1))) hb) <| z (blk_below (g := gb458) (o := .cells #[.int .i64 x459000_2, .slice none 0 0] 60 (0, 0)) (by refine zb ?_; refine blk_far ?_ NB458_465.out _; refine zb ?_; refine blk_far ?_ NB458_465.out _; refine zb ?_; exact BK458.out) hb) <| z (blk_below (g := gb463) (o := .cells #[.int .i64 a0, u464001] 60 (0, 0)) (by refine zb ?_; refine blk_far ?_ NB463_465.out _; refine zb ?_; refine blk_far ?_ NB463_465.out _; refine zb ?_; exact BK463.out) hb) <| z (blk_below (g := gb465) (o := .cells #[.int .i64 ((rd_T72 l1 x28_2).f0), .int .i64 ((rd_T72 l1 x28_2).f1)] 72 (0, 0)) (by refine zb ?_; refine blk_put (cs := #[.int .i64 ((rd_T72 l1 x28_2).f0), .int .i64 0]) ?_ 1 _ rfl; refine zb ?_; refine blk_put (cs := #[.int .i64 0, .int .i64 0]) ?_ 0 _ rfl; refine zb ?_; exact BK465.out) hb) <| z1 (below_step zfa_ hb); clear HO_464001 BK458 BK463 BK465 HB; obtain ⟨HO_464001, BK458, BK463, BK465, HB⟩ := n_; clear hb; (try clear hk); have hcz31_0 : w30.cell? ⟨gb465, 0, none⟩ = some (.int .i64 ((rd_T72 l1 x28_2).f0)) := (blk_cell BK465.out 0).trans rfl; have hcz31_1 : w30.cell? ⟨gb465, 1, none⟩ = some (.int .i64 ((rd_T72 l1 x28_2).f1)) := (blk_cell BK465.out 1).trans rfl; have hfz31_0 := blk_frozen BK465.out 0; have hfz31_1 := blk_frozen BK465.out 1) | ((with_reducible refine gate_callee (f := 137) rfl ?_); refine goesL_ (some 39) rfl rfl Try.func137 (by kernel_rfl) rfl #[.int .i64 a0, .agg #[.int .i64 ((rd_T72 l1 x28_2).f0), .int .i64 ((rd_T72 l1 x28_2).f1)]] rfl ze_ ?_; (with_reducible refine (spec_nfIndices.calls k2 a0 ((rd_T72 l1 x28_2).f0) ((rd_T72 l1 x28_2).f1) t467 _ A25.out).mono ?_); rintro e w32 ⟨v468, rfl, ho0, hb⟩; refine ⟨_, rfl, ?_⟩; have n_ := z (Kd.R_elder' (zr HO_464001.out) (Kd.R_base ho0) hb) <| z (Kd.R_lower (Kd.R_new' ho0 (Kd.R_lt (zr HO_464001.out))) (below_size zfa_)) <| z (blk_below (zb BK458.out) hb) <| z (blk_below (zb BK463.out) hb) <| z (blk_below (g := gb465) (o := .cells #[.int .i64 ((rd_T72 l1 x28_2).f0), .int .i64 ((rd_T72 l1 x28_2).f1)] 72 (0, 0)) (zb BK465.out) hb) <| z1 (below_step zfa_ hb); clear HO_464001 BK458 BK463 BK465 HB; obtain ⟨HO_464001, HO469, BK458, BK463, BK465, HB⟩ := n_; clear hb; (try clear ho0); obtain ⟨Ao33, co33, eo33⟩ := Kd.R_slice HO469.out; subst eo33))
             go_loopg [41] k2 (fun kq v41 w' => ∃ (x39_3 : List Int) (x41_3 : Int) (x464001_3 : List Int) (u464001 : Value), v41 = .int .i64 x41_3 ∧ Aside0 (spec_SumTable.l1 kq a0 l1 (l1.length : Int) x28_2 x39_3 (t467.length : Int) x41_3 a0 x464001_3 = some (r1, r2, r3)) ∧ Aside0 (kq ≤ k2) ∧ Aside0 (Kd.R (Kd.int .i64) 3 w' w.heap.size (fun k_ => some k_ ≠ (u464001 : Value).ownBlock) (.slice Ao33 t467.length co33) x39_3) ∧ Aside0 (Kd.R (Kd.int .i64) 3 w' w.heap.size (fun k_ => some k_ ≠ ((.slice Ao33 t467.length co33) : Value).ownBlock) u464001 x464001_3) ∧ Aside0 (w'.heap[gb458]? = some (.cells #[.int .i64 x459000_2, (.slice none 0 0)] 60 (0, 0))) ∧ Aside0 (w'.heap[gb463]? = some (.cells #[.int .i64 a0, u464001] 60 (0, 0))) ∧ Aside0 (w'.heap[gb465]? = some (.cells #[.int .i64 ((rd_T72 l1 x28_2).f0), .int .i64 ((rd_T72 l1 x28_2).f1)] 72 (0, 0))) ∧ Aside0 (Below w.heap.size w w'))
             case atStart => exact ⟨(t467), (0), (x464001_2), (u464001), zb_, H', ⟨Nat.le_refl _⟩, ⟨by refine zr ?_; exact Kd.R_mono HO469.out (fun _ hk => hk.2)⟩, ⟨by refine zr ?_; exact Kd.R_mono HO_464001.out (fun _ hk => hk.2)⟩, ⟨zb BK458.out⟩, ⟨zb BK463.out⟩, ⟨zb BK465.out⟩, ⟨zfa_⟩⟩
             case round =>
              clear H'; (try clear c20b0); (try clear c21b0); (try clear c22b0); (try clear hcz29_0); (try clear hcz29_1); (try clear hcz31_0); (try clear hcz31_1); (try clear hfz29_0); (try clear hfz29_1); (try clear hfz31_0); (try clear hfz31_1); (try clear hx464_0); (try clear hx464_1); (try clear p464); (try clear q464); obtain ⟨x39_3, x41_3, x464001_3, u464001, rfl, HA, HK3, HO_39, HO_464001, BK458, BK463, BK465, HB⟩ := hrel; have hl39_3 := (Kd.R_reads' HO_39.out).1; rw [hl39_3] at HO_39; (try simp only [hl39_3]); (try simp only [hl39_3] at BK458); (try simp only [hl39_3] at BK463); (try simp only [hl39_3] at BK465); (try simp only [hl39_3] at HO_464001)
              cases gk with
              | zero => exact absurd HA.out (by simp [spec_SumTable.l1])
              | succ k3 =>
               have H := HA.out; clear HA
               simp only [spec_SumTable.l1] at H
               by_cases c34 : x41_3 < (t467.length : Int)
               ·rw [if_pos c34] at H
                have c34b0 := decide_eq_true c34; (try (have c34z0 := c34b0; rw [hl39_3] at c34z0)); clear c34
                by_cases c35 : 0 ≤ x41_3
                ·rw [if_pos c35] at H
                 have c35b0 := decide_eq_true c35; clear c35
                 by_cases c36 : x41_3 < (x39_3.length : Int)
                 ·rw [if_pos c36] at H
                  have c36b0 := decide_eq_true c36; (try (have c36z0 := c36b0; rw [hl39_3] at c36z0)); clear c36
                  by_cases c37 : 0 ≤ (rd x39_3 x41_3)
                  ·rw [if_pos c37] at H
                   have c37b0 := decide_eq_true c37; clear c37
                   by_cases c38 : (rd x39_3 x41_3) < (x464001_3.length : Int)
                   ·rw [if_pos c38] at H
                    have c38b0 := decide_eq_true c38; (try (have c38z0 := c38b0; rw [hl39_3] at c38z0)); clear c38; obtain ⟨y471, hy471⟩ : ∃ y_ : List Int, y_ = (x464001_3.set ((rd x39_3 x41_3) : Int).toNat 1) := ⟨_, rfl⟩; replace H : (spec_SumTable.l1 k3 a0 l1 (l1.length : Int) x28_2 x39_3 (t467.length : Int) (wrap64 (x41_3 + 1)) a0 y471) = some (r1, r2, r3) := by first | (rw [hy471]; with_reducible exact H) | (have H2_ := (oS _ _).symm.trans H; rw [hy471]; with_reducible exact H2_) | (have H2_ := (oS _ _).symm.trans H; with_reducible exact H2_) | with_reducible exact H | (rw [hy471]; exact H) | exact H
                    have Ny471 := aM hy471; clear hy471; have H' := aM H; clear H; have p470 : 0 ≤ (x41_3 : Int) := of_decide_eq_true zd_; have q470 : x41_3 < (x39_3.length : Int) := of_decide_eq_true zd_; obtain ⟨ad470, e470, hx470_0⟩ := Kd.at_int (Kd.R_reads' HO_39.out).2.2 x41_3 p470 q470
                    cases e470
                    replace p470 := eq_true p470; replace q470 := eq_true q470; have hnb40 := NB463_458.out; have hnc40 := NB458_463.out; have hnb41 := NB463_465.out; have hnc41 := NB465_463.out; have hcz42_0 : wr.cell? ⟨gb463, 0, none⟩ = some (.int .i64 a0) := (blk_cell BK463.out 0).trans rfl; have hcz42_1 : wr.cell? ⟨gb463, 1, none⟩ = some (u464001) := (blk_cell BK463.out 1).trans rfl; have hfz42_0 := blk_frozen BK463.out 0; have hfz42_1 := blk_frozen BK463.out 1; have p39 : 0 ≤ ((rd x39_3 x41_3) : Int) := of_decide_eq_true zd_; have q39 : ((rd x39_3 x41_3) : Int) < ((x464001_3.length : Int) : Int) := of_decide_eq_true zd_; obtain ⟨go39, co39, eo39, gb39, gl39, cl39, HG39⟩ := Kd.R_form HO_464001.out (by omega); (first | cases eo39 | (injection eo39 with ea_ en_ ec_; (first | subst ea_ | (injection ea_ with ea_; subst ea_)); subst ec_; clear en_)); have GB39 := aM gb39; have GG39 := aM HG39; clear gb39 gl39 HG39; obtain ⟨hx39_0, hf39_0⟩ := Kd.R_celln 0 HO_464001.out ((rd x39_3 x41_3) : Int) p39 q39; replace p39 := eq_true p39; replace q39 := eq_true q39; have HP43 := Kd.R_putg HO_464001.out ((rd x39_3 x41_3) : Int) 1
                    go_wp2_with (first | ((with_reducible refine gate_store (t := 3) (p := 48) rfl ?_); refine store_event (t := 3) (p := 48) (v := ?vo_w44) (w1 := (wr.setCell ⟨go39, ((rd x39_3 x41_3) : Int).toNat, none⟩ (.int .i64 1))) ?hg ?ho ?hn ?hr ?_; (case ho => rfl); (case hg => rfl); (case hn => rfl); (case hr => exact zc_); intro w44 hw; have hg : wr.grownBy w44 (some go39) := (by rw [hw]; exact HP43.2); have hp_ : Kd.R (Kd.int .i64) 3 w44 w.heap.size (fun k_ => some k_ ≠ (.slice (some ad470) x39_3.length co33 : Value).ownBlock) (.slice (some ⟨go39, 0, none⟩) x464001_3.length co39) y471 := (by rw [hw, Ny471.out]; exact HP43.1); clear HP43; have n_ := z (Kd.R_after (v := (.slice (some ⟨go39, 0, none⟩) x464001_3.length co39)) (v1 := (.slice (some ⟨go39, 0, none⟩) x464001_3.length co39)) (ok := (fun _ => True)) (by refine zr ?_; exact Kd.R_mono HO_39.out (fun _ hk => ⟨trivial, hk⟩)) hg (.inl rfl)) <| z (hp_) <| z (blk_grown (g := gb458) (o := .cells #[.int .i64 x459000_2, .slice none 0 0] 60 (0, 0)) (zb BK458.out) hg (Kd.R_ne HO_464001.out BK458.out (by decide))) <| z (blk_grown (g := gb463) (o := .cells #[.int .i64 a0, .slice (some ⟨go39, 0, none⟩) x464001_3.length co39] 60 (0, 0)) (zb BK463.out) hg (Kd.R_ne HO_464001.out BK463.out (by decide))) <| z (blk_grown (g := gb465) (o := .cells #[.int .i64 ((rd_T72 l1 x28_2).f0), .int .i64 ((rd_T72 l1 x28_2).f1)] 72 (0, 0)) (zb BK465.out) hg (Kd.R_ne HO_464001.out BK465.out (by decide))) <| z1 ((by rw [hw]; exact below_set (HB.out) GB39.out : Below w.heap.size w w44)); clear HO_39 HO_464001 BK458 BK463 BK465 HB; obtain ⟨HO_39, HO_464001, BK458, BK463, BK465, HB⟩ := n_; clear hg hw hp_))
                    (try simp only [← hl39_3])
                    go_roundg k3
                    case measure => have := HJ2.out; have := HK2.out; have := HK3.out; omega
                    case rel => exact ⟨(x39_3), (wrap64 (x41_3 + 1)), (y471), (.slice (some ⟨go39, 0, none⟩) x464001_3.length co39), zb_, H', ⟨by have := HJ2.out; have := HK2.out; have := HK3.out; omega⟩, ⟨by (try simp only [hl39_3]); refine zr ?_; exact Kd.R_mono HO_39.out (fun _ hk => hk.2)⟩, ⟨by (try simp only [hl39_3]); refine zr ?_; exact HO_464001.out⟩, ⟨by (try simp only [hl39_3]); refine zb ?_; exact BK458.out⟩, ⟨by (try simp only [hl39_3]); refine zb ?_; exact BK463.out⟩, ⟨by (try simp only [hl39_3]); refine zb ?_; exact BK465.out⟩, ⟨zfa_⟩⟩
                   ·rw [if_neg c38] at H
                    exact absurd H (by simp)
                  ·rw [if_neg c37] at H
                   exact absurd H (by simp)
                 ·rw [if_neg c36] at H
                  exact absurd H (by simp)
                ·rw [if_neg c35] at H
                 exact absurd H (by simp)
               ·rw [if_neg c34] at H
                have c34b0 := decide_eq_false c34; (try (have c34z0 := c34b0; rw [hl39_3] at c34z0)); clear c34; have H' := aM H; clear H
                go_wp2
                (try simp only [← hl39_3])
                go_roundg k3
                case measure => have := HJ2.out; have := HK2.out; have := HK3.out; omega
                case rel => exact ⟨(wrap64 (x28_2 + 1)), (x459000_2), (x464001_3), (u464001), zb_, H', ⟨by have := HJ2.out; have := HK2.out; have := HK3.out; omega⟩, ⟨by (try simp only [hl39_3]); refine zr ?_; exact Kd.R_mono HO_464001.out (fun _ hk => trivial)⟩, ⟨by (try simp only [hl39_3]); refine zb ?_; exact BK458.out⟩, ⟨by (try simp only [hl39_3]); refine zb ?_; exact BK463.out⟩, ⟨zfa_⟩⟩
            ·replace c24 := Bool.eq_false_iff.mpr c24
             subst c24; have H1 : (some (0, ([] : List Int), false)) = some (r1, r2, r3) := by rw [if_neg (show ¬ (false = true) by decide)] at H; exact H
             clear H; have H := H1; clear H1
             simp only [Option.some.injEq, Prod.mk.injEq] at H
             obtain ⟨rfl, rfl, rfl⟩ := H; have p464 : 0 ≤ (x28_2 : Int) := of_decide_eq_true zd_; have q464 : x28_2 < (l1.length : Int) := of_decide_eq_true zd_; obtain ⟨ad464, e464, hx464_0, hx464_1⟩ := at_T72 HR1.out x28_2 p464 q464
             cases e464
             (try (replace hx464_0 := (HB.out.cell (World.block_lt_of_cell? w _ hx464_0)).trans hx464_0)); (try (replace hx464_1 := (HB.out.cell (World.block_lt_of_cell? w _ hx464_1)).trans hx464_1)); replace p464 := eq_true p464; replace q464 := eq_true q464
             go_wp2_with (first | ((with_reducible refine gate_dst (N := 8) rfl ?_); (try (refine gate_guard (by rfl) ?_; dsimp only)); refine box_event ?hg (N := 8) ?hd (cs := #[.int .i64 0, .int .i64 0]) (t := 72) ?hr ?_; (case hd => rfl); (case hg => rfl); (case hr => exact zc_); intro gb465 hg w45 hbox hb; have n_ := z (Kd.R_below (zr HO_464001.out) hb) <| z (blk_below (zb BK458.out) hb) <| z (blk_below (zb BK463.out) hb) <| z (below_step zej_ hb) <| z (hbox) <| z ((by rw [hg]; exact (below_size zej_) : w.heap.size ≤ gb465)) <| z ((by rw [hg]; exact (below_size zej_) : w.heap.size ≤ gb465)) <| z ((by rw [hg]; exact Nat.ne_of_lt (blk_lt (zb BK458.out)) : gb458 ≠ gb465)) <| z ((by rw [hg]; exact Nat.ne_of_gt (blk_lt (zb BK458.out)) : gb465 ≠ gb458)) <| z ((by rw [hg]; exact Nat.ne_of_lt (blk_lt (zb BK463.out)) : gb463 ≠ gb465)) <| z1 ((by rw [hg]; exact Nat.ne_of_gt (blk_lt (zb BK463.out)) : gb465 ≠ gb463)); clear HO_464001 BK458 BK463 HB; obtain ⟨HO_464001, BK458, BK463, HB, BK465, GW465, GE465, NB458_465, NB465_458, NB463_465, NB465_463⟩ := n_; clear hb hbox hg; have hnb46 := NB465_458.out; have hnc46 := NB458_465.out; have hnb47 := NB465_463.out; have hnc47 := NB463_465.out; have hcz48_0 : w45.cell? ⟨gb465, 0, none⟩ = some (.int .i64 0) := (blk_cell BK465.out 0).trans rfl; have hcz48_1 : w45.cell? ⟨gb465, 1, none⟩ = some (.int .i64 0) := (blk_cell BK465.out 1).trans rfl; have hfz48_0 := blk_frozen BK465.out 0; have hfz48_1 := blk_frozen BK465.out 1) | ((with_reducible refine gate_callee (f := 135) rfl ?_); refine goesL_ (some 34) rfl rfl Try.func135 (by kernel_rfl) rfl #[.int .i64 a0, .agg #[.int .i64 ((rd_T72 l1 x28_2).f0), .int .i64 ((rd_T72 l1 x28_2).f1)]] rfl ze_ ?_; (with_reducible refine (spec_nfTerm.calls a0 ((rd_T72 l1 x28_2).f0) ((rd_T72 l1 x28_2).f1) false _ A23.out).mono ?_); rintro e w49 ⟨rfl, hb⟩; refine ⟨_, rfl, ?_⟩; have n_ := z (Kd.R_below (by refine zr ?_; exact (Kd.R_mono (Kd.R_far (p := ⟨gb465, 1, none⟩) (Kd.R_far (p := ⟨gb465, 0, none⟩) (Kd.R_types HO_464001.out BK465.out (by decide)) (fun _ hk => hk.2) (.int .i64 ((rd_T72 l1 x28_2).f0))) (fun _ hk => hk.2) (.int .i64 ((rd_T72 l1 x28_2).f1))) (fun _ h_ => h_.1))) hb) <| z (blk_below (g := gb458) (o := .cells #[.int .i64 x459000_2, .slice none 0 0] 60 (0, 0)) (by refine zb ?_; refine blk_far ?_ NB458_465.out _; refine zb ?_; refine blk_far ?_ NB458_465.out _; refine zb ?_; exact BK458.out) hb) <| z (blk_below (g := gb463) (o := .cells #[.int .i64 a0, u464001] 60 (0, 0)) (by refine zb ?_; refine blk_far ?_ NB463_465.out _; refine zb ?_; refine blk_far ?_ NB463_465.out _; refine zb ?_; exact BK463.out) hb) <| z (blk_below (g := gb465) (o := .cells #[.int .i64 ((rd_T72 l1 x28_2).f0), .int .i64 ((rd_T72 l1 x28_2).f1)] 72 (0, 0)) (by refine zb ?_; refine blk_put (cs := #[.int .i64 ((rd_T72 l1 x28_2).f0), .int .i64 0]) ?_ 1 _ rfl; refine zb ?_; refine blk_put (cs := #[.int .i64 0, .int .i64 0]) ?_ 0 _ rfl; refine zb ?_; exact BK465.out) hb) <| z1 (below_step zfa_ hb); clear HO_464001 BK458 BK463 BK465 HB; obtain ⟨HO_464001, BK458, BK463, BK465, HB⟩ := n_; clear hb; (try clear hk); have hnb50 := NB458_463.out; have hnc50 := NB463_458.out; have hcz51_0 : w49.cell? ⟨gb458, 0, none⟩ = some (.int .i64 x459000_2) := (blk_cell BK458.out 0).trans rfl; have hcz51_1 : w49.cell? ⟨gb458, 1, none⟩ = some (.slice none 0 0) := (blk_cell BK458.out 1).trans rfl; have hfz51_0 := blk_frozen BK458.out 0; have hfz51_1 := blk_frozen BK458.out 1))
             refine bodyPost_ret (results_ct rfl _ _ gb458 60 #[.int .i64 0, .slice none 0 0] (0, 0) _ rfl (by refine zb ?_; refine blk_put (cs := #[.int .i64 0, .slice none 0 0]) ?_ 1 _ rfl; refine zb ?_; refine blk_put (cs := #[.int .i64 x459000_2, .slice none 0 0]) ?_ 0 _ rfl; refine zb ?_; exact BK458.out) Try.underlying60 rfl (by kernel_rfl)) rfl ?_
             exact ⟨_, by first | rfl | (simp [errW_none, errW_some] <;> rfl) | (simp only [← hji9, ← hji11]; first | rfl | (simp [errW_none, errW_some] <;> rfl)) | (simp [*, errW_none, errW_some] <;> rfl), zbi_, zfa_⟩
           ·rw [if_neg c22] at H
            exact absurd H (by simp)
          ·rw [if_neg c21] at H
           exact absurd H (by simp)
         ·rw [if_neg c20] at H
          have c20b0 := decide_eq_false c20; clear c20
          simp only [Option.some.injEq, Prod.mk.injEq] at H
          obtain ⟨rfl, rfl, rfl⟩ := H; have hnb52 := NB463_458.out; have hnc52 := NB458_463.out; have hcz53_0 : wr.cell? ⟨gb463, 0, none⟩ = some (.int .i64 a0) := (blk_cell BK463.out 0).trans rfl; have hcz53_1 : wr.cell? ⟨gb463, 1, none⟩ = some (u464001) := (blk_cell BK463.out 1).trans rfl; have hfz53_0 := blk_frozen BK463.out 0; have hfz53_1 := blk_frozen BK463.out 1; have hcz54_0 : wr.cell? ⟨gb458, 0, none⟩ = some (.int .i64 x459000_2) := (blk_cell BK458.out 0).trans rfl; have hcz54_1 : wr.cell? ⟨gb458, 1, none⟩ = some (.slice none 0 0) := (blk_cell BK458.out 1).trans rfl; have hfz54_0 := blk_frozen BK458.out 0; have hfz54_1 := blk_frozen BK458.out 1; obtain ⟨Ao55, co55, eo55⟩ := Kd.R_slice HO_464001.out; subst eo55
          go_wp2
          refine bodyPost_ret (results_ct rfl _ _ gb458 60 #[.int .i64 a0, .slice Ao55 x464001_2.length co55] (0, 0) _ rfl (by refine zb ?_; refine blk_put (cs := #[.int .i64 a0, .slice none 0 0]) ?_ 1 _ rfl; refine zb ?_; refine blk_put (cs := #[.int .i64 x459000_2, .slice none 0 0]) ?_ 0 _ rfl; refine zb ?_; exact BK458.out) Try.underlying60 rfl (by kernel_rfl)) rfl ?_
          exact ⟨_, by first | rfl | (simp [errW_none, errW_some] <;> rfl) | (simp only [← hji9, ← hji11]; first | rfl | (simp [errW_none, errW_some] <;> rfl)) | (simp [*, errW_none, errW_some] <;> rfl), by refine zr ?_; exact Kd.R_mono (Kd.R_far (p := ⟨gb458, 1, none⟩) (Kd.R_far (p := ⟨gb458, 0, none⟩) (Kd.R_types HO_464001.out BK458.out (by decide)) (fun _ hk => hk.2) (.int .i64 a0)) (fun _ hk => hk.2) (.slice Ao55 x464001_2.length co55)) (fun _ hk => trivial), zej_⟩
      ·rw [if_neg c13] at H
       exact absurd H (by simp)
     ·rw [if_neg c12] at H
      exact absurd H (by simp)
    ·rw [if_neg c10] at H
     exact absurd H (by simp)
def laws_qTable.f (k : Nat) (a0_0 : Int) (l0_1 : List Int) (a1_0 : Int) (l1_1 : List Int) : Option (Bool) := if a0_0 = a1_0 then ((laws_qInts.f k l0_1 l1_1).bind fun t474 => (some t474)) else (some false)
theorem laws_qTable.calls (k : Nat) (a0_0 : Int) (A0_1 : Option Addr) (c0_1 : Nat) (l0_1 : List Int) (a1_0 : Int) (A1_1 : Option Addr) (c1_1 : Nat) (l1_1 : List Int) (r : Bool) (w : World) (hr0_1 : Kd.C (Kd.int .i64) w A0_1 l0_1.length l0_1) (hc0_1 : l0_1.length ≤ c0_1) (hr1_1 : Kd.C (Kd.int .i64) w A1_1 l1_1.length l1_1) (hc1_1 : l1_1.length ≤ c1_1) (h : laws_qTable.f k a0_0 l0_1 a1_0 l1_1 = some r) :
  Calls Try.prog 98 #[.agg #[.int .i64 a0_0, .slice A0_1 l0_1.length c0_1], .agg #[.int .i64 a1_0, .slice A1_1 l1_1.length c1_1]] w fun e w' => e = .returned (.bool r) ∧ Below w.heap.size w w' := by
 have hu60 := Try.underlying60
 have HR0_1 := aM hr0_1
 have HC0_1 := aM hc0_1
 clear hr0_1 hc0_1
 have HR1_1 := aM hr1_1
 have HC1_1 := aM hc1_1
 clear hr1_1 hc1_1
 have HB := aM (Below.refl w.heap.size w)
 have H : (if a0_0 = a1_0 then ((laws_qInts.f k l0_1 l1_1).bind fun t474 => (some t474)) else (some false)) = some r := h
 clear h
 by_cases c3 : a0_0 = a1_0
 ·rw [if_pos c3] at H
  have c3b0 := beq_iff_eq.mpr c3; have c3b1 := bne_eq_false_iff_eq.mpr c3; clear c3; replace H := oB.mp H; obtain ⟨t474, A40, H⟩ := H; replace H : (some t474) = some r := H; have A4 := aM A40; clear A40; obtain rfl := Option.some.inj H
  go_enter Try.func98, Try.ntmps98
  go_wp2_with (first | ((with_reducible refine gate_dst (N := 2) rfl ?_); refine box_event ?hg (N := 2) ?hd (cs := #[.int .i64 a0_0, .slice A0_1 l0_1.length c0_1]) (t := 60) ?hr ?_; (case hd => rfl); (case hg => rfl); (case hr => exact zc_); intro gb472 hg w5 hbox hb; have n_ := z (below_step za_ hb) <| z (hbox) <| z ((by rw [hg]; exact (below_size za_) : w.heap.size ≤ gb472)) <| z1 ((by rw [hg]; exact (below_size za_) : w.heap.size ≤ gb472)); clear HB; obtain ⟨HB, BK472, GW472, GE472⟩ := n_; clear hb hbox hg) | ((with_reducible refine gate_dst (N := 3) rfl ?_); refine box_event ?hg (N := 3) ?hd (cs := #[.int .i64 a1_0, .slice A1_1 l1_1.length c1_1]) (t := 60) ?hr ?_; (case hd => rfl); (case hg => rfl); (case hr => exact zc_); intro gb473 hg w6 hbox hb; have n_ := z (blk_below (zb BK472.out) hb) <| z (below_step zhg_ hb) <| z (hbox) <| z ((by rw [hg]; exact (below_size zhg_) : w.heap.size ≤ gb473)) <| z ((by rw [hg]; exact (below_size zhg_) : w.heap.size ≤ gb473)) <| z ((by rw [hg]; exact Nat.ne_of_lt (blk_lt (zb BK472.out)) : gb472 ≠ gb473)) <| z1 ((by rw [hg]; exact Nat.ne_of_gt (blk_lt (zb BK472.out)) : gb473 ≠ gb472)); clear BK472 HB; obtain ⟨BK472, HB, BK473, GW473, GE473, NB472_473, NB473_472⟩ := n_; clear hb hbox hg; have hnb7 := NB472_473.out; have hnc7 := NB473_472.out; have hcz8_0 : w6.cell? ⟨gb472, 0, none⟩ = some (.int .i64 a0_0) := (blk_cell BK472.out 0).trans rfl; have hcz8_1 : w6.cell? ⟨gb472, 1, none⟩ = some (.slice A0_1 l0_1.length c0_1) := (blk_cell BK472.out 1).trans rfl; have hfz8_0 := blk_frozen BK472.out 0; have hfz8_1 := blk_frozen BK472.out 1; have hcz9_0 : w6.cell? ⟨gb473, 0, none⟩ = some (.int .i64 a1_0) := (blk_cell BK473.out 0).trans rfl; have hcz9_1 : w6.cell? ⟨gb473, 1, none⟩ = some (.slice A1_1 l1_1.length c1_1) := (blk_cell BK473.out 1).trans rfl; have hfz9_0 := blk_frozen BK473.out 0; have hfz9_1 := blk_frozen BK473.out 1) | (go_at_call 23; (with_reducible refine (laws_qInts.calls k _ _ l0_1 _ _ l1_1 t474 _ ?side1 ?side2 ?side3 ?side4 A4.out).mono ?_); (case side1 => exact zi_); (case side2 => exact HC0_1.out); (case side3 => repeat (first | exact (Kd.C_below HR1_1.out HB.out) | (with_reducible refine cA ?_ _) | (with_reducible refine cN ?_ _) | (with_reducible refine cD ?_))); (case side4 => exact HC1_1.out); rintro e w' ⟨rfl, ⟨nd, rfl⟩⟩))
  go_ret
  exact ⟨zf_, by repeat (first | (with_reducible first | exact HB.out | apply pA | apply pN | apply p1 | refine below_set ?_ GE472.out | refine below_set ?_ GE473.out) | exact HB.out)⟩
 ·rw [if_neg c3] at H
  have c3b0 := beq_eq_false_iff_ne.mpr c3; have c3b1 := bne_iff_ne.mpr c3; obtain rfl := Option.some.inj H
  go_enter Try.func98, Try.ntmps98
  go_wp2_with (first | ((with_reducible refine gate_dst (N := 2) rfl ?_); refine box_event ?hg (N := 2) ?hd (cs := #[.int .i64 a0_0, .slice A0_1 l0_1.length c0_1]) (t := 60) ?hr ?_; (case hd => rfl); (case hg => rfl); (case hr => exact zc_); intro gb472 hg w10 hbox hb; have n_ := z (below_step za_ hb) <| z (hbox) <| z ((by rw [hg]; exact (below_size za_) : w.heap.size ≤ gb472)) <| z1 ((by rw [hg]; exact (below_size za_) : w.heap.size ≤ gb472)); clear HB; obtain ⟨HB, BK472, GW472, GE472⟩ := n_; clear hb hbox hg) | ((with_reducible refine gate_dst (N := 3) rfl ?_); refine box_event ?hg (N := 3) ?hd (cs := #[.int .i64 a1_0, .slice A1_1 l1_1.length c1_1]) (t := 60) ?hr ?_; (case hd => rfl); (case hg => rfl); (case hr => exact zc_); intro gb473 hg w11 hbox hb; have n_ := z (blk_below (zb BK472.out) hb) <| z (below_step zhg_ hb) <| z (hbox) <| z ((by rw [hg]; exact (below_size zhg_) : w.heap.size ≤ gb473)) <| z ((by rw [hg]; exact (below_size zhg_) : w.heap.size ≤ gb473)) <| z ((by rw [hg]; exact Nat.ne_of_lt (blk_lt (zb BK472.out)) : gb472 ≠ gb473)) <| z1 ((by rw [hg]; exact Nat.ne_of_gt (blk_lt (zb BK472.out)) : gb473 ≠ gb472)); clear BK472 HB; obtain ⟨BK472, HB, BK473, GW473, GE473, NB472_473, NB473_472⟩ := n_; clear hb hbox hg; have hnb12 := NB472_473.out; have hnc12 := NB473_472.out; have hcz13_0 : w11.cell? ⟨gb472, 0, none⟩ = some (.int .i64 a0_0) := (blk_cell BK472.out 0).trans rfl; have hcz13_1 : w11.cell? ⟨gb472, 1, none⟩ = some (.slice A0_1 l0_1.length c0_1) := (blk_cell BK472.out 1).trans rfl; have hfz13_0 := blk_frozen BK472.out 0; have hfz13_1 := blk_frozen BK472.out 1; have hcz14_0 : w11.cell? ⟨gb473, 0, none⟩ = some (.int .i64 a1_0) := (blk_cell BK473.out 0).trans rfl; have hcz14_1 : w11.cell? ⟨gb473, 1, none⟩ = some (.slice A1_1 l1_1.length c1_1) := (blk_cell BK473.out 1).trans rfl; have hfz14_0 := blk_frozen BK473.out 0; have hfz14_1 := blk_frozen BK473.out 1))
  go_ret
  exact ⟨zf_, by repeat (first | (with_reducible first | exact HB.out | apply pA | apply pN | apply p1 | refine below_set ?_ GE472.out | refine below_set ?_ GE473.out) | exact HB.out)⟩
def laws_qSum.l0 : Nat → Int → List Int → Int → Int → Option (Int)
 | 0, _, _, _, _ => none
 | k + 1, x3, x6, x7, x8 => if x8 < x7 then (if 0 ≤ x8 then (if x8 < (x6.length : Int) then (laws_qSum.l0 k (wrap64 (x3 + (rd x6 x8))) x6 x7 (wrap64 (x8 + 1))) else (none)) else (none)) else (some x3)
def laws_qSum.f (k : Nat) (l0 : List Int) : Option (Int) := laws_qSum.l0 k 0 l0 (l0.length : Int) 0
theorem laws_qSum.calls (k : Nat) (A0 : Option Addr) (c0 : Nat) (l0 : List Int) (r : Int) (w : World) (hr0 : Kd.C (Kd.int .i64) w A0 l0.length l0) (hc0 : l0.length ≤ c0) (h : laws_qSum.f k l0 = some r) :
  Calls Try.prog 99 #[.slice A0 l0.length c0] w fun e w' => e = .returned (.int .i64 r) ∧ Drawn0 w w' := by
 have HR0 := aM hr0
 have HC0 := aM hc0
 clear hr0 hc0
 have H : (laws_qSum.l0 k 0 l0 (l0.length : Int) 0) = some r := h
 clear h
 have H' := aM H
 clear H
 go_enter Try.func99, Try.ntmps99
 go_wp2
 go_loopg [3, 8] k (fun kq v3 v8 w' => ∃ (x3_1 : Int) (x8_1 : Int), v3 = .int .i64 x3_1 ∧ v8 = .int .i64 x8_1 ∧ Aside0 (laws_qSum.l0 kq x3_1 l0 (l0.length : Int) x8_1 = some r) ∧ Aside0 (kq ≤ k) ∧ Drawn0 w w')
 case atStart => exact ⟨(0), (0), zb_, zb_, H', ⟨Nat.le_refl _⟩, zj_⟩
 case round =>
  clear H'; obtain ⟨x3_1, x8_1, rfl, rfl, HA, HK1, ⟨m1, rfl⟩⟩ := hrel
  cases gk with
  | zero => exact absurd HA.out (by simp [laws_qSum.l0])
  | succ k1 =>
   have H := HA.out; clear HA
   simp only [laws_qSum.l0] at H
   by_cases c2 : x8_1 < (l0.length : Int)
   ·rw [if_pos c2] at H
    have c2b0 := decide_eq_true c2; clear c2
    by_cases c3 : 0 ≤ x8_1
    ·rw [if_pos c3] at H
     have c3b0 := decide_eq_true c3; clear c3
     by_cases c4 : x8_1 < (l0.length : Int)
     ·rw [if_pos c4] at H
      have c4b0 := decide_eq_true c4; clear c4; have H' := aM H; clear H; have p475 : 0 ≤ (x8_1 : Int) := of_decide_eq_true zd_; have q475 : x8_1 < (l0.length : Int) := of_decide_eq_true zd_; obtain ⟨ad475, e475, hx475_0⟩ := Kd.at_int HR0.out x8_1 p475 q475
      cases e475
      replace p475 := eq_true p475; replace q475 := eq_true q475
      go_wp2
      go_roundg k1
      case measure => have := HK1.out; omega
      case rel => exact ⟨(wrap64 (x3_1 + (rd l0 x8_1))), (wrap64 (x8_1 + 1)), zb_, zb_, H', ⟨zba_⟩, zj_⟩
     ·rw [if_neg c4] at H
      exact absurd H (by simp)
    ·rw [if_neg c3] at H
     exact absurd H (by simp)
   ·rw [if_neg c2] at H
    have c2b0 := decide_eq_false c2; clear c2; obtain rfl := Option.some.inj H
    go_wp2
    go_ret
    exact ⟨zb_, zj_⟩
end Go.Proofs.Ytbkighlfgaifeaa.QFnLeastSums
