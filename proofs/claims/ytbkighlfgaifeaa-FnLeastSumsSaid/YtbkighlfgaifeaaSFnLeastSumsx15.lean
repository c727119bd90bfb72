/- Functions of FnLeastSums, each as a Lean function, with the proof that the Go code comes to its answers. -/
import Derived.Test.YtbkighlfgaifeaaSFnLeastSumsx0
import Derived.Test.YtbkighlfgaifeaaSFnLeastSumsx4
namespace Go.Proofs.Ytbkighlfgaifeaa.QFnLeastSums
open Go.RowKit Go.Proofs.YtbkighlfgaifeaaW.PrintWords Go.Proofs.YtbkighlfgaifeaaW.PrintLast Go.Proofs.YtbkighlfgaifeaaW.PrintMore
open Go.Proofs.YtbkighlfgaifeaaW.PrintWords renaming pw_below_drewN → pN, below_drew1 → p1, below_alloc → pA
open Go.Proofs.YtbkighlfgaifeaaW.PrintWords.Kd renaming R_alloc → kA, R_drewN → kN, R_drew → kD, Q_alloc → qA, Q_drewN → qN, Q_drew → qD, C_alloc → cA, C_drewN → cN, C_drew → cD
open Go.Proofs.YtbkighlfgaifeaaW.PrintWords.Aside0 renaming mk → aM
open List renaming setIfInBounds_toArray → sI, set_cons_zero → s0, set_cons_succ → sS, map_toArray → mT, length_take → lT, length_drop → lD, map_cons → mC, map_nil → mN
open Option renaming bind_eq_some_iff → oB, bind_some → oS
attribute [local go_sem] max2_int min2_int max_two min_two max_three min_three max_four min_four
set_option maxHeartbeats 8000000
set_option maxRecDepth 100000
set_option linter.unusedVariables false
set_option linter.unusedSimpArgs false
mutual
def impl_SumTable.j0 : Nat → Int → List (S72) → Bool → Option (Int × List Int × Bool)
 | 0, _, _, _ => none
 | k + 1, x0, x1, x22 => if x22 = true then (some (0, ([] : List Int), false)) else (impl_SumTable.l0 k x0 x1 x1 (x1.length : Int) 0)
def impl_SumTable.l0 : Nat → Int → List (S72) → List (S72) → Int → Int → Option (Int × List Int × Bool)
 | 0, _, _, _, _, _ => none
 | k + 1, x0, x1, x24, x25, x26 => if x26 < x25 then (if 0 ≤ x26 then (if x26 < (x24.length : Int) then ((impl_IsTerm.f x0 ((rd_T72 x24 x26).f0) ((rd_T72 x24 x26).f1)).bind fun t450 => (if t450 = true then (impl_SumTable.l0 k x0 x1 x24 x25 (wrap64 (x26 + 1))) else (some (0, ([] : List Int), false)))) else (none)) else (none)) else (if 0 ≤ x0 then (if 0 ≤ (shl .i64 1 x0) then (if (shl .i64 1 x0 : Int).toNat ≤ 35184372088832 then ((some (List.replicate (shl .i64 1 x0 : Int).toNat 0 : List Int)).bind fun y451 => (impl_SumTable.l1 k x1 (y451.length : Int) 0 x0 y451)) else (none)) else (none)) else (none))
def impl_SumTable.l1 : Nat → List (S72) → Int → Int → Int → List Int → Option (Int × List Int × Bool)
 | 0, _, _, _, _, _ => none
 | k + 1, x1, x43, x44, x455000, x455001 => if x44 < x43 then (impl_SumTable.l2 k x1 x44 x43 x44 x1 (x1.length : Int) 0 x455000 x455001) else (some (x455000, x455001, true))
def impl_SumTable.l2 : Nat → List (S72) → Int → Int → Int → List (S72) → Int → Int → Int → List Int → Option (Int × List Int × Bool)
 | 0, _, _, _, _, _, _, _, _, _ => none
 | k + 1, x1, x9, x43, x44, x47, x48, x49, x455000, x455001 => if x49 < x48 then (if 0 ≤ x49 then (if x49 < (x47.length : Int) then (if (Go.bits .and .i64 x9 ((rd_T72 x47 x49).f0)) = ((rd_T72 x47 x49).f1) then (if 0 ≤ x9 then (if x9 < (x455001.length : Int) then (impl_SumTable.l2 k x1 x9 x43 x44 x47 x48 (wrap64 (x49 + 1)) x455000 (x455001.set (x9 : Int).toNat 1)) else (none)) else (none)) else (impl_SumTable.l2 k x1 x9 x43 x44 x47 x48 (wrap64 (x49 + 1)) x455000 x455001)) else (none)) else (none)) else (impl_SumTable.l1 k x1 x43 (wrap64 (x44 + 1)) x455000 x455001)
end
def impl_SumTable.f (k : Nat) (a0 : Int) (l1 : List (S72)) : Option (Int × List Int × Bool) := if a0 < 0 then (impl_SumTable.j0 k a0 l1 true) else (if a0 > 4 then (impl_SumTable.j0 k a0 l1 true) else (impl_SumTable.j0 k a0 l1 (decide ((l1.length : Int) > 16))))
theorem impl_SumTable.calls (k : Nat) (a0 : Int) (A1 : Option Addr) (c1 : Nat) (l1 : List (S72)) (r1 : Int) (r2 : List Int) (r3 : Bool) (w : World) (hr1 : Kd.C k72 w A1 l1.length l1) (hc1 : l1.length ≤ c1) (h : impl_SumTable.f k a0 l1 = some (r1, r2, r3)) :
  Calls Try.prog 96 #[.int .i64 a0, .slice A1 l1.length c1] w fun e w' => ∃ v1_ : Value, e = .returned (.tuple #[.agg #[.int .i64 r1, v1_], .bool r3]) ∧ Kd.R (Kd.int .i64) 3 w' w.heap.size (fun _ => True) v1_ r2 ∧ Below w.heap.size w w' := by
 have hu60 := Try.underlying60
 have hu72 := Try.underlying72
 have HR1 := aM hr1
 have HC1 := aM hc1
 clear hr1 hc1
 have HB := aM (Below.refl w.heap.size w)
 have H : (if a0 < 0 then (impl_SumTable.j0 k a0 l1 true) else (if a0 > 4 then (impl_SumTable.j0 k a0 l1 true) else (impl_SumTable.j0 k a0 l1 (decide ((l1.length : Int) > 16))))) = some (r1, r2, r3) := h
 clear h
 have HC3 := aM H
 clear H
 go_enter Try.func96, Try.ntmps96
 go_upto_region 1 with (first | ((with_reducible refine gate_dst (N := 4) rfl ?_); (try (refine gate_guard (by rfl) ?_; dsimp only)); refine box_event ?hg (N := 4) ?hd (cs := #[.int .i64 0, .slice none 0 0]) (t := 60) ?hr ?_; (case hd => rfl); (case hg => rfl); (case hr => exact zc_); intro gb447 hg w4 hbox hb; have n_ := z (below_step za_ hb) <| z (hbox) <| z ((by rw [hg]; exact (below_size za_) : w.heap.size ≤ gb447)) <| z1 ((by rw [hg]; exact (below_size za_) : w.heap.size ≤ gb447)); clear HB; obtain ⟨HB, BK447, GW447, GE447⟩ := n_; clear hb hbox hg))
 (try simp only [Act.put, sI, s0, sS])
 go_cut [22] (fun v22 wc => ∃ (kq : Nat) (x22_2 : Bool), v22 = .bool x22_2 ∧ Aside0 (impl_SumTable.j0 kq a0 l1 x22_2 = some (r1, r2, r3)) ∧ Aside0 (kq ≤ k) ∧ Aside0 (wc.heap[gb447]? = some (.cells #[.int .i64 0, (.slice none 0 0)] 60 (0, 0))) ∧ Aside0 (Below w.heap.size w wc))
 case first =>
  have H := HC3.out; clear HC3
  by_cases c5 : a0 < 0
  ·rw [if_pos c5] at H
   have c5b0 := decide_eq_true c5; clear c5; (first | rw [c5b0] | (simp only [i64_w, i32_w]; rw [c5b0]) | skip); have H' := aM H; clear H
   go_wp2
   go_meet
   case rel => exact ⟨_, (true), zb_, H', ⟨zeh_⟩, ⟨zb BK447.out⟩, ⟨zda_⟩⟩
  ·rw [if_neg c5] at H
   have c5b0 := decide_eq_false c5; clear c5; (first | rw [c5b0] | (simp only [i64_w, i32_w]; rw [c5b0]) | skip)
   by_cases c6 : a0 > 4
   ·rw [if_pos c6] at H
    have c6b0 : decide (4 < a0) = true := decide_eq_true c6; clear c6; have H' := aM H; clear H
    go_wp2
    go_meet
    case rel => exact ⟨_, (true), zb_, H', ⟨zeh_⟩, ⟨zb BK447.out⟩, ⟨zda_⟩⟩
   ·rw [if_neg c6] at H
    have c6b0 : decide (4 < a0) = false := decide_eq_false c6; clear c6; have H' := aM H; clear H
    go_wp2
    go_meet
    case rel => exact ⟨_, (decide ((l1.length : Int) > 16)), zb_, H', ⟨zeh_⟩, ⟨zb BK447.out⟩, ⟨zda_⟩⟩
 case rest =>
  clear HC3; obtain ⟨kq, x22_2, rfl, HA, HJ2, BK447, HB⟩ := hcut
  cases kq with
  | zero => exact absurd HA.out (by simp [impl_SumTable.j0])
  | succ kj2 =>
   have H := HA.out; clear HA
   simp only [impl_SumTable.j0] at H
   by_cases c7 : x22_2 = true
   ·subst c7
    have H1 : (some (0, ([] : List Int), false)) = some (r1, r2, r3) := by rw [if_pos rfl] at H; exact H
    clear H; have H := H1; clear H1
    simp only [Option.some.injEq, Prod.mk.injEq] at H
    obtain ⟨rfl, rfl, rfl⟩ := H; have hcz8_0 : wc.cell? ⟨gb447, 0, none⟩ = some (.int .i64 0) := (blk_cell BK447.out 0).trans rfl; have hcz8_1 : wc.cell? ⟨gb447, 1, none⟩ = some (.slice none 0 0) := (blk_cell BK447.out 1).trans rfl; have hfz8_0 := blk_frozen BK447.out 0; have hfz8_1 := blk_frozen BK447.out 1
    go_wp2
    refine bodyPost_ret (results_ct rfl _ _ gb447 60 #[.int .i64 0, .slice none 0 0] (0, 0) _ rfl (by refine zb ?_; refine blk_put (cs := #[.int .i64 0, .slice none 0 0]) ?_ 1 _ rfl; refine zb ?_; refine blk_put (cs := #[.int .i64 0, .slice none 0 0]) ?_ 0 _ rfl; refine zb ?_; exact BK447.out) Try.underlying60 rfl (by kernel_rfl)) rfl ?_
    exact ⟨_, zf_, zbi_, zda_⟩
   ·replace c7 := Bool.eq_false_iff.mpr c7
    subst c7; have H1 : (impl_SumTable.l0 kj2 a0 l1 l1 (l1.length : Int) 0) = some (r1, r2, r3) := by rw [if_neg (show ¬ (false = true) by decide)] at H; exact H
    clear H; have H := H1; clear H1; have H' := aM H; clear H
    go_wp2
    go_loopg [26] kj2 (fun kq v26 w' => ∃ (x26_2 : Int) (x448000_2 : Int), v26 = .int .i64 x26_2 ∧ Aside0 (impl_SumTable.l0 kq a0 l1 l1 (l1.length : Int) x26_2 = some (r1, r2, r3)) ∧ Aside0 (kq ≤ kj2) ∧ Aside0 (w'.heap[gb447]? = some (.cells #[.int .i64 x448000_2, (.slice none 0 0)] 60 (0, 0))) ∧ Aside0 (Below w.heap.size w w'))
    case atStart => exact ⟨(0), (0), zb_, H', ⟨Nat.le_refl _⟩, ⟨zb BK447.out⟩, ⟨zda_⟩⟩
    case round =>
     clear H'; obtain ⟨x26_2, x448000_2, rfl, HA, HK2, BK447, HB⟩ := hrel
     cases gk with
     | zero => exact absurd HA.out (by simp [impl_SumTable.l0])
     | succ k2 =>
      have H := HA.out; clear HA
      simp only [impl_SumTable.l0] at H
      by_cases c9 : x26_2 < (l1.length : Int)
      ·rw [if_pos c9] at H
       have c9b0 := decide_eq_true c9; clear c9
       by_cases c10 : 0 ≤ x26_2
       ·rw [if_pos c10] at H
        have c10b0 := decide_eq_true c10; clear c10
        by_cases c11 : x26_2 < (l1.length : Int)
        ·rw [if_pos c11] at H
         have c11b0 := decide_eq_true c11; clear c11; replace H := oB.mp H; obtain ⟨t450, A120, H⟩ := H; replace H : (if t450 = true then (impl_SumTable.l0 k2 a0 l1 l1 (l1.length : Int) (wrap64 (x26_2 + 1))) else (some (0, ([] : List Int), false))) = some (r1, r2, r3) := H; have A12 := aM A120; clear A120
         by_cases c13 : t450 = true
         ·subst c13
          have H1 : (impl_SumTable.l0 k2 a0 l1 l1 (l1.length : Int) (wrap64 (x26_2 + 1))) = some (r1, r2, r3) := by rw [if_pos rfl] at H; exact H
          clear H; have H := H1; clear H1; have H' := aM H; clear H; have p448 : 0 ≤ (x26_2 : Int) := of_decide_eq_true zd_; have q448 : x26_2 < (l1.length : Int) := of_decide_eq_true zd_; obtain ⟨ad448, e448, hx448_0, hx448_1⟩ := at_T72 HR1.out x26_2 p448 q448
          cases e448
          (try (replace hx448_0 := (HB.out.cell (World.block_lt_of_cell? w _ hx448_0)).trans hx448_0)); (try (replace hx448_1 := (HB.out.cell (World.block_lt_of_cell? w _ hx448_1)).trans hx448_1)); replace p448 := eq_true p448; replace q448 := eq_true q448
          go_wp2_with (first | ((with_reducible refine gate_dst (N := 7) rfl ?_); (try (refine gate_guard (by rfl) ?_; dsimp only)); refine box_event ?hg (N := 7) ?hd (cs := #[.int .i64 0, .int .i64 0]) (t := 72) ?hr ?_; (case hd => rfl); (case hg => rfl); (case hr => exact zc_); intro gb449 hg w14 hbox hb; have n_ := z (blk_below (zb BK447.out) hb) <| z (below_step zda_ hb) <| z (hbox) <| z ((by rw [hg]; exact (below_size zda_) : w.heap.size ≤ gb449)) <| z ((by rw [hg]; exact (below_size zda_) : w.heap.size ≤ gb449)) <| z ((by rw [hg]; exact Nat.ne_of_lt (blk_lt (zb BK447.out)) : gb447 ≠ gb449)) <| z1 ((by rw [hg]; exact Nat.ne_of_gt (blk_lt (zb BK447.out)) : gb449 ≠ gb447)); clear BK447 HB; obtain ⟨BK447, HB, BK449, GW449, GE449, NB447_449, NB449_447⟩ := n_; clear hb hbox hg; have hnb15 := NB449_447.out; have hnc15 := NB447_449.out; have hcz16_0 : w14.cell? ⟨gb449, 0, none⟩ = some (.int .i64 0) := (blk_cell BK449.out 0).trans rfl; have hcz16_1 : w14.cell? ⟨gb449, 1, none⟩ = some (.int .i64 0) := (blk_cell BK449.out 1).trans rfl; have hfz16_0 := blk_frozen BK449.out 0; have hfz16_1 := blk_frozen BK449.out 1) | ((with_reducible refine gate_callee (f := 60) rfl ?_); refine goesL_ (some 32) rfl rfl Try.func60 (by kernel_rfl) rfl #[.int .i64 a0, .agg #[.int .i64 ((rd_T72 l1 x26_2).f0), .int .i64 ((rd_T72 l1 x26_2).f1)]] rfl ze_ ?_; (with_reducible refine (impl_IsTerm.calls a0 ((rd_T72 l1 x26_2).f0) ((rd_T72 l1 x26_2).f1) true _ A12.out).mono ?_); rintro e w17 ⟨rfl, hb⟩; refine ⟨_, rfl, ?_⟩; have n_ := z (blk_below (g := gb447) (o := .cells #[.int .i64 x448000_2, .slice none 0 0] 60 (0, 0)) (by refine zb ?_; refine blk_far ?_ NB447_449.out _; refine zb ?_; refine blk_far ?_ NB447_449.out _; refine zb ?_; exact BK447.out) hb) <| z (blk_below (g := gb449) (o := .cells #[.int .i64 ((rd_T72 l1 x26_2).f0), .int .i64 ((rd_T72 l1 x26_2).f1)] 72 (0, 0)) (by refine zb ?_; refine blk_put (cs := #[.int .i64 ((rd_T72 l1 x26_2).f0), .int .i64 0]) ?_ 1 _ rfl; refine zb ?_; refine blk_put (cs := #[.int .i64 0, .int .i64 0]) ?_ 0 _ rfl; refine zb ?_; exact BK449.out) hb) <| z1 (below_step zbac_ hb); clear BK447 BK449 HB; obtain ⟨BK447, BK449, HB⟩ := n_; clear hb))
          go_roundg k2
          case measure => have := HJ2.out; have := HK2.out; omega
          case rel => exact ⟨(wrap64 (x26_2 + 1)), (x448000_2), zb_, H', ⟨by have := HJ2.out; have := HK2.out; omega⟩, ⟨zb BK447.out⟩, ⟨zbac_⟩⟩
         ·replace c13 := Bool.eq_false_iff.mpr c13
          subst c13; have H1 : (some (0, ([] : List Int), false)) = some (r1, r2, r3) := by rw [if_neg (show ¬ (false = true) by decide)] at H; exact H
          clear H; have H := H1; clear H1
          simp only [Option.some.injEq, Prod.mk.injEq] at H
          obtain ⟨rfl, rfl, rfl⟩ := H; have p448 : 0 ≤ (x26_2 : Int) := of_decide_eq_true zd_; have q448 : x26_2 < (l1.length : Int) := of_decide_eq_true zd_; obtain ⟨ad448, e448, hx448_0, hx448_1⟩ := at_T72 HR1.out x26_2 p448 q448
          cases e448
          (try (replace hx448_0 := (HB.out.cell (World.block_lt_of_cell? w _ hx448_0)).trans hx448_0)); (try (replace hx448_1 := (HB.out.cell (World.block_lt_of_cell? w _ hx448_1)).trans hx448_1)); replace p448 := eq_true p448; replace q448 := eq_true q448
          go_wp2_with (first | ((with_reducible refine gate_dst (N := 7) rfl ?_); (try (refine gate_guard (by rfl) ?_; dsimp only)); refine box_event ?hg (N := 7) ?hd (cs := #[.int .i64 0, .int .i64 0]) (t := 72) ?hr ?_; (case hd => rfl); (case hg => rfl); (case hr => exact zc_); intro gb449 hg w18 hbox hb; have n_ := z (blk_below (zb BK447.out) hb) <| z (below_step zda_ hb) <| z (hbox) <| z ((by rw [hg]; exact (below_size zda_) : w.heap.size ≤ gb449)) <| z ((by rw [hg]; exact (below_size zda_) : w.heap.size ≤ gb449)) <| z ((by rw [hg]; exact Nat.ne_of_lt (blk_lt (zb BK447.out)) : gb447 ≠ gb449)) <| z1 ((by rw [hg]; exact Nat.ne_of_gt (blk_lt (zb BK447.out)) : gb449 ≠ gb447)); clear BK447 HB; obtain ⟨BK447, HB, BK449, GW449, GE449, NB447_449, NB449_447⟩ := n_; clear hb hbox hg; have hnb19 := NB449_447.out; have hnc19 := NB447_449.out; have hcz20_0 : w18.cell? ⟨gb449, 0, none⟩ = some (.int .i64 0) := (blk_cell BK449.out 0).trans rfl; have hcz20_1 : w18.cell? ⟨gb449, 1, none⟩ = some (.int .i64 0) := (blk_cell BK449.out 1).trans rfl; have hfz20_0 := blk_frozen BK449.out 0; have hfz20_1 := blk_frozen BK449.out 1) | ((with_reducible refine gate_callee (f := 60) rfl ?_); refine goesL_ (some 32) rfl rfl Try.func60 (by kernel_rfl) rfl #[.int .i64 a0, .agg #[.int .i64 ((rd_T72 l1 x26_2).f0), .int .i64 ((rd_T72 l1 x26_2).f1)]] rfl ze_ ?_; (with_reducible refine (impl_IsTerm.calls a0 ((rd_T72 l1 x26_2).f0) ((rd_T72 l1 x26_2).f1) false _ A12.out).mono ?_); rintro e w21 ⟨rfl, hb⟩; refine ⟨_, rfl, ?_⟩; have n_ := z (blk_below (g := gb447) (o := .cells #[.int .i64 x448000_2, .slice none 0 0] 60 (0, 0)) (by refine zb ?_; refine blk_far ?_ NB447_449.out _; refine zb ?_; refine blk_far ?_ NB447_449.out _; refine zb ?_; exact BK447.out) hb) <| z (blk_below (g := gb449) (o := .cells #[.int .i64 ((rd_T72 l1 x26_2).f0), .int .i64 ((rd_T72 l1 x26_2).f1)] 72 (0, 0)) (by refine zb ?_; refine blk_put (cs := #[.int .i64 ((rd_T72 l1 x26_2).f0), .int .i64 0]) ?_ 1 _ rfl; refine zb ?_; refine blk_put (cs := #[.int .i64 0, .int .i64 0]) ?_ 0 _ rfl; refine zb ?_; exact BK449.out) hb) <| z1 (below_step zbac_ hb); clear BK447 BK449 HB; obtain ⟨BK447, BK449, HB⟩ := n_; clear hb; have hcz22_0 : w21.cell? ⟨gb447, 0, none⟩ = some (.int .i64 x448000_2) := (blk_cell BK447.out 0).trans rfl; have hcz22_1 : w21.cell? ⟨gb447, 1, none⟩ = some (.slice none 0 0) := (blk_cell BK447.out 1).trans rfl; have hfz22_0 := blk_frozen BK447.out 0; have hfz22_1 := blk_frozen BK447.out 1))
          refine bodyPost_ret (results_ct rfl _ _ gb447 60 #[.int .i64 0, .slice none 0 0] (0, 0) _ rfl (by refine zb ?_; refine blk_put (cs := #[.int .i64 0, .slice none 0 0]) ?_ 1 _ rfl; refine zb ?_; refine blk_put (cs := #[.int .i64 x448000_2, .slice none 0 0]) ?_ 0 _ rfl; refine zb ?_; exact BK447.out) Try.underlying60 rfl (by kernel_rfl)) rfl ?_
          exact ⟨_, zf_, zbi_, zbac_⟩
        ·rw [if_neg c11] at H
         exact absurd H (by simp)
       ·rw [if_neg c10] at H
        exact absurd H (by simp)
      ·rw [if_neg c9] at H
       have c9b0 := decide_eq_false c9; clear c9
       by_cases c23 : 0 ≤ a0
       ·rw [if_pos c23] at H
        have c23b0 := eq_true c23; have c23b1 := decide_eq_true c23; clear c23; obtain ⟨ji24, hji24⟩ : ∃ j_ : Int, (shl .i64 1 a0) = j_ := ⟨_, rfl⟩; replace H : (if 0 ≤ (ji24) then (if (ji24 : Int).toNat ≤ 35184372088832 then ((some (List.replicate (ji24 : Int).toNat 0 : List Int)).bind fun y451 => (impl_SumTable.l1 k2 l1 (y451.length : Int) 0 a0 y451)) else (none)) else (none)) = some (r1, r2, r3) := by first | (rw [hji24] at H; exact H) | (simp only [hji24] at H ⊢; exact H)
        have hji24_ : (IntKind.i64.wrap (1 * 2 ^ min a0.toNat 64)) = ji24 := hji24; have hji24z : a0 ≤ 64 → (IntKind.i64.wrap (1 * 2 ^ a0.toNat)) = ji24 := shl_small hji24; have hji24u : (IntKind.i64.wrap (2 ^ min a0.toNat 64)) = ji24 := by have h_ := hji24_; rw [Int.one_mul] at h_; exact h_
        have hji24v : a0 ≤ 64 → (IntKind.i64.wrap (2 ^ a0.toNat)) = ji24 := fun hle_ => by have h_ := hji24z hle_; rw [Int.one_mul] at h_; exact h_
        have hji24y : (wrap64 (1 * 2 ^ min a0.toNat 64)) = ji24 := (i64_w _).symm.trans hji24_; have hji24x : a0 ≤ 64 → (wrap64 (1 * 2 ^ a0.toNat)) = ji24 := fun h_ => (i64_w _).symm.trans (hji24z h_)
        by_cases c25 : 0 ≤ (ji24)
        ·rw [if_pos c25] at H
         have c25b0 := eq_true c25; have c25b1 := decide_eq_true c25; clear c25
         by_cases c26 : (ji24 : Int).toNat ≤ 35184372088832
         ·rw [if_pos c26] at H
          have c26b0 := eq_true c26; have c26b1 := decide_eq_true c26; clear c26; obtain ⟨y451, hy451⟩ : ∃ y_ : List Int, y_ = (List.replicate (ji24 : Int).toNat 0) := ⟨_, rfl⟩; replace H : (impl_SumTable.l1 k2 l1 (y451.length : Int) 0 a0 y451) = some (r1, r2, r3) := by first | (rw [hy451]; with_reducible exact H) | (have H2_ := (oS _ _).symm.trans H; rw [hy451]; with_reducible exact H2_) | (have H2_ := (oS _ _).symm.trans H; with_reducible exact H2_) | with_reducible exact H | (rw [hy451]; exact H) | exact H
          have Ny451 := aM hy451; clear hy451; have H' := aM H; clear H
          go_wp2_with (first | ((with_reducible refine gate_dst (N := 39) rfl ?_); (try (refine gate_guard (by rfl) ?_; dsimp only)); refine Kd.R_make (Kd.int .i64) _ 3 rfl (N := 39) rfl 24 _ _ rfl ji24 rfl rfl Try.underlying24 (.int .i64 0) 8 info3 rfl (by decide) (by omega) 0 (ok := fun _ => True) (okp := fun _ => True) rfl (fun _ hk => hk) trivial (of_decide_eq_true zd_) (Nat.le_trans (Nat.mul_le_mul_right _ (of_decide_eq_true zd_ : ji24.toNat ≤ 35184372088832)) (by omega)) (Below.refl _ _) (Nat.le_refl _) ?_; intro v452 w27 ho28 hb hg_ hnew_; clear hg_ hnew_; (first | rw [← Ny451.out] at ho28 | (simp only [Int.reduceToNat] at ho28; rw [← Ny451.out] at ho28)); have n_ := z (Kd.R_lower ho28 (below_size zda_)) <| z (blk_below (zb BK447.out) hb) <| z1 (below_step zda_ hb); clear BK447 HB; obtain ⟨HO453, BK447, HB⟩ := n_; clear hb ho28; obtain ⟨Ao29, co29, eo29⟩ := Kd.R_slice HO453.out; subst eo29) | ((with_reducible refine gate_dst (N := 8) rfl ?_); (try (refine gate_guard (by rfl) ?_; dsimp only)); refine box_event ?hg (N := 8) ?hd (cs := #[.int .i64 0, .slice none 0 0]) (t := 60) ?hr ?_; (case hd => rfl); (case hg => rfl); (case hr => exact zc_); intro gb454 hg w30 hbox hb; have n_ := z (Kd.R_below (zr HO453.out) hb) <| z (blk_below (zb BK447.out) hb) <| z (below_step zda_ hb) <| z (hbox) <| z ((by rw [hg]; exact (below_size zda_) : w.heap.size ≤ gb454)) <| z ((by rw [hg]; exact (below_size zda_) : w.heap.size ≤ gb454)) <| z ((by rw [hg]; exact Nat.ne_of_lt (blk_lt (zb BK447.out)) : gb447 ≠ gb454)) <| z1 ((by rw [hg]; exact Nat.ne_of_gt (blk_lt (zb BK447.out)) : gb454 ≠ gb447)); clear HO453 BK447 HB; obtain ⟨HO453, BK447, HB, BK454, GW454, GE454, NB447_454, NB454_447⟩ := n_; clear hb hbox hg; have hnb31 := NB454_447.out; have hnc31 := NB447_454.out; have hcz32_0 : w30.cell? ⟨gb454, 0, none⟩ = some (.int .i64 0) := (blk_cell BK454.out 0).trans rfl; have hcz32_1 : w30.cell? ⟨gb454, 1, none⟩ = some (.slice none 0 0) := (blk_cell BK454.out 1).trans rfl; have hfz32_0 := blk_frozen BK454.out 0; have hfz32_1 := blk_frozen BK454.out 1))
          go_loopg [44] k2 (fun kq v44 w' => ∃ (x44_3 : Int) (x455001_3 : List Int) (u455001 : Value), v44 = .int .i64 x44_3 ∧ Aside0 (impl_SumTable.l1 kq l1 (y451.length : Int) x44_3 a0 x455001_3 = some (r1, r2, r3)) ∧ Aside0 (kq ≤ k2) ∧ Aside0 (Kd.R (Kd.int .i64) 3 w' w.heap.size (fun _ => True) u455001 x455001_3) ∧ Aside0 (w'.heap[gb447]? = some (.cells #[.int .i64 x448000_2, (.slice none 0 0)] 60 (0, 0))) ∧ Aside0 (w'.heap[gb454]? = some (.cells #[.int .i64 a0, u455001] 60 (0, 0))) ∧ Aside0 (Below w.heap.size w w'))
          case atStart => exact ⟨(0), (y451), (.slice Ao29 y451.length co29), zb_, H', ⟨Nat.le_refl _⟩, ⟨by refine zr ?_; exact Kd.R_mono (Kd.R_far (p := ⟨gb454, 1, none⟩) (Kd.R_far (p := ⟨gb454, 0, none⟩) (Kd.R_types HO453.out BK454.out (by decide)) (fun _ hk => hk.2) (.int .i64 a0)) (fun _ hk => hk.2) (.slice Ao29 y451.length co29)) (fun _ hk => trivial)⟩, ⟨by refine zb ?_; refine blk_far ?_ NB447_454.out _; refine zb ?_; refine blk_far ?_ NB447_454.out _; refine zb ?_; exact BK447.out⟩, ⟨by refine zb ?_; refine blk_put (cs := #[.int .i64 a0, .slice none 0 0]) ?_ 1 _ rfl; refine zb ?_; refine blk_put (cs := #[.int .i64 0, .slice none 0 0]) ?_ 0 _ rfl; refine zb ?_; exact BK454.out⟩, ⟨zec_⟩⟩
          case round =>
           clear H'; (try clear c9b0); (try clear c23b0); (try clear c23b1); (try clear c25b0); (try clear c25b1); (try clear c26b0); (try clear c26b1); (try clear hcz32_0); (try clear hcz32_1); (try clear hfz32_0); (try clear hfz32_1); obtain ⟨x44_3, x455001_3, u455001, rfl, HA, HK3, HO_455001, BK447, BK454, HB⟩ := hrel
           cases gk with
           | zero => exact absurd HA.out (by simp [impl_SumTable.l1])
           | succ k3 =>
            have H := HA.out; clear HA
            simp only [impl_SumTable.l1] at H
            by_cases c33 : x44_3 < (y451.length : Int)
            ·rw [if_pos c33] at H
             have c33b0 := decide_eq_true c33; clear c33; have H' := aM H; clear H
             go_wp2
             go_loopg [49] k3 (fun kq v49 w' => ∃ (x49_4 : Int) (x455001_4 : List Int) (u455001 : Value), v49 = .int .i64 x49_4 ∧ Aside0 (impl_SumTable.l2 kq l1 x44_3 (y451.length : Int) x44_3 l1 (l1.length : Int) x49_4 a0 x455001_4 = some (r1, r2, r3)) ∧ Aside0 (kq ≤ k3) ∧ Aside0 (Kd.R (Kd.int .i64) 3 w' w.heap.size (fun _ => True) u455001 x455001_4) ∧ Aside0 (w'.heap[gb447]? = some (.cells #[.int .i64 x448000_2, (.slice none 0 0)] 60 (0, 0))) ∧ Aside0 (w'.heap[gb454]? = some (.cells #[.int .i64 a0, u455001] 60 (0, 0))) ∧ Aside0 (Below w.heap.size w w'))
             case atStart => exact ⟨(0), (x455001_3), (u455001), zb_, H', ⟨Nat.le_refl _⟩, ⟨zr HO_455001.out⟩, ⟨zb BK447.out⟩, ⟨zb BK454.out⟩, ⟨zec_⟩⟩
             case round =>
              clear H'; (try clear c33b0); obtain ⟨x49_4, x455001_4, u455001, rfl, HA, HK4, HO_455001, BK447, BK454, HB⟩ := hrel
              cases gk with
              | zero => exact absurd HA.out (by simp [impl_SumTable.l2])
              | succ k4 =>
               have H := HA.out; clear HA
               simp only [impl_SumTable.l2] at H
               by_cases c34 : x49_4 < (l1.length : Int)
               ·rw [if_pos c34] at H
                have c34b0 := decide_eq_true c34; clear c34
                by_cases c35 : 0 ≤ x49_4
                ·rw [if_pos c35] at H
                 have c35b0 := decide_eq_true c35; clear c35
                 by_cases c36 : x49_4 < (l1.length : Int)
                 ·rw [if_pos c36] at H
                  have c36b0 := decide_eq_true c36; clear c36
                  by_cases c37 : (Go.bits .and .i64 x44_3 ((rd_T72 l1 x49_4).f0)) = ((rd_T72 l1 x49_4).f1)
                  ·rw [if_pos c37] at H
                   have c37b0 := beq_iff_eq.mpr c37; have c37b1 := bne_eq_false_iff_eq.mpr c37; clear c37
                   by_cases c38 : 0 ≤ x44_3
                   ·rw [if_pos c38] at H
                    have c38b0 := decide_eq_true c38; clear c38
                    by_cases c39 : x44_3 < (x455001_4.length : Int)
                    ·rw [if_pos c39] at H
                     have c39b0 := decide_eq_true c39; clear c39; obtain ⟨y457, hy457⟩ : ∃ y_ : List Int, y_ = (x455001_4.set (x44_3 : Int).toNat 1) := ⟨_, rfl⟩; replace H : (impl_SumTable.l2 k4 l1 x44_3 (y451.length : Int) x44_3 l1 (l1.length : Int) (wrap64 (x49_4 + 1)) a0 y457) = some (r1, r2, r3) := by first | (rw [hy457]; with_reducible exact H) | (have H2_ := (oS _ _).symm.trans H; rw [hy457]; with_reducible exact H2_) | (have H2_ := (oS _ _).symm.trans H; with_reducible exact H2_) | with_reducible exact H | (rw [hy457]; exact H) | exact H
                     have Ny457 := aM hy457; clear hy457; have H' := aM H; clear H; have p455 : 0 ≤ (x49_4 : Int) := of_decide_eq_true zd_; have q455 : x49_4 < (l1.length : Int) := of_decide_eq_true zd_; obtain ⟨ad455, e455, hx455_0, hx455_1⟩ := at_T72 HR1.out x49_4 p455 q455
                     cases e455
                     (try (replace hx455_0 := (HB.out.cell (World.block_lt_of_cell? w _ hx455_0)).trans hx455_0)); (try (replace hx455_1 := (HB.out.cell (World.block_lt_of_cell? w _ hx455_1)).trans hx455_1)); replace p455 := eq_true p455; replace q455 := eq_true q455
                     go_wp2_with (first | ((with_reducible refine gate_dst (N := 11) rfl ?_); (try (refine gate_guard (by rfl) ?_; dsimp only)); refine box_event ?hg (N := 11) ?hd (cs := #[.int .i64 0, .int .i64 0]) (t := 72) ?hr ?_; (case hd => rfl); (case hg => rfl); (case hr => exact zc_); intro gb456 hg w41 hbox hb; have n_ := z (Kd.R_below (zr HO_455001.out) hb) <| z (blk_below (zb BK447.out) hb) <| z (blk_below (zb BK454.out) hb) <| z (below_step zec_ hb) <| z (hbox) <| z ((by rw [hg]; exact (below_size zec_) : w.heap.size ≤ gb456)) <| z ((by rw [hg]; exact (below_size zec_) : w.heap.size ≤ gb456)) <| z ((by rw [hg]; exact Nat.ne_of_lt (blk_lt (zb BK447.out)) : gb447 ≠ gb456)) <| z ((by rw [hg]; exact Nat.ne_of_gt (blk_lt (zb BK447.out)) : gb456 ≠ gb447)) <| z ((by rw [hg]; exact Nat.ne_of_lt (blk_lt (zb BK454.out)) : gb454 ≠ gb456)) <| z1 ((by rw [hg]; exact Nat.ne_of_gt (blk_lt (zb BK454.out)) : gb456 ≠ gb454)); clear HO_455001 BK447 BK454 HB; obtain ⟨HO_455001, BK447, BK454, HB, BK456, GW456, GE456, NB447_456, NB456_447, NB454_456, NB456_454⟩ := n_; clear hb hbox hg; have hnb42 := NB456_447.out; have hnc42 := NB447_456.out; have hnb43 := NB456_454.out; have hnc43 := NB454_456.out; have hcz44_0 : w41.cell? ⟨gb456, 0, none⟩ = some (.int .i64 0) := (blk_cell BK456.out 0).trans rfl; have hcz44_1 : w41.cell? ⟨gb456, 1, none⟩ = some (.int .i64 0) := (blk_cell BK456.out 1).trans rfl; have hfz44_0 := blk_frozen BK456.out 0; have hfz44_1 := blk_frozen BK456.out 1) | ((with_reducible refine gate_store (t := 72) (p := 11) rfl ?_); refine store_event (t := 72) (p := 11) (v := ?vo_w45) (w1 := ((w41.setCell ⟨gb456, 0, none⟩ (.int .i64 ((rd_T72 l1 x49_4).f0))).setCell ⟨gb456, 1, none⟩ (.int .i64 ((rd_T72 l1 x49_4).f1)))) ?hg ?ho ?hn ?hr ?_; (case ho => rfl); (case hg => rfl); (case hn => rfl); (case hr => exact zc_); intro w45 hw; have n0_ : Aside0 (Kd.R (Kd.int .i64) 3 w45 w.heap.size (fun _ => True) u455001 x455001_4) := ⟨(by rw [hw]; exact (by refine zr ?_; exact Kd.R_mono (Kd.R_far (p := ⟨gb456, 1, none⟩) (Kd.R_far (p := ⟨gb456, 0, none⟩) (Kd.R_types HO_455001.out BK456.out (by decide)) (fun _ hk => hk.2) (.int .i64 ((rd_T72 l1 x49_4).f0))) (fun _ hk => hk.2) (.int .i64 ((rd_T72 l1 x49_4).f1))) (fun _ hk => trivial)))⟩; have n1_ : Aside0 (w45.heap[gb447]? = some (.cells #[.int .i64 x448000_2, .slice none 0 0] 60 (0, 0))) := ⟨(by rw [hw]; exact (by refine zb ?_; refine blk_far ?_ NB447_456.out _; refine zb ?_; refine blk_far ?_ NB447_456.out _; refine zb ?_; exact BK447.out))⟩; have n2_ : Aside0 (w45.heap[gb454]? = some (.cells #[.int .i64 a0, u455001] 60 (0, 0))) := ⟨(by rw [hw]; exact (by refine zb ?_; refine blk_far ?_ NB454_456.out _; refine zb ?_; refine blk_far ?_ NB454_456.out _; refine zb ?_; exact BK454.out))⟩; have n3_ : Aside0 (w45.heap[gb456]? = some (.cells #[.int .i64 ((rd_T72 l1 x49_4).f0), .int .i64 ((rd_T72 l1 x49_4).f1)] 72 (0, 0))) := ⟨(by rw [hw]; exact (by refine zb ?_; refine blk_put (cs := #[.int .i64 ((rd_T72 l1 x49_4).f0), .int .i64 0]) ?_ 1 _ rfl; refine zb ?_; refine blk_put (cs := #[.int .i64 0, .int .i64 0]) ?_ 0 _ rfl; refine zb ?_; exact BK456.out))⟩; have n4_ : Aside0 (Below w.heap.size w w45) := ⟨(by rw [hw]; exact zbcb_)⟩; clear hw HO_455001 BK447 BK454 BK456 HB; have HO_455001 := n0_; have BK447 := n1_; have BK454 := n2_; have BK456 := n3_; have HB := n4_; clear n0_ n1_ n2_ n3_ n4_; have hcz46_0 : w45.cell? ⟨gb456, 0, none⟩ = some (.int .i64 ((rd_T72 l1 x49_4).f0)) := (blk_cell BK456.out 0).trans rfl; have hcz46_1 : w45.cell? ⟨gb456, 1, none⟩ = some (.int .i64 ((rd_T72 l1 x49_4).f1)) := (blk_cell BK456.out 1).trans rfl; have hfz46_0 := blk_frozen BK456.out 0; have hfz46_1 := blk_frozen BK456.out 1; have hnb47 := NB454_447.out; have hnc47 := NB447_454.out; have hcz48_0 : w45.cell? ⟨gb454, 0, none⟩ = some (.int .i64 a0) := (blk_cell BK454.out 0).trans rfl; have hcz48_1 : w45.cell? ⟨gb454, 1, none⟩ = some (u455001) := (blk_cell BK454.out 1).trans rfl; have hfz48_0 := blk_frozen BK454.out 0; have hfz48_1 := blk_frozen BK454.out 1; have p40 : 0 ≤ (x44_3 : Int) := of_decide_eq_true zd_; have q40 : (x44_3 : Int) < ((x455001_4.length : Int) : Int) := of_decide_eq_true zd_; obtain ⟨go40, co40, eo40, gb40, gl40, cl40, HG40⟩ := Kd.R_form HO_455001.out (by omega); (first | cases eo40 | (injection eo40 with ea_ en_ ec_; (first | subst ea_ | (injection ea_ with ea_; subst ea_)); subst ec_; clear en_)); have GB40 := aM gb40; have GG40 := aM HG40; clear gb40 gl40 HG40; obtain ⟨hx40_0, hf40_0⟩ := Kd.R_celln 0 HO_455001.out (x44_3 : Int) p40 q40; replace p40 := eq_true p40; replace q40 := eq_true q40; obtain ⟨hy49_, hz49_⟩ := Kd.R_celln 0 HO_455001.out (x44_3 : Int) (of_decide_eq_true zd_) (of_decide_eq_true zd_); have HP49 := Kd.R_putg HO_455001.out (x44_3 : Int) 1) | ((with_reducible refine gate_store (t := 3) (p := 63) rfl ?_); refine store_event (t := 3) (p := 63) (v := ?vo_w50) (w1 := (w45.setCell ⟨go40, (x44_3 : Int).toNat, none⟩ (.int .i64 1))) ?hg ?ho ?hn ?hr ?_; (case ho => rfl); (case hg => rfl); (case hn => rfl); (case hr => exact zc_); intro w50 hw; have hg : w45.grownBy w50 (some go40) := (by rw [hw]; exact HP49.2); have hp_ : Kd.R (Kd.int .i64) 3 w50 w.heap.size (fun _ => True) (.slice (some ⟨go40, 0, none⟩) x455001_4.length co40) y457 := (by rw [hw, Ny457.out]; exact HP49.1); clear HP49; have n_ := z (hp_) <| z (blk_grown (g := gb447) (o := .cells #[.int .i64 x448000_2, .slice none 0 0] 60 (0, 0)) (zb BK447.out) hg (Kd.R_ne HO_455001.out BK447.out (by decide))) <| z (blk_grown (g := gb454) (o := .cells #[.int .i64 a0, .slice (some ⟨go40, 0, none⟩) x455001_4.length co40] 60 (0, 0)) (zb BK454.out) hg (Kd.R_ne HO_455001.out BK454.out (by decide))) <| z (blk_grown (g := gb456) (o := .cells #[.int .i64 ((rd_T72 l1 x49_4).f0), .int .i64 ((rd_T72 l1 x49_4).f1)] 72 (0, 0)) (zb BK456.out) hg (Kd.R_ne HO_455001.out BK456.out (by decide))) <| z1 ((by rw [hw]; exact below_set (HB.out) GB40.out : Below w.heap.size w w50)); clear HO_455001 BK447 BK454 BK456 HB; obtain ⟨HO_455001, BK447, BK454, BK456, HB⟩ := n_; clear hg hw hp_))
                     go_roundg k4
                     case measure => have := HJ2.out; have := HK2.out; have := HK3.out; have := HK4.out; omega
                     case rel => exact ⟨(wrap64 (x49_4 + 1)), (y457), (.slice (some ⟨go40, 0, none⟩) x455001_4.length co40), zb_, H', ⟨by have := HJ2.out; have := HK2.out; have := HK3.out; have := HK4.out; omega⟩, ⟨zr HO_455001.out⟩, ⟨zb BK447.out⟩, ⟨zb BK454.out⟩, ⟨zbcb_⟩⟩
                    ·rw [if_neg c39] at H
                     exact absurd H (by simp)
                   ·rw [if_neg c38] at H
                    exact absurd H (by simp)
                  ·rw [if_neg c37] at H
                   have c37b0 := beq_eq_false_iff_ne.mpr c37; have c37b1 := bne_iff_ne.mpr c37; have H' := aM H; clear H; have p455 : 0 ≤ (x49_4 : Int) := of_decide_eq_true zd_; have q455 : x49_4 < (l1.length : Int) := of_decide_eq_true zd_; obtain ⟨ad455, e455, hx455_0, hx455_1⟩ := at_T72 HR1.out x49_4 p455 q455
                   cases e455
                   (try (replace hx455_0 := (HB.out.cell (World.block_lt_of_cell? w _ hx455_0)).trans hx455_0)); (try (replace hx455_1 := (HB.out.cell (World.block_lt_of_cell? w _ hx455_1)).trans hx455_1)); replace p455 := eq_true p455; replace q455 := eq_true q455
                   go_wp2_with (first | ((with_reducible refine gate_dst (N := 11) rfl ?_); (try (refine gate_guard (by rfl) ?_; dsimp only)); refine box_event ?hg (N := 11) ?hd (cs := #[.int .i64 0, .int .i64 0]) (t := 72) ?hr ?_; (case hd => rfl); (case hg => rfl); (case hr => exact zc_); intro gb456 hg w51 hbox hb; have n_ := z (Kd.R_below (zr HO_455001.out) hb) <| z (blk_below (zb BK447.out) hb) <| z (blk_below (zb BK454.out) hb) <| z (below_step zec_ hb) <| z (hbox) <| z ((by rw [hg]; exact (below_size zec_) : w.heap.size ≤ gb456)) <| z ((by rw [hg]; exact (below_size zec_) : w.heap.size ≤ gb456)) <| z ((by rw [hg]; exact Nat.ne_of_lt (blk_lt (zb BK447.out)) : gb447 ≠ gb456)) <| z ((by rw [hg]; exact Nat.ne_of_gt (blk_lt (zb BK447.out)) : gb456 ≠ gb447)) <| z ((by rw [hg]; exact Nat.ne_of_lt (blk_lt (zb BK454.out)) : gb454 ≠ gb456)) <| z1 ((by rw [hg]; exact Nat.ne_of_gt (blk_lt (zb BK454.out)) : gb456 ≠ gb454)); clear HO_455001 BK447 BK454 HB; obtain ⟨HO_455001, BK447, BK454, HB, BK456, GW456, GE456, NB447_456, NB456_447, NB454_456, NB456_454⟩ := n_; clear hb hbox hg; have hnb52 := NB456_447.out; have hnc52 := NB447_456.out; have hnb53 := NB456_454.out; have hnc53 := NB454_456.out; have hcz54_0 : w51.cell? ⟨gb456, 0, none⟩ = some (.int .i64 0) := (blk_cell BK456.out 0).trans rfl; have hcz54_1 : w51.cell? ⟨gb456, 1, none⟩ = some (.int .i64 0) := (blk_cell BK456.out 1).trans rfl; have hfz54_0 := blk_frozen BK456.out 0; have hfz54_1 := blk_frozen BK456.out 1))
                   go_roundg k4
                   case measure => have := HJ2.out; have := HK2.out; have := HK3.out; have := HK4.out; omega
                   case rel => exact ⟨(wrap64 (x49_4 + 1)), (x455001_4), (u455001), zb_, H', ⟨by have := HJ2.out; have := HK2.out; have := HK3.out; have := HK4.out; omega⟩, ⟨by refine zr ?_; exact Kd.R_mono (Kd.R_far (p := ⟨gb456, 1, none⟩) (Kd.R_far (p := ⟨gb456, 0, none⟩) (Kd.R_types HO_455001.out BK456.out (by decide)) (fun _ hk => hk.2) (.int .i64 ((rd_T72 l1 x49_4).f0))) (fun _ hk => hk.2) (.int .i64 ((rd_T72 l1 x49_4).f1))) (fun _ hk => trivial)⟩, ⟨by refine zb ?_; refine blk_far ?_ NB447_456.out _; refine zb ?_; refine blk_far ?_ NB447_456.out _; refine zb ?_; exact BK447.out⟩, ⟨by refine zb ?_; refine blk_far ?_ NB454_456.out _; refine zb ?_; refine blk_far ?_ NB454_456.out _; refine zb ?_; exact BK454.out⟩, ⟨zbcb_⟩⟩
                 ·rw [if_neg c36] at H
                  exact absurd H (by simp)
                ·rw [if_neg c35] at H
                 exact absurd H (by simp)
               ·rw [if_neg c34] at H
                have c34b0 := decide_eq_false c34; clear c34; have H' := aM H; clear H
                go_wp2
                go_roundg k4
                case measure => have := HJ2.out; have := HK2.out; have := HK3.out; have := HK4.out; omega
                case rel => exact ⟨(wrap64 (x44_3 + 1)), (x455001_4), (u455001), zb_, H', ⟨by have := HJ2.out; have := HK2.out; have := HK3.out; have := HK4.out; omega⟩, ⟨zr HO_455001.out⟩, ⟨zb BK447.out⟩, ⟨zb BK454.out⟩, ⟨zec_⟩⟩
            ·rw [if_neg c33] at H
             have c33b0 := decide_eq_false c33; clear c33
             simp only [Option.some.injEq, Prod.mk.injEq] at H
             obtain ⟨rfl, rfl, rfl⟩ := H; have hnb55 := NB454_447.out; have hnc55 := NB447_454.out; have hcz56_0 : wr.cell? ⟨gb454, 0, none⟩ = some (.int .i64 a0) := (blk_cell BK454.out 0).trans rfl; have hcz56_1 : wr.cell? ⟨gb454, 1, none⟩ = some (u455001) := (blk_cell BK454.out 1).trans rfl; have hfz56_0 := blk_frozen BK454.out 0; have hfz56_1 := blk_frozen BK454.out 1; have hcz57_0 : wr.cell? ⟨gb447, 0, none⟩ = some (.int .i64 x448000_2) := (blk_cell BK447.out 0).trans rfl; have hcz57_1 : wr.cell? ⟨gb447, 1, none⟩ = some (.slice none 0 0) := (blk_cell BK447.out 1).trans rfl; have hfz57_0 := blk_frozen BK447.out 0; have hfz57_1 := blk_frozen BK447.out 1; obtain ⟨Ao58, co58, eo58⟩ := Kd.R_slice HO_455001.out; subst eo58
             go_wp2
             refine bodyPost_ret (results_ct rfl _ _ gb447 60 #[.int .i64 a0, .slice Ao58 x455001_3.length co58] (0, 0) _ rfl (by refine zb ?_; refine blk_put (cs := #[.int .i64 a0, .slice none 0 0]) ?_ 1 _ rfl; refine zb ?_; refine blk_put (cs := #[.int .i64 x448000_2, .slice none 0 0]) ?_ 0 _ rfl; refine zb ?_; exact BK447.out) Try.underlying60 rfl (by kernel_rfl)) rfl ?_
             exact ⟨_, by first | rfl | (simp [errW_none, errW_some] <;> rfl) | (simp only [← hji24]; first | rfl | (simp [errW_none, errW_some] <;> rfl)) | (simp [*, errW_none, errW_some] <;> rfl), by refine zr ?_; exact Kd.R_mono (Kd.R_far (p := ⟨gb447, 1, none⟩) (Kd.R_far (p := ⟨gb447, 0, none⟩) (Kd.R_types HO_455001.out BK447.out (by decide)) (fun _ hk => hk.2) (.int .i64 a0)) (fun _ hk => hk.2) (.slice Ao58 x455001_3.length co58)) (fun _ hk => trivial), zec_⟩
         ·rw [if_neg c26] at H
          exact absurd H (by simp)
        ·rw [if_neg c25] at H
         exact absurd H (by simp)
       ·rw [if_neg c23] at H
        exact absurd H (by simp)
end Go.Proofs.Ytbkighlfgaifeaa.QFnLeastSums
