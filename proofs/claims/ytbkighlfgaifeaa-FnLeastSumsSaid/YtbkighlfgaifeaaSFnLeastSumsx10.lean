/- Functions of FnLeastSums, each as a Lean function, with the proof that the Go code comes to its answers. -/
import Derived.Test.YtbkighlfgaifeaaSFnLeastSumsx0
import Derived.Test.YtbkighlfgaifeaaSFnLeastSumsx2
import Derived.Test.YtbkighlfgaifeaaSFnLeastSumsx3
import Derived.Test.YtbkighlfgaifeaaSFnLeastSumsx4
import Derived.Test.YtbkighlfgaifeaaSFnLeastSumsx9
namespace Go.Proofs.Ytbkighlfgaifeaa.QFnLeastSums
open Go.RowKit Go.Proofs.YtbkighlfgaifeaaW.PrintWords Go.Proofs.YtbkighlfgaifeaaW.PrintLast Go.Proofs.YtbkighlfgaifeaaW.PrintMore
open Go.Proofs.YtbkighlfgaifeaaW.PrintWords renaming pw_below_drewN → pN, below_drew1 → p1, below_alloc → pA
open Go.Proofs.YtbkighlfgaifeaaW.PrintWords.Kd renaming R_alloc → kA, R_drewN → kN, R_drew → kD, Q_alloc → qA, Q_drewN → qN, Q_drew → qD, C_alloc → cA, C_drewN → cN, C_drew → cD
open Go.Proofs.YtbkighlfgaifeaaW.PrintWords.Aside0 renaming mk → aM
open List renaming setIfInBounds_toArray → sI, set_cons_zero → s0, set_cons_succ → sS, map_toArray → mT, length_take → lT, length_drop → lD, map_cons → mC, map_nil → mN
open Option renaming bind_eq_some_iff → oB, bind_some → oS
attribute [local go_sem] max2_int min2_int max_two min_two max_three min_three max_four min_four
set_option maxHeartbeats 8000000
set_option maxRecDepth 100000
set_option linter.unusedVariables false
set_option linter.unusedSimpArgs false
def impl_LeastSum.f (k : Nat) (a0_0 : Int) (l0_1 : List Int) : Option ((List (S72)) × Bool) := (impl_IsTable.f k a0_0 l0_1).bind fun t277 => (if t277 = true then ((impl_leastSums.f k a0_0 l0_1).bind fun bt278 => (some (bt278.1, true))) else (some (([] : List (S72)), false)))
theorem impl_LeastSum.calls (k : Nat) (a0_0 : Int) (A0_1 : Option Addr) (c0_1 : Nat) (l0_1 : List Int) (r1 : List (S72)) (r2 : Bool) (w : World) (hr0_1 : Kd.C (Kd.int .i64) w A0_1 l0_1.length l0_1) (hc0_1 : l0_1.length ≤ c0_1) (h : impl_LeastSum.f k a0_0 l0_1 = some (r1, r2)) :
  Calls Try.prog 89 #[.agg #[.int .i64 a0_0, .slice A0_1 l0_1.length c0_1]] w fun e w' => ∃ v0_ : Value, e = .returned (.tuple #[v0_, .bool r2]) ∧ Kd.R k72 72 w' w.heap.size (fun _ => True) v0_ r1 ∧ Below w.heap.size w w' := by
 have hu60 := Try.underlying60
 have HR0_1 := aM hr0_1
 have HC0_1 := aM hc0_1
 clear hr0_1 hc0_1
 have HB := aM (Below.refl w.heap.size w)
 have H : ((impl_IsTable.f k a0_0 l0_1).bind fun t277 => (if t277 = true then ((impl_leastSums.f k a0_0 l0_1).bind fun bt278 => (some (bt278.1, true))) else (some (([] : List (S72)), false)))) = some (r1, r2) := h
 clear h
 replace H := oB.mp H
 obtain ⟨t277, A20, H⟩ := H
 replace H : (if t277 = true then ((impl_leastSums.f k a0_0 l0_1).bind fun bt278 => (some (bt278.1, true))) else (some (([] : List (S72)), false))) = some (r1, r2) := H
 have A2 := aM A20
 clear A20
 by_cases c3 : t277 = true
 ·subst c3
  have H1 : ((impl_leastSums.f k a0_0 l0_1).bind fun bt278 => (some (bt278.1, true))) = some (r1, r2) := by rw [if_pos rfl] at H; exact H
  clear H; have H := H1; clear H1; replace H := oB.mp H; obtain ⟨⟨t278, t281⟩, A40, H⟩ := H; replace H : (some (t278, true)) = some (r1, r2) := H; have A4 := aM A40; clear A40
  simp only [Option.some.injEq, Prod.mk.injEq] at H
  obtain ⟨rfl, rfl⟩ := H
  go_enter Try.func89, Try.ntmps89
  go_wp2_with (first | ((with_reducible refine gate_dst (N := 1) rfl ?_); refine box_event ?hg (N := 1) ?hd (cs := #[.int .i64 a0_0, .slice A0_1 l0_1.length c0_1]) (t := 60) ?hr ?_; (case hd => rfl); (case hg => rfl); (case hr => exact zc_); intro gb276 hg w5 hbox hb; have n_ := z (below_step za_ hb) <| z (hbox) <| z ((by rw [hg]; exact (below_size za_) : w.heap.size ≤ gb276)) <| z1 ((by rw [hg]; exact (below_size za_) : w.heap.size ≤ gb276)); clear HB; obtain ⟨HB, BK276, GW276, GE276⟩ := n_; clear hb hbox hg; have hcz6_0 : w5.cell? ⟨gb276, 0, none⟩ = some (.int .i64 a0_0) := (blk_cell BK276.out 0).trans rfl; have hcz6_1 : w5.cell? ⟨gb276, 1, none⟩ = some (.slice A0_1 l0_1.length c0_1) := (blk_cell BK276.out 1).trans rfl; have hfz6_0 := blk_frozen BK276.out 0; have hfz6_1 := blk_frozen BK276.out 1) | ((with_reducible refine gate_callee (f := 127) rfl ?_); refine goesL_ (some 7) rfl rfl Try.func127 (by kernel_rfl) rfl #[.agg #[.int .i64 a0_0, .slice A0_1 l0_1.length c0_1]] rfl ze_ ?_; (with_reducible refine (impl_IsTable.calls k a0_0 _ _ l0_1 true _ ?side1 ?side2 A2.out).mono ?_); (case side1 => exact zi_); (case side2 => exact HC0_1.out); rintro e w7 ⟨rfl, hb⟩; refine ⟨_, rfl, ?_⟩; have n_ := z (blk_below (zb BK276.out) hb) <| z1 (below_step zge_ hb); clear BK276 HB; obtain ⟨BK276, HB⟩ := n_; clear hb; have hcz8_0 : w7.cell? ⟨gb276, 0, none⟩ = some (.int .i64 a0_0) := (blk_cell BK276.out 0).trans rfl; have hcz8_1 : w7.cell? ⟨gb276, 1, none⟩ = some (.slice A0_1 l0_1.length c0_1) := (blk_cell BK276.out 1).trans rfl; have hfz8_0 := blk_frozen BK276.out 0; have hfz8_1 := blk_frozen BK276.out 1) | ((with_reducible refine gate_callee (f := 167) rfl ?_); refine goesL_ (some 11) rfl rfl Try.func167 (by kernel_rfl) rfl #[.agg #[.int .i64 a0_0, .slice A0_1 l0_1.length c0_1]] rfl ze_ ?_; (with_reducible refine (impl_leastSums.calls k a0_0 _ _ l0_1 t278 t281 _ ?side1 ?side2 A4.out).mono ?_); (case side1 => exact zi_); (case side2 => exact HC0_1.out); rintro e w9 ⟨v279, rfl, ho0, hb⟩; refine ⟨_, rfl, ?_⟩; have n_ := z (Kd.R_lower ho0 (below_size zge_)) <| z (blk_below (zb BK276.out) hb) <| z1 (below_step zge_ hb); clear BK276 HB; obtain ⟨HO280, BK276, HB⟩ := n_; clear hb; (try clear ho0)))
  go_ret2
  exact ⟨_, zf_, by refine zr ?_; exact HO280.out, zge_⟩
 ·replace c3 := Bool.eq_false_iff.mpr c3
  subst c3; have H1 : (some (([] : List (S72)), false)) = some (r1, r2) := by rw [if_neg (show ¬ (false = true) by decide)] at H; exact H
  clear H; have H := H1; clear H1
  simp only [Option.some.injEq, Prod.mk.injEq] at H
  obtain ⟨rfl, rfl⟩ := H
  go_enter Try.func89, Try.ntmps89
  go_wp2_with (first | ((with_reducible refine gate_dst (N := 1) rfl ?_); refine box_event ?hg (N := 1) ?hd (cs := #[.int .i64 a0_0, .slice A0_1 l0_1.length c0_1]) (t := 60) ?hr ?_; (case hd => rfl); (case hg => rfl); (case hr => exact zc_); intro gb276 hg w10 hbox hb; have n_ := z (below_step za_ hb) <| z (hbox) <| z ((by rw [hg]; exact (below_size za_) : w.heap.size ≤ gb276)) <| z1 ((by rw [hg]; exact (below_size za_) : w.heap.size ≤ gb276)); clear HB; obtain ⟨HB, BK276, GW276, GE276⟩ := n_; clear hb hbox hg; have hcz11_0 : w10.cell? ⟨gb276, 0, none⟩ = some (.int .i64 a0_0) := (blk_cell BK276.out 0).trans rfl; have hcz11_1 : w10.cell? ⟨gb276, 1, none⟩ = some (.slice A0_1 l0_1.length c0_1) := (blk_cell BK276.out 1).trans rfl; have hfz11_0 := blk_frozen BK276.out 0; have hfz11_1 := blk_frozen BK276.out 1) | ((with_reducible refine gate_callee (f := 127) rfl ?_); refine goesL_ (some 7) rfl rfl Try.func127 (by kernel_rfl) rfl #[.agg #[.int .i64 a0_0, .slice A0_1 l0_1.length c0_1]] rfl ze_ ?_; (with_reducible refine (impl_IsTable.calls k a0_0 _ _ l0_1 false _ ?side1 ?side2 A2.out).mono ?_); (case side1 => exact zi_); (case side2 => exact HC0_1.out); rintro e w12 ⟨rfl, hb⟩; refine ⟨_, rfl, ?_⟩; have n_ := z (blk_below (zb BK276.out) hb) <| z1 (below_step zge_ hb); clear BK276 HB; obtain ⟨BK276, HB⟩ := n_; clear hb))
  go_ret2
  exact ⟨_, zf_, zbi_, zge_⟩
mutual
def spec_nfSearch.l0 : Nat → List Int → Int → Int → List Int → Int → Int → Option (List Int × Int)
 | 0, _, _, _, _, _, _ => none
 | k + 1, x0, x2, x3, x10, x11, x12 => if x12 < (x0.length : Int) then (if 0 ≤ x12 then ((spec_nfSearch.f k x0 (wrap64 (x12 + 1)) (Go.bits .andNot .i64 x2 (rd x0 x12)) (wrap64 (x3 - 1))).bind fun bt283 => (if bt283.2 > 0 then (if x11 = 0 then ((some (([x12] : List Int) : List Int)).bind fun y287 => (if y287.length + bt283.1.length < 17592186044416 then (spec_nfSearch.l0 k x0 x2 x3 (y287 ++ bt283.1) (wrap64 (x11 + bt283.2)) (wrap64 (x12 + 1))) else (none))) else (spec_nfSearch.l0 k x0 x2 x3 x10 (wrap64 (x11 + bt283.2)) (wrap64 (x12 + 1)))) else (spec_nfSearch.l0 k x0 x2 x3 x10 (wrap64 (x11 + bt283.2)) (wrap64 (x12 + 1))))) else (none)) else (some (x10, x11))
def spec_nfSearch.f : Nat → List Int → Int → Int → Int → Option (List Int × Int)
 | 0, _, _, _, _ => none
 | k + 1, l0, a1, a2, a3 => if a3 = 0 then (if a2 = 0 then (some (([] : List Int), 1)) else (some (([] : List Int), 0))) else (spec_nfSearch.l0 k l0 a2 a3 ([] : List Int) 0 a1)
end
theorem spec_nfSearch.calls (k : Nat) : ∀ (A0 : Option Addr) (c0 : Nat) (l0 : List Int) (a1 : Int) (a2 : Int) (a3 : Int) (r1 : List Int) (r2 : Int) (w : World) (hr0 : Kd.C (Kd.int .i64) w A0 l0.length l0) (hc0 : l0.length ≤ c0) (h : spec_nfSearch.f k l0 a1 a2 a3 = some (r1, r2)),
  Calls Try.prog 188 #[.slice A0 l0.length c0, .int .i64 a1, .int .i64 a2, .int .i64 a3] w fun e w' => ∃ v0_ : Value, e = .returned (.tuple #[v0_, .int .i64 r2]) ∧ Kd.R (Kd.int .i64) 3 w' w.heap.size (fun _ => True) v0_ r1 ∧ Below w.heap.size w w' := by
 induction k using Nat.strongRecOn with
 | _ k ih =>
 intro A0 c0 l0 a1 a2 a3 r1 r2 w hr0 hc0 h
 cases k with
 | zero => exact absurd h (by simp [spec_nfSearch.f])
 | succ k =>
 simp only [spec_nfSearch.f] at h
 have HR0 := aM hr0
 have HC0 := aM hc0
 clear hr0 hc0
 have HB := aM (Below.refl w.heap.size w)
 have H : (if a3 = 0 then (if a2 = 0 then (some (([] : List Int), 1)) else (some (([] : List Int), 0))) else (spec_nfSearch.l0 k l0 a2 a3 ([] : List Int) 0 a1)) = some (r1, r2) := h
 clear h
 by_cases c5 : a3 = 0
 ·rw [if_pos c5] at H
  have c5b0 := beq_iff_eq.mpr c5; have c5b1 := bne_eq_false_iff_eq.mpr c5; clear c5
  by_cases c6 : a2 = 0
  ·rw [if_pos c6] at H
   have c6b0 := beq_iff_eq.mpr c6; have c6b1 := bne_eq_false_iff_eq.mpr c6; clear c6
   simp only [Option.some.injEq, Prod.mk.injEq] at H
   obtain ⟨rfl, rfl⟩ := H
   go_enter Try.func188, Try.ntmps188
   go_wp2
   go_ret2
   exact ⟨_, zf_, zbi_, za_⟩
  ·rw [if_neg c6] at H
   have c6b0 := beq_eq_false_iff_ne.mpr c6; have c6b1 := bne_iff_ne.mpr c6
   simp only [Option.some.injEq, Prod.mk.injEq] at H
   obtain ⟨rfl, rfl⟩ := H
   go_enter Try.func188, Try.ntmps188
   go_wp2
   go_ret2
   exact ⟨_, zf_, zbi_, za_⟩
 ·rw [if_neg c5] at H
  have c5b0 := beq_eq_false_iff_ne.mpr c5; have c5b1 := bne_iff_ne.mpr c5; have H' := aM H; clear H
  go_enter Try.func188, Try.ntmps188
  go_wp2
  go_loopg [10, 11, 12] k (fun kq v10 v11 v12 w' => ∃ (x10_1 : List Int) (x11_1 : Int) (x12_1 : Int), v11 = .int .i64 x11_1 ∧ v12 = .int .i64 x12_1 ∧ Aside0 (spec_nfSearch.l0 kq l0 a2 a3 x10_1 x11_1 x12_1 = some (r1, r2)) ∧ Aside0 (kq ≤ k) ∧ Aside0 (Kd.R (Kd.int .i64) 3 w' w.heap.size (fun _ => True) v10 x10_1) ∧ Aside0 (Below w.heap.size w w'))
  case atStart => exact ⟨(([] : List Int)), (0), (a1), zb_, zb_, H', ⟨Nat.le_refl _⟩, ⟨zbi_⟩, ⟨za_⟩⟩
  case round =>
   clear H'; (try clear c5); (try clear c5b0); (try clear c5b1); obtain ⟨x10_1, x11_1, x12_1, rfl, rfl, HA, HK1, HO_10, HB⟩ := hrel
   cases gk with
   | zero => exact absurd HA.out (by simp [spec_nfSearch.l0])
   | succ k1 =>
    have H := HA.out; clear HA
    simp only [spec_nfSearch.l0] at H
    by_cases c7 : x12_1 < (l0.length : Int)
    ·rw [if_pos c7] at H
     have c7b0 := decide_eq_true c7; clear c7
     by_cases c8 : 0 ≤ x12_1
     ·rw [if_pos c8] at H
      have c8b0 := decide_eq_true c8; clear c8; replace H := oB.mp H; obtain ⟨⟨t283, t284⟩, A90, H⟩ := H; replace H : (if t284 > 0 then (if x11_1 = 0 then ((some (([x12_1] : List Int) : List Int)).bind fun y287 => (if y287.length + t283.length < 17592186044416 then (spec_nfSearch.l0 k1 l0 a2 a3 (y287 ++ t283) (wrap64 (x11_1 + t284)) (wrap64 (x12_1 + 1))) else (none))) else (spec_nfSearch.l0 k1 l0 a2 a3 x10_1 (wrap64 (x11_1 + t284)) (wrap64 (x12_1 + 1)))) else (spec_nfSearch.l0 k1 l0 a2 a3 x10_1 (wrap64 (x11_1 + t284)) (wrap64 (x12_1 + 1)))) = some (r1, r2) := H; have A9 := aM A90; clear A90
      by_cases c10 : t284 > 0
      ·rw [if_pos c10] at H
       have c10b0 : decide (0 < t284) = true := decide_eq_true c10; clear c10
       by_cases c11 : x11_1 = 0
       ·rw [if_pos c11] at H
        have c11b0 := beq_iff_eq.mpr c11; have c11b1 := bne_eq_false_iff_eq.mpr c11; clear c11; obtain ⟨y287, hy287⟩ : ∃ y_ : List Int, y_ = (([x12_1] : List Int)) := ⟨_, rfl⟩; replace H : (if y287.length + t283.length < 17592186044416 then (spec_nfSearch.l0 k1 l0 a2 a3 (y287 ++ t283) (wrap64 (x11_1 + t284)) (wrap64 (x12_1 + 1))) else (none)) = some (r1, r2) := by first | (rw [hy287]; with_reducible exact H) | (have H2_ := (oS _ _).symm.trans H; rw [hy287]; with_reducible exact H2_) | (have H2_ := (oS _ _).symm.trans H; with_reducible exact H2_) | with_reducible exact H | (rw [hy287]; exact H) | exact H
        have Ny287 := aM hy287; clear hy287
        by_cases c12 : y287.length + t283.length < 17592186044416
        ·rw [if_pos c12] at H
         have LMc12 := aM c12; clear c12; obtain ⟨y290, hy290⟩ : ∃ y_ : List Int, y_ = (y287 ++ t283) := ⟨_, rfl⟩; replace H : (spec_nfSearch.l0 k1 l0 a2 a3 y290 (wrap64 (x11_1 + t284)) (wrap64 (x12_1 + 1))) = some (r1, r2) := by first | (rw [hy290]; with_reducible exact H) | (have H2_ := (oS _ _).symm.trans H; rw [hy290]; with_reducible exact H2_) | (have H2_ := (oS _ _).symm.trans H; with_reducible exact H2_) | with_reducible exact H | (rw [hy290]; exact H) | exact H
         have Ny290 := aM hy290; clear hy290; have H' := aM H; clear H; have p282 : 0 ≤ (x12_1 : Int) := of_decide_eq_true zd_; have q282 : x12_1 < (l0.length : Int) := of_decide_eq_true zd_; obtain ⟨ad282, e282, hx282_0⟩ := Kd.at_int HR0.out x12_1 p282 q282
         cases e282
         (try (replace hx282_0 := (HB.out.cell (World.block_lt_of_cell? w _ hx282_0)).trans hx282_0)); replace p282 := eq_true p282; replace q282 := eq_true q282
         go_wp2_with (first | ((with_reducible refine gate_callee (f := 188) rfl ?_); refine goesL_ (some 38) rfl rfl Try.func188 (by kernel_rfl) rfl #[.slice (some ad282) l0.length c0, .int .i64 (wrap64 (x12_1 + 1)), .int .i64 (Go.bits .andNot .i64 a2 (rd l0 x12_1)), .int .i64 (wrap64 (a3 - 1))] rfl ze_ ?_; (with_reducible refine (ih k1 zba_ _ _ l0 (wrap64 (x12_1 + 1)) (Go.bits .andNot .i64 a2 (rd l0 x12_1)) (wrap64 (a3 - 1)) t283 t284 _ ?side1 ?side2 A9.out).mono ?_); (case side1 => exact zeg_); (case side2 => exact HC0.out); rintro e w13 ⟨v285, rfl, ho0, hb⟩; refine ⟨_, rfl, ?_⟩; have n_ := z (Kd.R_elder' (zr HO_10.out) (Kd.R_base ho0) hb) <| z (Kd.R_lower (Kd.R_new' ho0 (Kd.R_lt (zr HO_10.out))) (below_size za_)) <| z1 (below_step za_ hb); clear HO_10 HB; obtain ⟨HO_10, HO286, HB⟩ := n_; clear hb; (try clear ho0)) | ((with_reducible refine gate_dst (N := 48) rfl ?_); refine Kd.R_lit (Kd.int .i64) _ 3 ?hg (N := 48) ?hd (xs := ([x12_1] : List Int)) (inner := [.int .i64 x12_1]) (ok := fun _ => True) (okp := fun _ => True) ?hr ?hp (fun _ hk => hk) trivial (Below.refl _ _) (Nat.le_refl _) (by simp) ?_; (case hd => rfl); (case hg => rfl); (case hr => exact zc_); (case hp => exact (Reps.one (show Kd.M (Kd.int .i64) _ _ _ x12_1 [.int .i64 x12_1] from rfl) (Reps.none _ _))); intro v288 w14 ho15 hb hg_ hnew_; clear hg_ hnew_; (first | rw [← Ny287.out] at ho15 | (simp only [Int.reduceToNat] at ho15; rw [← Ny287.out] at ho15)); have n_ := z (Kd.R_elder' (zr HO_10.out) (Kd.R_base ho15) hb) <| z (Kd.R_elder' (zr HO286.out) (Kd.R_base ho15) hb) <| z (Kd.R_lower (Kd.R_new' (Kd.R_new' ho15 (Kd.R_lt (zr HO_10.out))) (Kd.R_lt (zr HO286.out))) (below_size za_)) <| z1 (below_step za_ hb); clear HO_10 HO286 HB; obtain ⟨HO_10, HO286, HO289, HB⟩ := n_; clear hb ho15; obtain ⟨Ao17, co17, eo17⟩ := Kd.R_slice HO286.out; subst eo17) | ((with_reducible refine gate_builtin (b := .append) (xs := #[.tmp 48, .tmp 49]) rfl ?_); at_builtin; refine Kd.R_append_rows (Kd.int .i64) (w0 := w) w.heap.size rfl (.tmp 48) (.tmp 49) 24 3 (.int .i64 0) 8 rfl Try.underlying24 info3 rfl (by decide) (by omega) v288 y287 t283 _ _ _ (fun k_ => some k_ ≠ (u10 : Value).ownBlock ∧ some k_ ≠ (.slice Ao17 t283.length co17 : Value).ownBlock) (fun _ => False) rfl rfl ?aO ?aR (fun _ _ h => h) (fun _ h => h.elim) ?aF ?aB ?aS ?aL ?_; (case aR => repeat (first | exact (Kd.R_reads' HO286.out).2.2 | (with_reducible refine cA ?_ _) | (with_reducible refine cN ?_ _) | (with_reducible refine cD ?_))); (case aB => exact zbbd_); (case aF => exact (fun k_ hk => ⟨Kd.fresh' (Kd.R_lt (zr HO_10.out)) k_ hk, Kd.fresh' (Kd.R_lt (zr HO286.out)) k_ hk⟩)); (case aO => exact (by refine zr ?_; exact Kd.R_mono HO289.out (fun _ hk => ⟨hk.1.2, hk.2⟩))); (case aS => exact zbbe_); (case aL => have := LMc12.out; omega); intro v291 w16 ho hb hg hat; rw [← Ny290.out] at ho; have n_ := z (Kd.R_after (ok := (fun k_ => some k_ ≠ (.slice Ao17 t283.length co17 : Value).ownBlock)) (by refine zr ?_; exact Kd.R_mono HO_10.out (fun _ hk => ⟨hk.1.2, hk.2⟩)) hg hat) <| z (Kd.R_after (ok := (fun k_ => some k_ ≠ (u10 : Value).ownBlock)) (by refine zr ?_; exact Kd.R_mono HO286.out (fun _ hk => ⟨hk.1.2, hk.2⟩)) hg hat) <| z (hb) <| z1 (ho); clear HO_10 HO286 HB HO289; obtain ⟨HO_10, HO286, HB, HO292⟩ := n_; clear ho hb hg hat))
         go_roundg k1
         case measure => have := HK1.out; omega
         case rel => exact ⟨(y290), (wrap64 (x11_1 + t284)), (wrap64 (x12_1 + 1)), zb_, zb_, H', ⟨zba_⟩, ⟨by refine zr ?_; exact Kd.R_mono HO292.out (fun _ hk => trivial)⟩, ⟨za_⟩⟩
        ·rw [if_neg c12] at H
         exact absurd H (by simp)
       ·rw [if_neg c11] at H
        have c11b0 := beq_eq_false_iff_ne.mpr c11; have c11b1 := bne_iff_ne.mpr c11; have H' := aM H; clear H; have p282 : 0 ≤ (x12_1 : Int) := of_decide_eq_true zd_; have q282 : x12_1 < (l0.length : Int) := of_decide_eq_true zd_; obtain ⟨ad282, e282, hx282_0⟩ := Kd.at_int HR0.out x12_1 p282 q282
        cases e282
        (try (replace hx282_0 := (HB.out.cell (World.block_lt_of_cell? w _ hx282_0)).trans hx282_0)); replace p282 := eq_true p282; replace q282 := eq_true q282
        go_wp2_with (first | ((with_reducible refine gate_callee (f := 188) rfl ?_); refine goesL_ (some 38) rfl rfl Try.func188 (by kernel_rfl) rfl #[.slice (some ad282) l0.length c0, .int .i64 (wrap64 (x12_1 + 1)), .int .i64 (Go.bits .andNot .i64 a2 (rd l0 x12_1)), .int .i64 (wrap64 (a3 - 1))] rfl ze_ ?_; (with_reducible refine (ih k1 zba_ _ _ l0 (wrap64 (x12_1 + 1)) (Go.bits .andNot .i64 a2 (rd l0 x12_1)) (wrap64 (a3 - 1)) t283 t284 _ ?side1 ?side2 A9.out).mono ?_); (case side1 => exact zeg_); (case side2 => exact HC0.out); rintro e w18 ⟨v285, rfl, ho0, hb⟩; refine ⟨_, rfl, ?_⟩; have n_ := z (Kd.R_elder' (zr HO_10.out) (Kd.R_base ho0) hb) <| z (Kd.R_lower (Kd.R_new' ho0 (Kd.R_lt (zr HO_10.out))) (below_size za_)) <| z1 (below_step za_ hb); clear HO_10 HB; obtain ⟨HO_10, HO286, HB⟩ := n_; clear hb; (try clear ho0)))
        go_roundg k1
        case measure => have := HK1.out; omega
        case rel => exact ⟨(x10_1), (wrap64 (x11_1 + t284)), (wrap64 (x12_1 + 1)), zb_, zb_, H', ⟨zba_⟩, ⟨by refine zr ?_; exact Kd.R_mono HO_10.out (fun _ hk => trivial)⟩, ⟨za_⟩⟩
      ·rw [if_neg c10] at H
       have c10b0 : decide (0 < t284) = false := decide_eq_false c10; clear c10; have H' := aM H; clear H; have p282 : 0 ≤ (x12_1 : Int) := of_decide_eq_true zd_; have q282 : x12_1 < (l0.length : Int) := of_decide_eq_true zd_; obtain ⟨ad282, e282, hx282_0⟩ := Kd.at_int HR0.out x12_1 p282 q282
       cases e282
       (try (replace hx282_0 := (HB.out.cell (World.block_lt_of_cell? w _ hx282_0)).trans hx282_0)); replace p282 := eq_true p282; replace q282 := eq_true q282
       go_wp2_with (first | ((with_reducible refine gate_callee (f := 188) rfl ?_); refine goesL_ (some 38) rfl rfl Try.func188 (by kernel_rfl) rfl #[.slice (some ad282) l0.length c0, .int .i64 (wrap64 (x12_1 + 1)), .int .i64 (Go.bits .andNot .i64 a2 (rd l0 x12_1)), .int .i64 (wrap64 (a3 - 1))] rfl ze_ ?_; (with_reducible refine (ih k1 zba_ _ _ l0 (wrap64 (x12_1 + 1)) (Go.bits .andNot .i64 a2 (rd l0 x12_1)) (wrap64 (a3 - 1)) t283 t284 _ ?side1 ?side2 A9.out).mono ?_); (case side1 => exact zeg_); (case side2 => exact HC0.out); rintro e w19 ⟨v285, rfl, ho0, hb⟩; refine ⟨_, rfl, ?_⟩; have n_ := z (Kd.R_elder' (zr HO_10.out) (Kd.R_base ho0) hb) <| z (Kd.R_lower (Kd.R_new' ho0 (Kd.R_lt (zr HO_10.out))) (below_size za_)) <| z1 (below_step za_ hb); clear HO_10 HB; obtain ⟨HO_10, HO286, HB⟩ := n_; clear hb; (try clear ho0)))
       go_roundg k1
       case measure => have := HK1.out; omega
       case rel => exact ⟨(x10_1), (wrap64 (x11_1 + t284)), (wrap64 (x12_1 + 1)), zb_, zb_, H', ⟨zba_⟩, ⟨by refine zr ?_; exact Kd.R_mono HO_10.out (fun _ hk => trivial)⟩, ⟨za_⟩⟩
     ·rw [if_neg c8] at H
      exact absurd H (by simp)
    ·rw [if_neg c7] at H
     have c7b0 := decide_eq_false c7; clear c7
     simp only [Option.some.injEq, Prod.mk.injEq] at H
     obtain ⟨rfl, rfl⟩ := H
     go_wp2
     go_ret2
     exact ⟨_, zf_, by refine zr ?_; exact HO_10.out, za_⟩
def spec_ttOnes.l0 : Nat → List Int → List Int → Int → Int → Option (List Int)
 | 0, _, _, _, _ => none
 | k + 1, x3, x7, x8, x9 => if x9 < x8 then (if 0 ≤ x9 then (if x9 < (x7.length : Int) then (if (rd x7 x9) = 1 then (if x3.length < 17592186044416 then (spec_ttOnes.l0 k (x3 ++ [x9]) x7 x8 (wrap64 (x9 + 1))) else (none)) else (spec_ttOnes.l0 k x3 x7 x8 (wrap64 (x9 + 1)))) else (none)) else (none)) else (some x3)
def spec_ttOnes.f (k : Nat) (a0_0 : Int) (l0_1 : List Int) : Option (List Int) := spec_ttOnes.l0 k ([] : List Int) l0_1 (l0_1.length : Int) 0
theorem spec_ttOnes.calls (k : Nat) (a0_0 : Int) (A0_1 : Option Addr) (c0_1 : Nat) (l0_1 : List Int) (r : List Int) (w : World) (hr0_1 : Kd.C (Kd.int .i64) w A0_1 l0_1.length l0_1) (hc0_1 : l0_1.length ≤ c0_1) (h : spec_ttOnes.f k a0_0 l0_1 = some r) :
  Calls Try.prog 172 #[.agg #[.int .i64 a0_0, .slice A0_1 l0_1.length c0_1]] w fun e w' => ∃ v0_ : Value, e = .returned (v0_) ∧ Kd.R (Kd.int .i64) 3 w' w.heap.size (fun _ => True) v0_ r ∧ Below w.heap.size w w' := by
 have hu60 := Try.underlying60
 have HR0_1 := aM hr0_1
 have HC0_1 := aM hc0_1
 clear hr0_1 hc0_1
 have HB := aM (Below.refl w.heap.size w)
 have H : (spec_ttOnes.l0 k ([] : List Int) l0_1 (l0_1.length : Int) 0) = some r := h
 clear h
 have H' := aM H
 clear H
 go_enter Try.func172, Try.ntmps172
 go_wp2_with (first | ((with_reducible refine gate_dst (N := 1) rfl ?_); refine box_event ?hg (N := 1) ?hd (cs := #[.int .i64 a0_0, .slice A0_1 l0_1.length c0_1]) (t := 60) ?hr ?_; (case hd => rfl); (case hg => rfl); (case hr => exact zc_); intro gb293 hg w2 hbox hb; have n_ := z (below_step za_ hb) <| z (hbox) <| z ((by rw [hg]; exact (below_size za_) : w.heap.size ≤ gb293)) <| z1 ((by rw [hg]; exact (below_size za_) : w.heap.size ≤ gb293)); clear HB; obtain ⟨HB, BK293, GW293, GE293⟩ := n_; clear hb hbox hg; have hcz3_0 : w2.cell? ⟨gb293, 0, none⟩ = some (.int .i64 a0_0) := (blk_cell BK293.out 0).trans rfl; have hcz3_1 : w2.cell? ⟨gb293, 1, none⟩ = some (.slice A0_1 l0_1.length c0_1) := (blk_cell BK293.out 1).trans rfl; have hfz3_0 := blk_frozen BK293.out 0; have hfz3_1 := blk_frozen BK293.out 1))
 go_loopg [3, 9] k (fun kq v3 v9 w' => ∃ (x3_1 : List Int) (x9_1 : Int), v9 = .int .i64 x9_1 ∧ Aside0 (spec_ttOnes.l0 kq x3_1 l0_1 (l0_1.length : Int) x9_1 = some r) ∧ Aside0 (kq ≤ k) ∧ Aside0 (Kd.R (Kd.int .i64) 3 w' w.heap.size (fun _ => True) v3 x3_1) ∧ Aside0 (w'.heap[gb293]? = some (.cells #[.int .i64 a0_0, (.slice A0_1 l0_1.length c0_1)] 60 (0, 0))) ∧ Aside0 (Below w.heap.size w w'))
 case atStart => exact ⟨(([] : List Int)), (0), zb_, H', ⟨Nat.le_refl _⟩, ⟨zbi_⟩, ⟨zb BK293.out⟩, ⟨zgf_⟩⟩
 case round =>
  clear H'; (try clear hcz3_0); (try clear hcz3_1); (try clear hfz3_0); (try clear hfz3_1); obtain ⟨x3_1, x9_1, rfl, HA, HK1, HO_3, BK293, HB⟩ := hrel
  cases gk with
  | zero => exact absurd HA.out (by simp [spec_ttOnes.l0])
  | succ k1 =>
   have H := HA.out; clear HA
   simp only [spec_ttOnes.l0] at H
   by_cases c4 : x9_1 < (l0_1.length : Int)
   ·rw [if_pos c4] at H
    have c4b0 := decide_eq_true c4; clear c4
    by_cases c5 : 0 ≤ x9_1
    ·rw [if_pos c5] at H
     have c5b0 := decide_eq_true c5; clear c5
     by_cases c6 : x9_1 < (l0_1.length : Int)
     ·rw [if_pos c6] at H
      have c6b0 := decide_eq_true c6; clear c6
      by_cases c7 : (rd l0_1 x9_1) = 1
      ·rw [if_pos c7] at H
       have c7b0 := beq_iff_eq.mpr c7; have c7b1 := bne_eq_false_iff_eq.mpr c7; clear c7
       by_cases c8 : x3_1.length < 17592186044416
       ·rw [if_pos c8] at H
        have LMc8 := aM c8; clear c8; obtain ⟨y295, hy295⟩ : ∃ y_ : List Int, y_ = (x3_1 ++ [x9_1]) := ⟨_, rfl⟩; replace H : (spec_ttOnes.l0 k1 y295 l0_1 (l0_1.length : Int) (wrap64 (x9_1 + 1))) = some r := by first | (rw [hy295]; with_reducible exact H) | (have H2_ := (oS _ _).symm.trans H; rw [hy295]; with_reducible exact H2_) | (have H2_ := (oS _ _).symm.trans H; with_reducible exact H2_) | with_reducible exact H | (rw [hy295]; exact H) | exact H
        have Ny295 := aM hy295; clear hy295; have H' := aM H; clear H; have p294 : 0 ≤ (x9_1 : Int) := of_decide_eq_true zd_; have q294 : x9_1 < (l0_1.length : Int) := of_decide_eq_true zd_; obtain ⟨ad294, e294, hx294_0⟩ := Kd.at_int HR0_1.out x9_1 p294 q294
        cases e294
        (try (replace hx294_0 := (HB.out.cell (World.block_lt_of_cell? w _ hx294_0)).trans hx294_0)); replace p294 := eq_true p294; replace q294 := eq_true q294
        go_wp2_with (first | ((with_reducible refine gate_builtin (b := .append) (xs := #[.tmp 16, .tmp 18]) rfl ?_); at_builtin; refine Kd.R_append (Kd.int .i64) (w0 := w) w.heap.size rfl (.tmp 16) (.tmp 18) 24 3 (.int .i64 0) 8 rfl Try.underlying24 info3 rfl (by decide) (by omega) u3 x3_1 x9_1 [.int .i64 x9_1] (fun _ => True) (fun _ => False) rfl rfl ?aP (fun _ hk => hk.elim) ?aF ?aO ?aB ?aS ?aL ?_; (case aP => exact rfl); (case aB => exact zgf_); (case aF => exact (fun _ _ => trivial)); (case aO => exact (zr HO_3.out)); (case aS => exact (below_size zgf_)); (case aL => have := LMc8.out; omega); intro v296 w9 ho hb hg hat; rw [← Ny295.out] at ho; have n_ := z (blk_grown (g := gb293) (o := .cells #[.int .i64 a0_0, .slice (some ad294) l0_1.length c0_1] 60 (0, 0)) (zb BK293.out) hg (Kd.R_ne HO_3.out BK293.out (by decide))) <| z (hb) <| z1 (ho); clear BK293 HB HO_3; obtain ⟨BK293, HB, HO297⟩ := n_; clear ho hb hg hat))
        go_roundg k1
        case measure => have := HK1.out; omega
        case rel => exact ⟨(y295), (wrap64 (x9_1 + 1)), zb_, H', ⟨zba_⟩, ⟨zr HO297.out⟩, ⟨zb BK293.out⟩, ⟨zgf_⟩⟩
       ·rw [if_neg c8] at H
        exact absurd H (by simp)
      ·rw [if_neg c7] at H
       have c7b0 := beq_eq_false_iff_ne.mpr c7; have c7b1 := bne_iff_ne.mpr c7; have H' := aM H; clear H; have p294 : 0 ≤ (x9_1 : Int) := of_decide_eq_true zd_; have q294 : x9_1 < (l0_1.length : Int) := of_decide_eq_true zd_; obtain ⟨ad294, e294, hx294_0⟩ := Kd.at_int HR0_1.out x9_1 p294 q294
       cases e294
       (try (replace hx294_0 := (HB.out.cell (World.block_lt_of_cell? w _ hx294_0)).trans hx294_0)); replace p294 := eq_true p294; replace q294 := eq_true q294
       go_wp2
       go_roundg k1
       case measure => have := HK1.out; omega
       case rel => exact ⟨(x3_1), (wrap64 (x9_1 + 1)), zb_, H', ⟨zba_⟩, ⟨zr HO_3.out⟩, ⟨zb BK293.out⟩, ⟨zgf_⟩⟩
     ·rw [if_neg c6] at H
      exact absurd H (by simp)
    ·rw [if_neg c5] at H
     exact absurd H (by simp)
   ·rw [if_neg c4] at H
    have c4b0 := decide_eq_false c4; clear c4; obtain rfl := Option.some.inj H
    go_wp2
    go_ret
    exact ⟨_, zf_, by refine zr ?_; exact HO_3.out, zgf_⟩
def spec_nfOnes.l0 : Nat → Int → List Int → Int → Int → Option (Int)
 | 0, _, _, _, _ => none
 | k + 1, x3, x7, x8, x9 => if x9 < x8 then (if 0 ≤ x9 then (if x9 < (x7.length : Int) then (if 0 ≤ (IntKind.u64.wrap (rd x7 x9)) then (spec_nfOnes.l0 k (Go.bits .or .i64 x3 (shl .i64 1 (IntKind.u64.wrap (rd x7 x9)))) x7 x8 (wrap64 (x9 + 1))) else (none)) else (none)) else (none)) else (some x3)
def spec_nfOnes.f (k : Nat) (a0_0 : Int) (l0_1 : List Int) : Option (Int) := (spec_ttOnes.f k a0_0 l0_1).bind fun t299 => (spec_nfOnes.l0 k 0 t299 (t299.length : Int) 0)
theorem spec_nfOnes.calls (k : Nat) (a0_0 : Int) (A0_1 : Option Addr) (c0_1 : Nat) (l0_1 : List Int) (r : Int) (w : World) (hr0_1 : Kd.C (Kd.int .i64) w A0_1 l0_1.length l0_1) (hc0_1 : l0_1.length ≤ c0_1) (h : spec_nfOnes.f k a0_0 l0_1 = some r) :
  Calls Try.prog 189 #[.agg #[.int .i64 a0_0, .slice A0_1 l0_1.length c0_1]] w fun e w' => e = .returned (.int .i64 r) ∧ Below w.heap.size w w' := by
 have hu60 := Try.underlying60
 have HR0_1 := aM hr0_1
 have HC0_1 := aM hc0_1
 clear hr0_1 hc0_1
 have HB := aM (Below.refl w.heap.size w)
 have H : ((spec_ttOnes.f k a0_0 l0_1).bind fun t299 => (spec_nfOnes.l0 k 0 t299 (t299.length : Int) 0)) = some r := h
 clear h
 replace H := oB.mp H
 obtain ⟨t299, A20, H⟩ := H
 replace H : (spec_nfOnes.l0 k 0 t299 (t299.length : Int) 0) = some r := H
 have A2 := aM A20
 clear A20
 have H' := aM H
 clear H
 go_enter Try.func189, Try.ntmps189
 go_wp2_with (first | ((with_reducible refine gate_dst (N := 1) rfl ?_); refine box_event ?hg (N := 1) ?hd (cs := #[.int .i64 a0_0, .slice A0_1 l0_1.length c0_1]) (t := 60) ?hr ?_; (case hd => rfl); (case hg => rfl); (case hr => exact zc_); intro gb298 hg w3 hbox hb; have n_ := z (below_step za_ hb) <| z (hbox) <| z ((by rw [hg]; exact (below_size za_) : w.heap.size ≤ gb298)) <| z1 ((by rw [hg]; exact (below_size za_) : w.heap.size ≤ gb298)); clear HB; obtain ⟨HB, BK298, GW298, GE298⟩ := n_; clear hb hbox hg; have hcz4_0 : w3.cell? ⟨gb298, 0, none⟩ = some (.int .i64 a0_0) := (blk_cell BK298.out 0).trans rfl; have hcz4_1 : w3.cell? ⟨gb298, 1, none⟩ = some (.slice A0_1 l0_1.length c0_1) := (blk_cell BK298.out 1).trans rfl; have hfz4_0 := blk_frozen BK298.out 0; have hfz4_1 := blk_frozen BK298.out 1) | ((with_reducible refine gate_callee (f := 172) rfl ?_); refine goesL_ (some 7) rfl rfl Try.func172 (by kernel_rfl) rfl #[.agg #[.int .i64 a0_0, .slice A0_1 l0_1.length c0_1]] rfl ze_ ?_; (with_reducible refine (spec_ttOnes.calls k a0_0 _ _ l0_1 t299 _ ?side1 ?side2 A2.out).mono ?_); (case side1 => exact zi_); (case side2 => exact HC0_1.out); rintro e w5 ⟨v300, rfl, ho0, hb⟩; refine ⟨_, rfl, ?_⟩; have n_ := z (Kd.R_lower ho0 (below_size zie_)) <| z (blk_below (zb BK298.out) hb) <| z1 (below_step zie_ hb); clear BK298 HB; obtain ⟨HO301, BK298, HB⟩ := n_; clear hb; (try clear ho0); obtain ⟨Ao6, co6, eo6⟩ := Kd.R_slice HO301.out; subst eo6))
 go_loopg [3, 9] k (fun kq v3 v9 w' => ∃ (x3_1 : Int) (x9_1 : Int), v3 = .int .i64 x3_1 ∧ v9 = .int .i64 x9_1 ∧ Aside0 (spec_nfOnes.l0 kq x3_1 t299 (t299.length : Int) x9_1 = some r) ∧ Aside0 (kq ≤ k) ∧ Aside0 (Kd.R (Kd.int .i64) 3 w' w.heap.size (fun _ => True) (.slice Ao6 t299.length co6) t299) ∧ Aside0 (w'.heap[gb298]? = some (.cells #[.int .i64 a0_0, (.slice A0_1 l0_1.length c0_1)] 60 (0, 0))) ∧ Aside0 (Below w.heap.size w w'))
 case atStart => exact ⟨(0), (0), zb_, zb_, H', ⟨Nat.le_refl _⟩, ⟨zr HO301.out⟩, ⟨zb BK298.out⟩, ⟨zie_⟩⟩
 case round =>
  clear H'; (try clear hcz4_0); (try clear hcz4_1); (try clear hfz4_0); (try clear hfz4_1); obtain ⟨x3_1, x9_1, rfl, rfl, HA, HK1, HO_7, BK298, HB⟩ := hrel
  cases gk with
  | zero => exact absurd HA.out (by simp [spec_nfOnes.l0])
  | succ k1 =>
   have H := HA.out; clear HA
   simp only [spec_nfOnes.l0] at H
   by_cases c7 : x9_1 < (t299.length : Int)
   ·rw [if_pos c7] at H
    have c7b0 := decide_eq_true c7; clear c7
    by_cases c8 : 0 ≤ x9_1
    ·rw [if_pos c8] at H
     have c8b0 := decide_eq_true c8; clear c8
     by_cases c9 : x9_1 < (t299.length : Int)
     ·rw [if_pos c9] at H
      have c9b0 := decide_eq_true c9; clear c9; obtain ⟨ji10, hji10⟩ : ∃ j_ : Int, (IntKind.u64.wrap (rd t299 x9_1)) = j_ := ⟨_, rfl⟩; replace H : (if 0 ≤ (ji10) then (spec_nfOnes.l0 k1 (Go.bits .or .i64 x3_1 (shl .i64 1 (ji10))) t299 (t299.length : Int) (wrap64 (x9_1 + 1))) else (none)) = some r := by first | (rw [hji10] at H; exact H) | (simp only [hji10] at H ⊢; exact H)
      by_cases c11 : 0 ≤ (ji10)
      ·rw [if_pos c11] at H
       have c11b0 := eq_true c11; have c11b1 := decide_eq_true c11; clear c11; obtain ⟨ji12, hji12⟩ : ∃ j_ : Int, (shl .i64 1 (ji10)) = j_ := ⟨_, rfl⟩; replace H : (spec_nfOnes.l0 k1 (Go.bits .or .i64 x3_1 (ji12)) t299 (t299.length : Int) (wrap64 (x9_1 + 1))) = some r := by first | (rw [hji12] at H; exact H) | (simp only [hji12] at H ⊢; exact H)
       have hji12_ : (IntKind.i64.wrap (1 * 2 ^ min (ji10).toNat 64)) = ji12 := hji12; have hji12z : (ji10) ≤ 64 → (IntKind.i64.wrap (1 * 2 ^ (ji10).toNat)) = ji12 := shl_small hji12; have hji12u : (IntKind.i64.wrap (2 ^ min (ji10).toNat 64)) = ji12 := by have h_ := hji12_; rw [Int.one_mul] at h_; exact h_
       have hji12v : (ji10) ≤ 64 → (IntKind.i64.wrap (2 ^ (ji10).toNat)) = ji12 := fun hle_ => by have h_ := hji12z hle_; rw [Int.one_mul] at h_; exact h_
       have hji12y : (wrap64 (1 * 2 ^ min (ji10).toNat 64)) = ji12 := (i64_w _).symm.trans hji12_; have hji12x : (ji10) ≤ 64 → (wrap64 (1 * 2 ^ (ji10).toNat)) = ji12 := fun h_ => (i64_w _).symm.trans (hji12z h_)
       have H' := aM H; clear H; have p302 : 0 ≤ (x9_1 : Int) := of_decide_eq_true zd_; have q302 : x9_1 < (t299.length : Int) := of_decide_eq_true zd_; obtain ⟨ad302, e302, hx302_0⟩ := Kd.at_int (Kd.R_reads' HO_7.out).2.2 x9_1 p302 q302
       cases e302
       replace p302 := eq_true p302; replace q302 := eq_true q302
       go_wp2
       go_roundg k1
       case measure => have := HK1.out; omega
       case rel => exact ⟨(Go.bits .or .i64 x3_1 (ji12)), (wrap64 (x9_1 + 1)), (by first | rfl | (simp; done) | (simp only [← hji12] <;> (first | rfl | simp)) | (simp [*]; done)), zb_, H', ⟨zba_⟩, ⟨zr HO_7.out⟩, ⟨zb BK298.out⟩, ⟨zie_⟩⟩
      ·rw [if_neg c11] at H
       exact absurd H (by simp)
     ·rw [if_neg c9] at H
      exact absurd H (by simp)
    ·rw [if_neg c8] at H
     exact absurd H (by simp)
   ·rw [if_neg c7] at H
    have c7b0 := decide_eq_false c7; clear c7; obtain rfl := Option.some.inj H
    go_wp2
    go_ret
    exact ⟨zf_, zie_⟩
mutual
def spec_nfLeast.l0 : Nat → List (S72) → List Int → Int → Int → List Int → Option ((List (S72)) × Int)
 | 0, _, _, _, _, _ => none
 | k + 1, x4, x5, x6, x304000, x304001 => (spec_nfOnes.f k x304000 x304001).bind fun t310 => ((spec_nfSearch.f k x5 0 t310 x6).bind fun bt311 => (if bt311.2 = 0 then (spec_nfLeast.l0 k x4 x5 (wrap64 (x6 + 1)) x304000 x304001) else (spec_nfLeast.l1 k x4 bt311.2 ([] : List (S72)) bt311.1 (bt311.1.length : Int) 0)))
def spec_nfLeast.l1 : Nat → List (S72) → Int → List (S72) → List Int → Int → Int → Option ((List (S72)) × Int)
 | 0, _, _, _, _, _, _ => none
 | k + 1, x4, x8, x9, x29, x30, x31 => if x31 < x30 then (if 0 ≤ x31 then (if x31 < (x29.length : Int) then (if 0 ≤ (rd x29 x31) then (if (rd x29 x31) < (x4.length : Int) then (if x9.length < 8796093022208 then (spec_nfLeast.l1 k x4 x8 (x9 ++ [(⟨(rd_T72 x4 (rd x29 x31)).f0, (rd_T72 x4 (rd x29 x31)).f1⟩ : S72)]) x29 x30 (wrap64 (x31 + 1))) else (none)) else (none)) else (none)) else (none)) else (none)) else (some (x9, x8))
end
def spec_nfLeast.f (k : Nat) (a0_0 : Int) (l0_1 : List Int) : Option ((List (S72)) × Int) := (spec_nfPrimes.f k a0_0 l0_1).bind fun t304 => ((spec_nfCovers.f k a0_0 l0_1 t304).bind fun t307 => (spec_nfLeast.l0 k t304 t307 0 a0_0 l0_1))
theorem spec_nfLeast.calls (k : Nat) (a0_0 : Int) (A0_1 : Option Addr) (c0_1 : Nat) (l0_1 : List Int) (r1 : List (S72)) (r2 : Int) (w : World) (hr0_1 : Kd.C (Kd.int .i64) w A0_1 l0_1.length l0_1) (hc0_1 : l0_1.length ≤ c0_1) (h : spec_nfLeast.f k a0_0 l0_1 = some (r1, r2)) :
  Calls Try.prog 168 #[.agg #[.int .i64 a0_0, .slice A0_1 l0_1.length c0_1]] w fun e w' => ∃ v0_ : Value, e = .returned (.tuple #[v0_, .int .i64 r2]) ∧ Kd.R k72 72 w' w.heap.size (fun _ => True) v0_ r1 ∧ Below w.heap.size w w' := by
 have hu60 := Try.underlying60
 have hu72 := Try.underlying72
 have HR0_1 := aM hr0_1
 have HC0_1 := aM hc0_1
 clear hr0_1 hc0_1
 have HB := aM (Below.refl w.heap.size w)
 have H : ((spec_nfPrimes.f k a0_0 l0_1).bind fun t304 => ((spec_nfCovers.f k a0_0 l0_1 t304).bind fun t307 => (spec_nfLeast.l0 k t304 t307 0 a0_0 l0_1))) = some (r1, r2) := h
 clear h
 replace H := oB.mp H
 obtain ⟨t304, A20, H⟩ := H
 replace H : ((spec_nfCovers.f k a0_0 l0_1 t304).bind fun t307 => (spec_nfLeast.l0 k t304 t307 0 a0_0 l0_1)) = some (r1, r2) := H
 have A2 := aM A20
 clear A20
 replace H := oB.mp H
 obtain ⟨t307, A30, H⟩ := H
 replace H : (spec_nfLeast.l0 k t304 t307 0 a0_0 l0_1) = some (r1, r2) := H
 have A3 := aM A30
 clear A30
 have H' := aM H
 clear H
 go_enter Try.func168, Try.ntmps168
 go_wp2_with (first | ((with_reducible refine gate_dst (N := 1) rfl ?_); refine box_event ?hg (N := 1) ?hd (cs := #[.int .i64 a0_0, .slice A0_1 l0_1.length c0_1]) (t := 60) ?hr ?_; (case hd => rfl); (case hg => rfl); (case hr => exact zc_); intro gb303 hg w4 hbox hb; have n_ := z (below_step za_ hb) <| z (hbox) <| z ((by rw [hg]; exact (below_size za_) : w.heap.size ≤ gb303)) <| z1 ((by rw [hg]; exact (below_size za_) : w.heap.size ≤ gb303)); clear HB; obtain ⟨HB, BK303, GW303, GE303⟩ := n_; clear hb hbox hg; have hcz5_0 : w4.cell? ⟨gb303, 0, none⟩ = some (.int .i64 a0_0) := (blk_cell BK303.out 0).trans rfl; have hcz5_1 : w4.cell? ⟨gb303, 1, none⟩ = some (.slice A0_1 l0_1.length c0_1) := (blk_cell BK303.out 1).trans rfl; have hfz5_0 := blk_frozen BK303.out 0; have hfz5_1 := blk_frozen BK303.out 1) | ((with_reducible refine gate_callee (f := 132) rfl ?_); refine goesL_ (some 13) rfl rfl Try.func132 (by kernel_rfl) rfl #[.agg #[.int .i64 a0_0, .slice A0_1 l0_1.length c0_1]] rfl ze_ ?_; (with_reducible refine (spec_nfPrimes.calls k a0_0 _ _ l0_1 t304 _ ?side1 ?side2 A2.out).mono ?_); (case side1 => exact zi_); (case side2 => exact HC0_1.out); rintro e w6 ⟨v305, rfl, ho0, hb⟩; refine ⟨_, rfl, ?_⟩; have n_ := z (Kd.R_lower ho0 (below_size zcf_)) <| z (blk_below (zb BK303.out) hb) <| z1 (below_step zcf_ hb); clear BK303 HB; obtain ⟨HO306, BK303, HB⟩ := n_; clear hb; (try clear ho0); have hcz7_0 : w6.cell? ⟨gb303, 0, none⟩ = some (.int .i64 a0_0) := (blk_cell BK303.out 0).trans rfl; have hcz7_1 : w6.cell? ⟨gb303, 1, none⟩ = some (.slice A0_1 l0_1.length c0_1) := (blk_cell BK303.out 1).trans rfl; have hfz7_0 := blk_frozen BK303.out 0; have hfz7_1 := blk_frozen BK303.out 1; obtain ⟨Ao8, co8, eo8⟩ := Kd.R_slice HO306.out; subst eo8) | ((with_reducible refine gate_callee (f := 133) rfl ?_); refine goesL_ (some 16) rfl rfl Try.func133 (by kernel_rfl) rfl #[.agg #[.int .i64 a0_0, .slice A0_1 l0_1.length c0_1], .slice Ao8 t304.length co8] rfl ze_ ?_; (with_reducible refine (spec_nfCovers.calls k a0_0 _ _ l0_1 _ _ t304 t307 _ ?side1 ?side2 ?side3 ?side4 A3.out).mono ?_); (case side1 => exact zi_); (case side2 => exact HC0_1.out); (case side3 => repeat (first | exact (Kd.R_reads' HO306.out).2.2 | (with_reducible refine cA ?_ _) | (with_reducible refine cN ?_ _) | (with_reducible refine cD ?_))); (case side4 => exact (Kd.R_reads' HO306.out).2.1); rintro e w9 ⟨v308, rfl, ho0, hb⟩; refine ⟨_, rfl, ?_⟩; have n_ := z (Kd.R_below (zr HO306.out) hb) <| z (Kd.R_lower ho0 (below_size zcf_)) <| z (blk_below (zb BK303.out) hb) <| z1 (below_step zcf_ hb); clear HO306 BK303 HB; obtain ⟨HO306, HO309, BK303, HB⟩ := n_; clear hb; (try clear ho0)))
 go_loopg [6] k (fun kq v6 w' => ∃ (x6_1 : Int), v6 = .int .i64 x6_1 ∧ Aside0 (spec_nfLeast.l0 kq t304 t307 x6_1 a0_0 l0_1 = some (r1, r2)) ∧ Aside0 (kq ≤ k) ∧ Aside0 (Kd.R k72 72 w' w.heap.size (fun _ => True) (.slice Ao8 t304.length co8) t304) ∧ Aside0 (Kd.R (Kd.int .i64) 3 w' w.heap.size (fun _ => True) v308 t307) ∧ Aside0 (w'.heap[gb303]? = some (.cells #[.int .i64 a0_0, (.slice A0_1 l0_1.length c0_1)] 60 (0, 0))) ∧ Aside0 (Below w.heap.size w w'))
 case atStart => exact ⟨(0), zb_, H', ⟨Nat.le_refl _⟩, ⟨zr HO306.out⟩, ⟨zr HO309.out⟩, ⟨zb BK303.out⟩, ⟨zcf_⟩⟩
 case round =>
  clear H'; (try clear hcz5_0); (try clear hcz5_1); (try clear hcz7_0); (try clear hcz7_1); (try clear hfz5_0); (try clear hfz5_1); (try clear hfz7_0); (try clear hfz7_1); obtain ⟨x6_1, rfl, HA, HK1, HO_4, HO_5, BK303, HB⟩ := hrel
  cases gk with
  | zero => exact absurd HA.out (by simp [spec_nfLeast.l0])
  | succ k1 =>
   have H := HA.out; clear HA
   simp only [spec_nfLeast.l0] at H
   replace H := oB.mp H; obtain ⟨t310, A100, H⟩ := H; replace H : ((spec_nfSearch.f k1 t307 0 t310 x6_1).bind fun bt311 => (if bt311.2 = 0 then (spec_nfLeast.l0 k1 t304 t307 (wrap64 (x6_1 + 1)) a0_0 l0_1) else (spec_nfLeast.l1 k1 t304 bt311.2 ([] : List (S72)) bt311.1 (bt311.1.length : Int) 0))) = some (r1, r2) := H; have A10 := aM A100; clear A100; replace H := oB.mp H; obtain ⟨⟨t311, t312⟩, A110, H⟩ := H; replace H : (if t312 = 0 then (spec_nfLeast.l0 k1 t304 t307 (wrap64 (x6_1 + 1)) a0_0 l0_1) else (spec_nfLeast.l1 k1 t304 t312 ([] : List (S72)) t311 (t311.length : Int) 0)) = some (r1, r2) := H; have A11 := aM A110; clear A110
   by_cases c12 : t312 = 0
   ·rw [if_pos c12] at H
    have c12b0 := beq_iff_eq.mpr c12; have c12b1 := bne_eq_false_iff_eq.mpr c12; clear c12; have H' := aM H; clear H; have hcz13_0 : wr.cell? ⟨gb303, 0, none⟩ = some (.int .i64 a0_0) := (blk_cell BK303.out 0).trans rfl; have hcz13_1 : wr.cell? ⟨gb303, 1, none⟩ = some (.slice A0_1 l0_1.length c0_1) := (blk_cell BK303.out 1).trans rfl; have hfz13_0 := blk_frozen BK303.out 0; have hfz13_1 := blk_frozen BK303.out 1
    go_wp2_with (first | ((with_reducible refine gate_callee (f := 189) rfl ?_); refine goesL_ (some 22) rfl rfl Try.func189 (by kernel_rfl) rfl #[.agg #[.int .i64 a0_0, .slice A0_1 l0_1.length c0_1]] rfl ze_ ?_; (with_reducible refine (spec_nfOnes.calls k1 a0_0 _ _ l0_1 t310 _ ?side1 ?side2 A10.out).mono ?_); (case side1 => exact zi_); (case side2 => exact HC0_1.out); rintro e w14 ⟨rfl, hb⟩; refine ⟨_, rfl, ?_⟩; have n_ := z (Kd.R_below (zr HO_4.out) hb) <| z (Kd.R_below (zr HO_5.out) hb) <| z (blk_below (zb BK303.out) hb) <| z1 (below_step zcf_ hb); clear HO_4 HO_5 BK303 HB; obtain ⟨HO_4, HO_5, BK303, HB⟩ := n_; clear hb; obtain ⟨Ao15, co15, eo15⟩ := Kd.R_slice HO_5.out; subst eo15) | ((with_reducible refine gate_callee (f := 188) rfl ?_); refine goesL_ (some 24) rfl rfl Try.func188 (by kernel_rfl) rfl #[.slice Ao15 t307.length co15, .int .i64 0, .int .i64 t310, .int .i64 x6_1] rfl ze_ ?_; (with_reducible refine (spec_nfSearch.calls k1 _ _ t307 0 t310 x6_1 t311 t312 _ ?side1 ?side2 A11.out).mono ?_); (case side1 => repeat (first | exact (Kd.R_reads' HO_5.out).2.2 | (with_reducible refine cA ?_ _) | (with_reducible refine cN ?_ _) | (with_reducible refine cD ?_))); (case side2 => exact (Kd.R_reads' HO_5.out).2.1); rintro e w16 ⟨v313, rfl, ho0, hb⟩; refine ⟨_, rfl, ?_⟩; have n_ := z (Kd.R_below (zr HO_4.out) hb) <| z (Kd.R_elder' (zr HO_5.out) (Kd.R_base ho0) hb) <| z (Kd.R_lower (Kd.R_new' ho0 (Kd.R_lt (zr HO_5.out))) (below_size zcf_)) <| z (blk_below (zb BK303.out) hb) <| z1 (below_step zcf_ hb); clear HO_4 HO_5 BK303 HB; obtain ⟨HO_4, HO_5, HO314, BK303, HB⟩ := n_; clear hb; (try clear ho0)))
    go_roundg k1
    case measure => have := HK1.out; omega
    case rel => exact ⟨(wrap64 (x6_1 + 1)), zb_, H', ⟨zba_⟩, ⟨zr HO_4.out⟩, ⟨by refine zr ?_; exact Kd.R_mono HO_5.out (fun _ hk => trivial)⟩, ⟨zb BK303.out⟩, ⟨zcf_⟩⟩
   ·rw [if_neg c12] at H
    have c12b0 := beq_eq_false_iff_ne.mpr c12; have c12b1 := bne_iff_ne.mpr c12; have H' := aM H; clear H; have hcz17_0 : wr.cell? ⟨gb303, 0, none⟩ = some (.int .i64 a0_0) := (blk_cell BK303.out 0).trans rfl; have hcz17_1 : wr.cell? ⟨gb303, 1, none⟩ = some (.slice A0_1 l0_1.length c0_1) := (blk_cell BK303.out 1).trans rfl; have hfz17_0 := blk_frozen BK303.out 0; have hfz17_1 := blk_frozen BK303.out 1
    go_wp2_with (first | ((with_reducible refine gate_callee (f := 189) rfl ?_); refine goesL_ (some 22) rfl rfl Try.func189 (by kernel_rfl) rfl #[.agg #[.int .i64 a0_0, .slice A0_1 l0_1.length c0_1]] rfl ze_ ?_; (with_reducible refine (spec_nfOnes.calls k1 a0_0 _ _ l0_1 t310 _ ?side1 ?side2 A10.out).mono ?_); (case side1 => exact zi_); (case side2 => exact HC0_1.out); rintro e w18 ⟨rfl, hb⟩; refine ⟨_, rfl, ?_⟩; have n_ := z (Kd.R_below (zr HO_4.out) hb) <| z (Kd.R_below (zr HO_5.out) hb) <| z (blk_below (zb BK303.out) hb) <| z1 (below_step zcf_ hb); clear HO_4 HO_5 BK303 HB; obtain ⟨HO_4, HO_5, BK303, HB⟩ := n_; clear hb; obtain ⟨Ao19, co19, eo19⟩ := Kd.R_slice HO_5.out; subst eo19) | ((with_reducible refine gate_callee (f := 188) rfl ?_); refine goesL_ (some 24) rfl rfl Try.func188 (by kernel_rfl) rfl #[.slice Ao19 t307.length co19, .int .i64 0, .int .i64 t310, .int .i64 x6_1] rfl ze_ ?_; (with_reducible refine (spec_nfSearch.calls k1 _ _ t307 0 t310 x6_1 t311 t312 _ ?side1 ?side2 A11.out).mono ?_); (case side1 => repeat (first | exact (Kd.R_reads' HO_5.out).2.2 | (with_reducible refine cA ?_ _) | (with_reducible refine cN ?_ _) | (with_reducible refine cD ?_))); (case side2 => exact (Kd.R_reads' HO_5.out).2.1); rintro e w20 ⟨v313, rfl, ho0, hb⟩; refine ⟨_, rfl, ?_⟩; have n_ := z (Kd.R_below (zr HO_4.out) hb) <| z (Kd.R_elder' (zr HO_5.out) (Kd.R_base ho0) hb) <| z (Kd.R_lower (Kd.R_new' ho0 (Kd.R_lt (zr HO_5.out))) (below_size zcf_)) <| z (blk_below (zb BK303.out) hb) <| z1 (below_step zcf_ hb); clear HO_4 HO_5 BK303 HB; obtain ⟨HO_4, HO_5, HO314, BK303, HB⟩ := n_; clear hb; (try clear ho0); obtain ⟨Ao21, co21, eo21⟩ := Kd.R_slice HO314.out; subst eo21))
    go_loopg [9, 31] k1 (fun kq v9 v31 w' => ∃ (x9_2 : List (S72)) (x31_2 : Int), v31 = .int .i64 x31_2 ∧ Aside0 (spec_nfLeast.l1 kq t304 t312 x9_2 t311 (t311.length : Int) x31_2 = some (r1, r2)) ∧ Aside0 (kq ≤ k1) ∧ Aside0 (Kd.R k72 72 w' w.heap.size (fun k_ => some k_ ≠ (v9 : Value).ownBlock) (.slice Ao8 t304.length co8) t304) ∧ Aside0 (Kd.R k72 72 w' w.heap.size (fun k_ => some k_ ≠ ((.slice Ao8 t304.length co8) : Value).ownBlock) v9 x9_2) ∧ Aside0 (Kd.R (Kd.int .i64) 3 w' w.heap.size (fun _ => True) (.slice Ao21 t311.length co21) t311) ∧ Aside0 (w'.heap[gb303]? = some (.cells #[.int .i64 a0_0, (.slice A0_1 l0_1.length c0_1)] 60 (0, 0))) ∧ Aside0 (Below w.heap.size w w'))
    case atStart => exact ⟨(([] : List (S72))), (0), zb_, H', ⟨Nat.le_refl _⟩, ⟨by refine zr ?_; exact Kd.R_mono HO_4.out (fun _ hk => (by simp [Value.ownBlock]))⟩, ⟨zbi_⟩, ⟨by refine zr ?_; exact Kd.R_mono HO314.out (fun _ hk => trivial)⟩, ⟨zb BK303.out⟩, ⟨zcf_⟩⟩
    case round =>
     clear H'; (try clear c12); (try clear c12b0); (try clear c12b1); (try clear hcz17_0); (try clear hcz17_1); (try clear hfz17_0); (try clear hfz17_1); obtain ⟨x9_2, x31_2, rfl, HA, HK2, HO_4, HO_9, HO_29, BK303, HB⟩ := hrel
     cases gk with
     | zero => exact absurd HA.out (by simp [spec_nfLeast.l1])
     | succ k2 =>
      have H := HA.out; clear HA
      simp only [spec_nfLeast.l1] at H
      by_cases c22 : x31_2 < (t311.length : Int)
      ·rw [if_pos c22] at H
       have c22b0 := decide_eq_true c22; clear c22
       by_cases c23 : 0 ≤ x31_2
       ·rw [if_pos c23] at H
        have c23b0 := decide_eq_true c23; clear c23
        by_cases c24 : x31_2 < (t311.length : Int)
        ·rw [if_pos c24] at H
         have c24b0 := decide_eq_true c24; clear c24
         by_cases c25 : 0 ≤ (rd t311 x31_2)
         ·rw [if_pos c25] at H
          have c25b0 := decide_eq_true c25; clear c25
          by_cases c26 : (rd t311 x31_2) < (t304.length : Int)
          ·rw [if_pos c26] at H
           have c26b0 := decide_eq_true c26; clear c26
           by_cases c27 : x9_2.length < 8796093022208
           ·rw [if_pos c27] at H
            have LMc27 := aM c27; clear c27; obtain ⟨y317, hy317⟩ : ∃ y_ : List (S72), y_ = (x9_2 ++ [(⟨(rd_T72 t304 (rd t311 x31_2)).f0, (rd_T72 t304 (rd t311 x31_2)).f1⟩ : S72)]) := ⟨_, rfl⟩; replace H : (spec_nfLeast.l1 k2 t304 t312 y317 t311 (t311.length : Int) (wrap64 (x31_2 + 1))) = some (r1, r2) := by first | (rw [hy317]; with_reducible exact H) | (have H2_ := (oS _ _).symm.trans H; rw [hy317]; with_reducible exact H2_) | (have H2_ := (oS _ _).symm.trans H; with_reducible exact H2_) | with_reducible exact H | (rw [hy317]; exact H) | exact H
            have Ny317 := aM hy317; clear hy317; have H' := aM H; clear H; have p315 : 0 ≤ (x31_2 : Int) := of_decide_eq_true zd_; have q315 : x31_2 < (t311.length : Int) := of_decide_eq_true zd_; obtain ⟨ad315, e315, hx315_0⟩ := Kd.at_int (Kd.R_reads' HO_29.out).2.2 x31_2 p315 q315
            cases e315
            replace p315 := eq_true p315; replace q315 := eq_true q315; have p316 : 0 ≤ ((rd t311 x31_2) : Int) := of_decide_eq_true zd_; have q316 : (rd t311 x31_2) < (t304.length : Int) := of_decide_eq_true zd_; obtain ⟨ad316, e316, hx316_0, hx316_1⟩ := at_T72 (Kd.R_reads' HO_4.out).2.2 (rd t311 x31_2) p316 q316
            cases e316
            replace p316 := eq_true p316; replace q316 := eq_true q316
            go_wp2_with (first | ((with_reducible refine gate_builtin (b := .append) (xs := #[.tmp 35, .tmp 40]) rfl ?_); at_builtin; refine Kd.R_append k72 (w0 := w) w.heap.size rfl (.tmp 35) (.tmp 40) 68 72 (.agg #[(.int .i64 0), (.int .i64 0)]) 16 rfl Try.underlying68 info72 rfl (by decide) (by omega) u9 x9_2 (⟨(rd_T72 t304 (rd t311 x31_2)).f0, (rd_T72 t304 (rd t311 x31_2)).f1⟩ : S72) [.int .i64 ((rd_T72 t304 (rd t311 x31_2)).f0), .int .i64 ((rd_T72 t304 (rd t311 x31_2)).f1)] (fun k_ => some k_ ≠ (.slice (some ad316) t304.length co8 : Value).ownBlock) (fun _ => False) rfl rfl ?aP (fun _ hk => hk.elim) ?aF ?aO ?aB ?aS ?aL ?_; (case aP => exact k72_mkM _ _ _ (⟨(rd_T72 t304 (rd t311 x31_2)).f0, (rd_T72 t304 (rd t311 x31_2)).f1⟩ : S72)); (case aB => exact zcf_); (case aF => exact (fun k_ hk => Kd.fresh' (Kd.R_lt (zr HO_4.out)) k_ hk)); (case aO => exact (zr HO_9.out)); (case aS => exact (below_size zcf_)); (case aL => have := LMc27.out; omega); intro v318 w28 ho hb hg hat; rw [← Ny317.out] at ho; have n_ := z (Kd.R_after (ok := (fun _ => True)) (by refine zr ?_; exact Kd.R_mono HO_4.out (fun _ hk => ⟨trivial, hk⟩)) hg hat) <| z (Kd.R_over' (zr HO_29.out) (Kd.R_typed (zr HO_9.out)) (by decide) hg) <| z (blk_grown (g := gb303) (o := .cells #[.int .i64 a0_0, .slice A0_1 l0_1.length c0_1] 60 (0, 0)) (zb BK303.out) hg (Kd.R_ne HO_9.out BK303.out (by decide))) <| z (hb) <| z1 (ho); clear HO_4 HO_29 BK303 HB HO_9; obtain ⟨HO_4, HO_29, BK303, HB, HO319⟩ := n_; clear ho hb hg hat))
            go_roundg k2
            case measure => have := HK1.out; have := HK2.out; omega
            case rel => exact ⟨(y317), (wrap64 (x31_2 + 1)), zb_, H', ⟨zci_⟩, ⟨by refine zr ?_; exact Kd.R_mono HO_4.out (fun _ hk => hk.2)⟩, ⟨zr HO319.out⟩, ⟨zr HO_29.out⟩, ⟨zb BK303.out⟩, ⟨zcf_⟩⟩
           ·rw [if_neg c27] at H
            exact absurd H (by simp)
          ·rw [if_neg c26] at H
           exact absurd H (by simp)
         ·rw [if_neg c25] at H
          exact absurd H (by simp)
        ·rw [if_neg c24] at H
         exact absurd H (by simp)
       ·rw [if_neg c23] at H
        exact absurd H (by simp)
      ·rw [if_neg c22] at H
       have c22b0 := decide_eq_false c22; clear c22
       simp only [Option.some.injEq, Prod.mk.injEq] at H
       obtain ⟨rfl, rfl⟩ := H
       go_wp2
       go_ret2
       exact ⟨_, zf_, by refine zr ?_; exact Kd.R_mono HO_9.out (fun _ hk => trivial), zcf_⟩
def spec_LeastSum.f (k : Nat) (a0_0 : Int) (l0_1 : List Int) : Option ((List (S72)) × Bool) := (spec_ttGood.f k a0_0 l0_1).bind fun t321 => (if t321 = true then ((spec_nfLeast.f k a0_0 l0_1).bind fun bt322 => (some (bt322.1, true))) else (some (([] : List (S72)), false)))
theorem spec_LeastSum.calls (k : Nat) (a0_0 : Int) (A0_1 : Option Addr) (c0_1 : Nat) (l0_1 : List Int) (r1 : List (S72)) (r2 : Bool) (w : World) (hr0_1 : Kd.C (Kd.int .i64) w A0_1 l0_1.length l0_1) (hc0_1 : l0_1.length ≤ c0_1) (h : spec_LeastSum.f k a0_0 l0_1 = some (r1, r2)) :
  Calls Try.prog 90 #[.agg #[.int .i64 a0_0, .slice A0_1 l0_1.length c0_1]] w fun e w' => ∃ v0_ : Value, e = .returned (.tuple #[v0_, .bool r2]) ∧ Kd.R k72 72 w' w.heap.size (fun _ => True) v0_ r1 ∧ Below w.heap.size w w' := by
 have hu60 := Try.underlying60
 have HR0_1 := aM hr0_1
 have HC0_1 := aM hc0_1
 clear hr0_1 hc0_1
 have HB := aM (Below.refl w.heap.size w)
 have H : ((spec_ttGood.f k a0_0 l0_1).bind fun t321 => (if t321 = true then ((spec_nfLeast.f k a0_0 l0_1).bind fun bt322 => (some (bt322.1, true))) else (some (([] : List (S72)), false)))) = some (r1, r2) := h
 clear h
 replace H := oB.mp H
 obtain ⟨t321, A20, H⟩ := H
 replace H : (if t321 = true then ((spec_nfLeast.f k a0_0 l0_1).bind fun bt322 => (some (bt322.1, true))) else (some (([] : List (S72)), false))) = some (r1, r2) := H
 have A2 := aM A20
 clear A20
 by_cases c3 : t321 = true
 ·subst c3
  have H1 : ((spec_nfLeast.f k a0_0 l0_1).bind fun bt322 => (some (bt322.1, true))) = some (r1, r2) := by rw [if_pos rfl] at H; exact H
  clear H; have H := H1; clear H1; replace H := oB.mp H; obtain ⟨⟨t322, t325⟩, A40, H⟩ := H; replace H : (some (t322, true)) = some (r1, r2) := H; have A4 := aM A40; clear A40
  simp only [Option.some.injEq, Prod.mk.injEq] at H
  obtain ⟨rfl, rfl⟩ := H
  go_enter Try.func90, Try.ntmps90
  go_wp2_with (first | ((with_reducible refine gate_dst (N := 1) rfl ?_); refine box_event ?hg (N := 1) ?hd (cs := #[.int .i64 a0_0, .slice A0_1 l0_1.length c0_1]) (t := 60) ?hr ?_; (case hd => rfl); (case hg => rfl); (case hr => exact zc_); intro gb320 hg w5 hbox hb; have n_ := z (below_step za_ hb) <| z (hbox) <| z ((by rw [hg]; exact (below_size za_) : w.heap.size ≤ gb320)) <| z1 ((by rw [hg]; exact (below_size za_) : w.heap.size ≤ gb320)); clear HB; obtain ⟨HB, BK320, GW320, GE320⟩ := n_; clear hb hbox hg; have hcz6_0 : w5.cell? ⟨gb320, 0, none⟩ = some (.int .i64 a0_0) := (blk_cell BK320.out 0).trans rfl; have hcz6_1 : w5.cell? ⟨gb320, 1, none⟩ = some (.slice A0_1 l0_1.length c0_1) := (blk_cell BK320.out 1).trans rfl; have hfz6_0 := blk_frozen BK320.out 0; have hfz6_1 := blk_frozen BK320.out 1) | ((with_reducible refine gate_callee (f := 131) rfl ?_); refine goesL_ (some 7) rfl rfl Try.func131 (by kernel_rfl) rfl #[.agg #[.int .i64 a0_0, .slice A0_1 l0_1.length c0_1]] rfl ze_ ?_; (with_reducible refine (spec_ttGood.calls k a0_0 _ _ l0_1 true _ ?side1 ?side2 A2.out).mono ?_); (case side1 => exact zi_); (case side2 => exact HC0_1.out); rintro e w7 ⟨rfl, hb⟩; refine ⟨_, rfl, ?_⟩; have n_ := z (blk_below (zb BK320.out) hb) <| z1 (below_step zgg_ hb); clear BK320 HB; obtain ⟨BK320, HB⟩ := n_; clear hb; have hcz8_0 : w7.cell? ⟨gb320, 0, none⟩ = some (.int .i64 a0_0) := (blk_cell BK320.out 0).trans rfl; have hcz8_1 : w7.cell? ⟨gb320, 1, none⟩ = some (.slice A0_1 l0_1.length c0_1) := (blk_cell BK320.out 1).trans rfl; have hfz8_0 := blk_frozen BK320.out 0; have hfz8_1 := blk_frozen BK320.out 1) | ((with_reducible refine gate_callee (f := 168) rfl ?_); refine goesL_ (some 11) rfl rfl Try.func168 (by kernel_rfl) rfl #[.agg #[.int .i64 a0_0, .slice A0_1 l0_1.length c0_1]] rfl ze_ ?_; (with_reducible refine (spec_nfLeast.calls k a0_0 _ _ l0_1 t322 t325 _ ?side1 ?side2 A4.out).mono ?_); (case side1 => exact zi_); (case side2 => exact HC0_1.out); rintro e w9 ⟨v323, rfl, ho0, hb⟩; refine ⟨_, rfl, ?_⟩; have n_ := z (Kd.R_lower ho0 (below_size zgg_)) <| z (blk_below (zb BK320.out) hb) <| z1 (below_step zgg_ hb); clear BK320 HB; obtain ⟨HO324, BK320, HB⟩ := n_; clear hb; (try clear ho0)))
  go_ret2
  exact ⟨_, zf_, by refine zr ?_; exact HO324.out, zgg_⟩
 ·replace c3 := Bool.eq_false_iff.mpr c3
  subst c3; have H1 : (some (([] : List (S72)), false)) = some (r1, r2) := by rw [if_neg (show ¬ (false = true) by decide)] at H; exact H
  clear H; have H := H1; clear H1
  simp only [Option.some.injEq, Prod.mk.injEq] at H
  obtain ⟨rfl, rfl⟩ := H
  go_enter Try.func90, Try.ntmps90
  go_wp2_with (first | ((with_reducible refine gate_dst (N := 1) rfl ?_); refine box_event ?hg (N := 1) ?hd (cs := #[.int .i64 a0_0, .slice A0_1 l0_1.length c0_1]) (t := 60) ?hr ?_; (case hd => rfl); (case hg => rfl); (case hr => exact zc_); intro gb320 hg w10 hbox hb; have n_ := z (below_step za_ hb) <| z (hbox) <| z ((by rw [hg]; exact (below_size za_) : w.heap.size ≤ gb320)) <| z1 ((by rw [hg]; exact (below_size za_) : w.heap.size ≤ gb320)); clear HB; obtain ⟨HB, BK320, GW320, GE320⟩ := n_; clear hb hbox hg; have hcz11_0 : w10.cell? ⟨gb320, 0, none⟩ = some (.int .i64 a0_0) := (blk_cell BK320.out 0).trans rfl; have hcz11_1 : w10.cell? ⟨gb320, 1, none⟩ = some (.slice A0_1 l0_1.length c0_1) := (blk_cell BK320.out 1).trans rfl; have hfz11_0 := blk_frozen BK320.out 0; have hfz11_1 := blk_frozen BK320.out 1) | ((with_reducible refine gate_callee (f := 131) rfl ?_); refine goesL_ (some 7) rfl rfl Try.func131 (by kernel_rfl) rfl #[.agg #[.int .i64 a0_0, .slice A0_1 l0_1.length c0_1]] rfl ze_ ?_; (with_reducible refine (spec_ttGood.calls k a0_0 _ _ l0_1 false _ ?side1 ?side2 A2.out).mono ?_); (case side1 => exact zi_); (case side2 => exact HC0_1.out); rintro e w12 ⟨rfl, hb⟩; refine ⟨_, rfl, ?_⟩; have n_ := z (blk_below (zb BK320.out) hb) <| z1 (below_step zgg_ hb); clear BK320 HB; obtain ⟨BK320, HB⟩ := n_; clear hb))
  go_ret2
  exact ⟨_, zf_, zbi_, zgg_⟩
end Go.Proofs.Ytbkighlfgaifeaa.QFnLeastSums
