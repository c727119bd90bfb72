/- Functions of FnLeastSums, each as a Lean function, with the proof that the Go code comes to its answers. -/
import Derived.Test.YtbkighlfgaifeaaSFnLeastSumsx0
import Derived.Test.YtbkighlfgaifeaaSFnLeastSumsx4
namespace Go.Proofs.Ytbkighlfgaifeaa.QFnLeastSums
open Go.RowKit Go.Proofs.YtbkighlfgaifeaaW.PrintWords Go.Proofs.YtbkighlfgaifeaaW.PrintLast Go.Proofs.YtbkighlfgaifeaaW.PrintMore
open Go.Proofs.YtbkighlfgaifeaaW.PrintWords renaming pw_below_drewN → pN, below_drew1 → p1, below_alloc → pA
open Go.Proofs.YtbkighlfgaifeaaW.PrintWords.Kd renaming R_alloc → kA, R_drewN → kN, R_drew → kD, Q_alloc → qA, Q_drewN → qN, Q_drew → qD, C_alloc → cA, C_drewN → cN, C_drew → cD
open Go.Proofs.YtbkighlfgaifeaaW.PrintWords.Aside0 renaming mk → aM
open List renaming setIfInBounds_toArray → sI, set_cons_zero → s0, set_cons_succ → sS, map_toArray → mT, length_take → lT, length_drop → lD, map_cons → mC, map_nil → mN
open Option renaming bind_eq_some_iff → oB, bind_some → oS
attribute [local go_sem] max2_int min2_int max_two min_two max_three min_three max_four min_four
set_option maxHeartbeats 8000000
set_option maxRecDepth 100000
set_option linter.unusedVariables false
set_option linter.unusedSimpArgs false
mutual
def impl_primesOf.l0 : Nat → List (S72) → Int → Int → List Int → Option ((List (S72)))
 | 0, _, _, _, _ => none
 | k + 1, x3, x4, x266000, x266001 => if x4 < (x266001.length : Int) then (impl_primesOf.l1 k x3 x4 0 x266000 x266001) else (some x3)
def impl_primesOf.l1 : Nat → List (S72) → Int → Int → Int → List Int → Option ((List (S72)))
 | 0, _, _, _, _, _ => none
 | k + 1, x3, x4, x5, x266000, x266001 => if x5 ≤ x4 then (if (Go.bits .andNot .i64 x5 x4) = 0 then ((impl_implies.f k x266000 x266001 x4 x5).bind fun t270 => (impl_primesOf.j2 k x3 x4 x5 (!t270) x266000 x266001 x4 x5)) else (impl_primesOf.j2 k x3 x4 x5 true x266000 x266001 x4 x5)) else (impl_primesOf.l0 k x3 (wrap64 (x4 + 1)) x266000 x266001)
def impl_primesOf.j2 : Nat → List (S72) → Int → Int → Bool → Int → List Int → Int → Int → Option ((List (S72)))
 | 0, _, _, _, _, _, _, _, _ => none
 | k + 1, x3, x4, x5, x34, x266000, x266001, x270000, x270001 => if x34 = true then (impl_primesOf.l1 k x3 x4 (wrap64 (x5 + 1)) x266000 x266001) else (impl_primesOf.l2 k x3 x4 x5 true 0 x266000 x266001 x270000 x270001)
def impl_primesOf.l2 : Nat → List (S72) → Int → Int → Bool → Int → Int → List Int → Int → Int → Option ((List (S72)))
 | 0, _, _, _, _, _, _, _, _, _ => none
 | k + 1, x3, x4, x5, x7, x8, x266000, x266001, x270000, x270001 => if x8 < x266000 then (if 0 ≤ x8 then (if (Go.bits .and .i64 (shr .i64 x4 x8) 1) = 1 then ((impl_implies.f k x266000 x266001 (Go.bits .andNot .i64 x4 (shl .i64 1 x8)) (Go.bits .andNot .i64 x5 (shl .i64 1 x8))).bind fun t271 => (if t271 = true then (impl_primesOf.l2 k x3 x4 x5 false (wrap64 (x8 + 1)) x266000 x266001 x270000 x270001) else (impl_primesOf.l2 k x3 x4 x5 x7 (wrap64 (x8 + 1)) x266000 x266001 x270000 x270001))) else (impl_primesOf.l2 k x3 x4 x5 x7 (wrap64 (x8 + 1)) x266000 x266001 x270000 x270001)) else (none)) else (if x7 = true then (if x3.length < 8796093022208 then (impl_primesOf.l1 k (x3 ++ [(⟨x270000, x270001⟩ : S72)]) x4 (wrap64 (x5 + 1)) x266000 x266001) else (none)) else (impl_primesOf.l1 k x3 x4 (wrap64 (x5 + 1)) x266000 x266001))
end
def impl_primesOf.f (k : Nat) (a0_0 : Int) (l0_1 : List Int) : Option ((List (S72))) := impl_primesOf.l0 k (([] : List (S72))) 0 a0_0 l0_1
def impl_primesOf.T14 : Bool × List (List Nat × List Nat) := (true, [([], []), ([], []), ([0, 1], [0, 1]), ([2], [2]), ([3], [3]), ([4], [4]), ([5], [5]), ([5], [5]), ([5], [5]), ([8, 5], [5, 8]), ([7, 9, 5], [5, 7, 9]), ([5], [5]), ([5], [5]), ([12, 5], [5, 12]), ([11, 13, 5], [5, 11, 13]), ([10, 14, 5], [5, 10, 14]), ([6, 15, 5, 5], [5, 6, 15]), ([5, 16], [5, 16])])
def impl_primesOf.B14 : List Nat := [0, 0, 3, 7, 15, 31, 63, 63, 63, 319, 959, 63, 63, 4159, 14399, 32703, 65535, 131071]
theorem impl_primesOf.tab14 : rtab .any (opsOf Try.f130 14) = impl_primesOf.T14 := by kernel_rfl
theorem impl_primesOf.bits14 : waitsOk impl_primesOf.T14.2 impl_primesOf.B14 = true := by kernel_rfl
theorem impl_primesOf.calls (k : Nat) (a0_0 : Int) (A0_1 : Option Addr) (c0_1 : Nat) (l0_1 : List Int) (r : List (S72)) (w : World) (hr0_1 : Kd.C (Kd.int .i64) w A0_1 l0_1.length l0_1) (hc0_1 : l0_1.length ≤ c0_1) (h : impl_primesOf.f k a0_0 l0_1 = some r) :
  Calls Try.prog 130 #[.agg #[.int .i64 a0_0, .slice A0_1 l0_1.length c0_1]] w fun e w' => ∃ v0_ : Value, e = .returned (v0_) ∧ Kd.R k72 72 w' w.heap.size (fun _ => True) v0_ r ∧ Below w.heap.size w w' := by
 have hu60 := Try.underlying60
 have hu72 := Try.underlying72
 have HR0_1 := aM hr0_1
 have HC0_1 := aM hc0_1
 clear hr0_1 hc0_1
 have HB := aM (Below.refl w.heap.size w)
 have H : (impl_primesOf.l0 k (([] : List (S72))) 0 a0_0 l0_1) = some r := h
 clear h
 obtain ⟨y266, hy266⟩ : ∃ y_ : List (S72), y_ = (([] : List (S72))) := ⟨_, rfl⟩
 replace H : (impl_primesOf.l0 k y266 0 a0_0 l0_1) = some r := by first | (rw [hy266]; with_reducible exact H) | (have H2_ := (oS _ _).symm.trans H; rw [hy266]; with_reducible exact H2_) | (have H2_ := (oS _ _).symm.trans H; with_reducible exact H2_) | with_reducible exact H | (rw [hy266]; exact H) | exact H
 have Ny266 := aM hy266
 clear hy266
 have H' := aM H
 clear H
 go_enter Try.func130, Try.ntmps130
 go_wp2_with (first | ((with_reducible refine gate_dst (N := 1) rfl ?_); refine box_event ?hg (N := 1) ?hd (cs := #[.int .i64 a0_0, .slice A0_1 l0_1.length c0_1]) (t := 60) ?hr ?_; (case hd => rfl); (case hg => rfl); (case hr => exact zc_); intro gb265 hg w2 hbox hb; have n_ := z (below_step za_ hb) <| z (hbox) <| z ((by rw [hg]; exact (below_size za_) : w.heap.size ≤ gb265)) <| z1 ((by rw [hg]; exact (below_size za_) : w.heap.size ≤ gb265)); clear HB; obtain ⟨HB, BK265, GW265, GE265⟩ := n_; clear hb hbox hg) | ((with_reducible refine gate_dst (N := 9) rfl ?_); refine Kd.R_lit k72 _ 72 ?hg (N := 9) ?hd (xs := ([] : List (S72))) (inner := []) (ok := fun _ => True) (okp := fun _ => True) ?hr ?hp (fun _ hk => hk) trivial (Below.refl _ _) (Nat.le_refl _) (by simp) ?_; (case hd => rfl); (case hg => rfl); (case hr => exact zc_); (case hp => exact (Reps.none _ _)); intro v267 w3 ho4 hb hg_ hnew_; clear hg_ hnew_; (first | rw [← Ny266.out] at ho4 | (simp only [Int.reduceToNat] at ho4; rw [← Ny266.out] at ho4)); have n_ := z (Kd.R_lower ho4 (below_size zef_)) <| z (blk_below (zb BK265.out) hb) <| z1 (below_step zef_ hb); clear BK265 HB; obtain ⟨HO268, BK265, HB⟩ := n_; clear hb ho4))
 go_loopg [3, 4] k (fun kq v3 v4 w' => ∃ (x3_1 : List (S72)) (x4_1 : Int), v4 = .int .i64 x4_1 ∧ Aside0 (impl_primesOf.l0 kq x3_1 x4_1 a0_0 l0_1 = some r) ∧ Aside0 (kq ≤ k) ∧ Aside0 (Kd.R k72 72 w' w.heap.size (fun _ => True) v3 x3_1) ∧ Aside0 (w'.heap[gb265]? = some (.cells #[.int .i64 a0_0, (.slice A0_1 l0_1.length c0_1)] 60 (0, 0))) ∧ Aside0 (Below w.heap.size w w'))
 case atStart => exact ⟨(y266), (0), zb_, H', ⟨Nat.le_refl _⟩, ⟨zr HO268.out⟩, ⟨zb BK265.out⟩, ⟨zef_⟩⟩
 case round =>
  clear H'; obtain ⟨x3_1, x4_1, rfl, HA, HK1, HO_3, BK265, HB⟩ := hrel
  cases gk with
  | zero => exact absurd HA.out (by simp [impl_primesOf.l0])
  | succ k1 =>
   have H := HA.out; clear HA
   simp only [impl_primesOf.l0] at H
   by_cases c5 : x4_1 < (l0_1.length : Int)
   ·rw [if_pos c5] at H
    have c5b0 := decide_eq_true c5; clear c5; have H' := aM H; clear H; have hcz6_0 : wr.cell? ⟨gb265, 0, none⟩ = some (.int .i64 a0_0) := (blk_cell BK265.out 0).trans rfl; have hcz6_1 : wr.cell? ⟨gb265, 1, none⟩ = some (.slice A0_1 l0_1.length c0_1) := (blk_cell BK265.out 1).trans rfl; have hfz6_0 := blk_frozen BK265.out 0; have hfz6_1 := blk_frozen BK265.out 1
    go_wp2
    go_loopg [3, 5] k1 (fun kq v3 v5 w' => ∃ (x3_2 : List (S72)) (x5_2 : Int), v5 = .int .i64 x5_2 ∧ Aside0 (impl_primesOf.l1 kq x3_2 x4_1 x5_2 a0_0 l0_1 = some r) ∧ Aside0 (kq ≤ k1) ∧ Aside0 (Kd.R k72 72 w' w.heap.size (fun _ => True) v3 x3_2) ∧ Aside0 (w'.heap[gb265]? = some (.cells #[.int .i64 a0_0, (.slice A0_1 l0_1.length c0_1)] 60 (0, 0))) ∧ Aside0 (Below w.heap.size w w'))
    case atStart => exact ⟨(x3_1), (0), zb_, H', ⟨Nat.le_refl _⟩, ⟨zr HO_3.out⟩, ⟨zb BK265.out⟩, ⟨zef_⟩⟩
    case round =>
     clear H'; (try clear c5b0); (try clear hcz6_0); (try clear hcz6_1); (try clear hfz6_0); (try clear hfz6_1); obtain ⟨x3_2, x5_2, rfl, HA, HK2, HO_3, BK265, HB⟩ := hrel
     cases gk with
     | zero => exact absurd HA.out (by simp [impl_primesOf.l1])
     | succ k2 =>
      have H := HA.out; clear HA
      simp only [impl_primesOf.l1] at H
      by_cases c7 : x5_2 ≤ x4_1
      ·rw [if_pos c7] at H
       have c7b0 := decide_eq_true c7; clear c7; have HC8 := aM H; clear H
       go_upto_region 9 with (first | ((with_reducible refine gate_dst (N := 6) rfl ?_); refine box_event ?hg (N := 6) ?hd (cs := #[.int .i64 0, .int .i64 0]) (t := 72) ?hr ?_; (case hd => rfl); (case hg => rfl); (case hr => exact zc_); intro gb269 hg w9 hbox hb; have n_ := z (Kd.R_below (Kd.R_elderB (zr HO_3.out) gb269 (Nat.le_of_eq hg.symm)) hb) <| z (blk_below (zb BK265.out) hb) <| z (below_step zef_ hb) <| z (hbox) <| z ((by rw [hg]; exact (below_size zef_) : w.heap.size ≤ gb269)) <| z ((by rw [hg]; exact (below_size zef_) : w.heap.size ≤ gb269)) <| z ((by rw [hg]; exact Nat.ne_of_lt (blk_lt (zb BK265.out)) : gb265 ≠ gb269)) <| z1 ((by rw [hg]; exact Nat.ne_of_gt (blk_lt (zb BK265.out)) : gb269 ≠ gb265)); clear HO_3 BK265 HB; obtain ⟨HO_3, BK265, HB, BK269, GW269, GE269, NB265_269, NB269_265⟩ := n_; clear hb hbox hg; have hnb10 := NB269_265.out; have hnc10 := NB265_269.out; have hcz11_0 : w9.cell? ⟨gb269, 0, none⟩ = some (.int .i64 0) := (blk_cell BK269.out 0).trans rfl; have hcz11_1 : w9.cell? ⟨gb269, 1, none⟩ = some (.int .i64 0) := (blk_cell BK269.out 1).trans rfl; have hfz11_0 := blk_frozen BK269.out 0; have hfz11_1 := blk_frozen BK269.out 1))
       (try simp only [Act.put, sI, s0, sS])
       go_cut [34] (fun v34 wc => ∃ (kq : Nat) (x34_7 : Bool), v34 = .bool x34_7 ∧ Aside0 (impl_primesOf.j2 kq x3_2 x4_1 x5_2 x34_7 a0_0 l0_1 x4_1 x5_2 = some r) ∧ Aside0 (kq ≤ k2) ∧ Aside0 (Kd.R k72 72 wc w.heap.size (fun k_ => k_ ≠ gb269) u3 x3_2) ∧ Aside0 (wc.heap[gb265]? = some (.cells #[.int .i64 a0_0, (.slice A0_1 l0_1.length c0_1)] 60 (0, 0))) ∧ Aside0 (wc.heap[gb269]? = some (.cells #[.int .i64 x4_1, .int .i64 x5_2] 72 (0, 0))) ∧ Aside0 (Below w.heap.size w wc))
       case first =>
        have H := HC8.out; clear HC8
        by_cases c12 : (Go.bits .andNot .i64 x5_2 x4_1) = 0
        ·rw [if_pos c12] at H
         have c12b0 := beq_iff_eq.mpr c12; have c12b1 := bne_eq_false_iff_eq.mpr c12; clear c12; (first | rw [c12b0] | (simp only [i64_w, i32_w]; rw [c12b0]) | skip); replace H := oB.mp H; obtain ⟨t270, A130, H⟩ := H; replace H : (impl_primesOf.j2 k2 x3_2 x4_1 x5_2 (!t270) a0_0 l0_1 x4_1 x5_2) = some r := H; have A13 := aM A130; clear A130; have H' := aM H; clear H; have hnb14 := NB265_269.out; have hnc14 := NB269_265.out; have hcz15_0 : w9.cell? ⟨gb265, 0, none⟩ = some (.int .i64 a0_0) := (blk_cell BK265.out 0).trans rfl; have hcz15_1 : w9.cell? ⟨gb265, 1, none⟩ = some (.slice A0_1 l0_1.length c0_1) := (blk_cell BK265.out 1).trans rfl; have hfz15_0 := blk_frozen BK265.out 0; have hfz15_1 := blk_frozen BK265.out 1; have hcz16_0 : w9.cell? ⟨gb269, 0, none⟩ = some (.int .i64 0) := (blk_cell BK269.out 0).trans rfl; have hcz16_1 : w9.cell? ⟨gb269, 1, none⟩ = some (.int .i64 0) := (blk_cell BK269.out 1).trans rfl; have hfz16_0 := blk_frozen BK269.out 0; have hfz16_1 := blk_frozen BK269.out 1
         go_wp2_with (first | (go_at_call 140; (with_reducible refine (impl_implies.calls k2 a0_0 _ _ l0_1 x4_1 x5_2 t270 _ ?side1 ?side2 A13.out).mono ?_); (case side1 => exact Kd.C_below HR0_1.out zdd_); (case side2 => exact HC0_1.out); rintro e w17 ⟨rfl, hb⟩; have n_ := z (Kd.R_below (by refine zr ?_; exact (Kd.R_mono (Kd.R_far (p := ⟨gb269, 1, none⟩) (Kd.R_far (p := ⟨gb269, 0, none⟩) (Kd.R_mono HO_3.out (fun k_ hk => (⟨hk, hk.2⟩ : _ ∧ k_ ≠ gb269))) (fun _ hk => hk.2) (.int .i64 x4_1)) (fun _ hk => hk.2) (.int .i64 x5_2)) (fun _ h_ => h_.1))) hb) <| z (blk_below (g := gb265) (o := .cells #[.int .i64 a0_0, .slice A0_1 l0_1.length c0_1] 60 (0, 0)) (by refine zb ?_; refine blk_far ?_ NB265_269.out _; refine zb ?_; refine blk_far ?_ NB265_269.out _; refine zb ?_; exact BK265.out) hb) <| z (blk_below (g := gb269) (o := .cells #[.int .i64 x4_1, .int .i64 x5_2] 72 (0, 0)) (by refine zb ?_; refine blk_put (cs := #[.int .i64 x4_1, .int .i64 0]) ?_ 1 _ rfl; refine zb ?_; refine blk_put (cs := #[.int .i64 0, .int .i64 0]) ?_ 0 _ rfl; refine zb ?_; exact BK269.out) hb) <| z1 (below_step zdd_ hb); clear HO_3 BK265 BK269 HB; obtain ⟨HO_3, BK265, BK269, HB⟩ := n_; clear hb; (try clear hk)))
         go_meet
         case rel => exact ⟨_, (!t270), zb_, H', ⟨zjb_⟩, ⟨by refine zr ?_; exact Kd.R_mono HO_3.out (fun _ hk => hk.2)⟩, ⟨zb BK265.out⟩, ⟨zb BK269.out⟩, ⟨zdd_⟩⟩
        ·rw [if_neg c12] at H
         have c12b0 := beq_eq_false_iff_ne.mpr c12; have c12b1 := bne_iff_ne.mpr c12; (first | rw [c12b0] | (simp only [i64_w, i32_w]; rw [c12b0]) | skip); have H' := aM H; clear H
         go_wp2
         go_meet
         case rel => exact ⟨_, (true), zb_, H', ⟨zjb_⟩, ⟨by refine zr ?_; exact Kd.R_mono (Kd.R_far (p := ⟨gb269, 1, none⟩) (Kd.R_far (p := ⟨gb269, 0, none⟩) (Kd.R_mono HO_3.out (fun k_ hk => (⟨hk, hk.2⟩ : _ ∧ k_ ≠ gb269))) (fun _ hk => hk.2) (.int .i64 x4_1)) (fun _ hk => hk.2) (.int .i64 x5_2)) (fun _ hk => hk.1.2)⟩, ⟨by refine zb ?_; refine blk_far ?_ NB265_269.out _; refine zb ?_; refine blk_far ?_ NB265_269.out _; refine zb ?_; exact BK265.out⟩, ⟨by refine zb ?_; refine blk_put (cs := #[.int .i64 x4_1, .int .i64 0]) ?_ 1 _ rfl; refine zb ?_; refine blk_put (cs := #[.int .i64 0, .int .i64 0]) ?_ 0 _ rfl; refine zb ?_; exact BK269.out⟩, ⟨zdd_⟩⟩
       case rest =>
        clear HC8; (try clear c7b0); (try clear hcz11_0); (try clear hcz11_1); (try clear hfz11_0); (try clear hfz11_1); obtain ⟨kq, x34_7, rfl, HA, HJ7, HO_3, BK265, BK269, HB⟩ := hcut
        cases kq with
        | zero => exact absurd HA.out (by simp [impl_primesOf.j2])
        | succ kj7 =>
         have H := HA.out; clear HA
         simp only [impl_primesOf.j2] at H
         by_cases c18 : x34_7 = true
         ·subst c18
          have H1 : (impl_primesOf.l1 kj7 x3_2 x4_1 (wrap64 (x5_2 + 1)) a0_0 l0_1) = some r := by rw [if_pos rfl] at H; exact H
          clear H; have H := H1; clear H1; have H' := aM H; clear H
          go_wp2
          go_roundg kj7
          case measure => have := HK1.out; have := HK2.out; have := HJ7.out; omega
          case rel => exact ⟨(x3_2), (wrap64 (x5_2 + 1)), zb_, H', ⟨by have := HK1.out; have := HK2.out; have := HJ7.out; omega⟩, ⟨zjc_⟩, ⟨zb BK265.out⟩, ⟨zdd_⟩⟩
         ·replace c18 := Bool.eq_false_iff.mpr c18
          subst c18; have H1 : (impl_primesOf.l2 kj7 x3_2 x4_1 x5_2 true 0 a0_0 l0_1 x4_1 x5_2) = some r := by rw [if_neg (show ¬ (false = true) by decide)] at H; exact H
          clear H; have H := H1; clear H1; have H' := aM H; clear H
          go_wp2
          go_loopg [7, 8] kj7 (fun kq v7 v8 w' => ∃ (x7_4 : Bool) (x8_4 : Int), v7 = .bool x7_4 ∧ v8 = .int .i64 x8_4 ∧ Aside0 (impl_primesOf.l2 kq x3_2 x4_1 x5_2 x7_4 x8_4 a0_0 l0_1 x4_1 x5_2 = some r) ∧ Aside0 (kq ≤ kj7) ∧ Aside0 (Kd.R k72 72 w' w.heap.size (fun k_ => k_ ≠ gb269) u3 x3_2) ∧ Aside0 (w'.heap[gb265]? = some (.cells #[.int .i64 a0_0, (.slice A0_1 l0_1.length c0_1)] 60 (0, 0))) ∧ Aside0 (w'.heap[gb269]? = some (.cells #[.int .i64 x4_1, .int .i64 x5_2] 72 (0, 0))) ∧ Aside0 (Below w.heap.size w w'))
          case atStart => exact ⟨(true), (0), zb_, zb_, H', ⟨Nat.le_refl _⟩, ⟨zr HO_3.out⟩, ⟨zb BK265.out⟩, ⟨zb BK269.out⟩, ⟨zdd_⟩⟩
          case round =>
           clear H'; obtain ⟨x7_4, x8_4, rfl, rfl, HA, HK4, HO_3, BK265, BK269, HB⟩ := hrel
           cases gk with
           | zero => exact absurd HA.out (by simp [impl_primesOf.l2])
           | succ k4 =>
            have H := HA.out; clear HA
            simp only [impl_primesOf.l2] at H
            by_cases c19 : x8_4 < a0_0
            ·rw [if_pos c19] at H
             have c19b0 := decide_eq_true c19; clear c19
             by_cases c20 : 0 ≤ x8_4
             ·rw [if_pos c20] at H
              have c20b0 := eq_true c20; have c20b1 := decide_eq_true c20; clear c20; obtain ⟨ji21, hji21⟩ : ∃ j_ : Int, (shr .i64 x4_1 x8_4) = j_ := ⟨_, rfl⟩; replace H : (if (Go.bits .and .i64 (ji21) 1) = 1 then ((impl_implies.f k4 a0_0 l0_1 (Go.bits .andNot .i64 x4_1 (shl .i64 1 x8_4)) (Go.bits .andNot .i64 x5_2 (shl .i64 1 x8_4))).bind fun t271 => (if t271 = true then (impl_primesOf.l2 k4 x3_2 x4_1 x5_2 false (wrap64 (x8_4 + 1)) a0_0 l0_1 x4_1 x5_2) else (impl_primesOf.l2 k4 x3_2 x4_1 x5_2 x7_4 (wrap64 (x8_4 + 1)) a0_0 l0_1 x4_1 x5_2))) else (impl_primesOf.l2 k4 x3_2 x4_1 x5_2 x7_4 (wrap64 (x8_4 + 1)) a0_0 l0_1 x4_1 x5_2)) = some r := by first | (rw [hji21] at H; exact H) | (simp only [hji21] at H ⊢; exact H)
              have hji21_ : (x4_1 / 2 ^ min x8_4.toNat 64) = ji21 := hji21; have hji21z : x8_4 ≤ 64 → (x4_1 / 2 ^ x8_4.toNat) = ji21 := shr_small hji21
              by_cases c22 : (Go.bits .and .i64 (ji21) 1) = 1
              ·rw [if_pos c22] at H
               have c22b0 := beq_iff_eq.mpr c22; have c22b1 := bne_eq_false_iff_eq.mpr c22; clear c22; have c23b0 := eq_true (of_decide_eq_true zd_ : 0 ≤ x8_4); obtain ⟨ji24, hji24⟩ : ∃ j_ : Int, (shl .i64 1 x8_4) = j_ := ⟨_, rfl⟩; replace H : ((impl_implies.f k4 a0_0 l0_1 (Go.bits .andNot .i64 x4_1 (ji24)) (Go.bits .andNot .i64 x5_2 (ji24))).bind fun t271 => (if t271 = true then (impl_primesOf.l2 k4 x3_2 x4_1 x5_2 false (wrap64 (x8_4 + 1)) a0_0 l0_1 x4_1 x5_2) else (impl_primesOf.l2 k4 x3_2 x4_1 x5_2 x7_4 (wrap64 (x8_4 + 1)) a0_0 l0_1 x4_1 x5_2))) = some r := by first | (rw [hji24] at H; exact H) | (simp only [hji24] at H ⊢; exact H)
               have hji24_ : (IntKind.i64.wrap (1 * 2 ^ min x8_4.toNat 64)) = ji24 := hji24; have hji24z : x8_4 ≤ 64 → (IntKind.i64.wrap (1 * 2 ^ x8_4.toNat)) = ji24 := shl_small hji24; have hji24u : (IntKind.i64.wrap (2 ^ min x8_4.toNat 64)) = ji24 := by have h_ := hji24_; rw [Int.one_mul] at h_; exact h_
               have hji24v : x8_4 ≤ 64 → (IntKind.i64.wrap (2 ^ x8_4.toNat)) = ji24 := fun hle_ => by have h_ := hji24z hle_; rw [Int.one_mul] at h_; exact h_
               have hji24y : (wrap64 (1 * 2 ^ min x8_4.toNat 64)) = ji24 := (i64_w _).symm.trans hji24_; have hji24x : x8_4 ≤ 64 → (wrap64 (1 * 2 ^ x8_4.toNat)) = ji24 := fun h_ => (i64_w _).symm.trans (hji24z h_)
               have c25b0 := eq_true (of_decide_eq_true zd_ : 0 ≤ x8_4); replace H := oB.mp H; obtain ⟨t271, A270, H⟩ := H; replace H : (if t271 = true then (impl_primesOf.l2 k4 x3_2 x4_1 x5_2 false (wrap64 (x8_4 + 1)) a0_0 l0_1 x4_1 x5_2) else (impl_primesOf.l2 k4 x3_2 x4_1 x5_2 x7_4 (wrap64 (x8_4 + 1)) a0_0 l0_1 x4_1 x5_2)) = some r := H; have A27 := aM A270; clear A270
               by_cases c28 : t271 = true
               ·subst c28
                have H1 : (impl_primesOf.l2 k4 x3_2 x4_1 x5_2 false (wrap64 (x8_4 + 1)) a0_0 l0_1 x4_1 x5_2) = some r := by rw [if_pos rfl] at H; exact H
                clear H; have H := H1; clear H1; have H' := aM H; clear H; have hnb29 := NB265_269.out; have hnc29 := NB269_265.out; have hcz30_0 : wr.cell? ⟨gb265, 0, none⟩ = some (.int .i64 a0_0) := (blk_cell BK265.out 0).trans rfl; have hcz30_1 : wr.cell? ⟨gb265, 1, none⟩ = some (.slice A0_1 l0_1.length c0_1) := (blk_cell BK265.out 1).trans rfl; have hfz30_0 := blk_frozen BK265.out 0; have hfz30_1 := blk_frozen BK265.out 1; (try go_wp2); have n_ := z (kD HO_3.out) <| z (blk_drew BK265.out) <| z (blk_drew BK269.out) <| z1 (p1 HB.out)
                clear HO_3 BK265 BK269 HB; obtain ⟨HO_3, BK265, BK269, HB⟩ := n_
                refine start_ (n := 18) (S := fun w' => w'.cell? ⟨gb265, 0, none⟩ = some (.int .i64 a0_0) ∧ w'.cell? ⟨gb265, 1, none⟩ = some (.slice A0_1 l0_1.length c0_1)) (ds := []) #[fi,fi,fi,fi,fi,fi,fi,fi,fi,fi,fi,fi,fi,fi,fi,fi,fi,fi] (by kernel_rfl) rfl rfl ⟨(blk_cell BK265.out 0).trans rfl, (blk_cell BK265.out 1).trans rfl⟩ (fun hHeld => ?_); refine with_tabW impl_primesOf.tab14 impl_primesOf.bits14 (fun HT_ HW_ => ?_)
                generalize wr.drew = w31 at HO_3 BK265 BK269 HB hHeld ⊢; refine py_ 0 41 HT_.out ?_; refine py_ 1 42 HT_.out ?_; refine py_ 2 43 HT_.out ?_; refine py_ 3 44 HT_.out ?_; refine py_ 4 45 HT_.out ?_; refine py_ 5 46 HT_.out ?_; refine py_ 7 48 HT_.out ?_; refine py_ 8 49 HT_.out ?_; refine py_ 9 50 HT_.out ?_; refine py_ 10 51 HT_.out ?_; refine py_ 11 52 HT_.out ?_; refine py_ 12 53 HT_.out ?_; refine py_ 13 54 HT_.out ?_; refine py_ 14 55 HT_.out ?_; refine py_ 15 56 HT_.out ?_
                refine take_ (i := 6) (N := some 47) (v := ?_) (a' := ?_) #[ti,ti,ti,ti,ti,ti,ti,ti,ti,ti,ti,ti,ti,ti,ti,ti,fi,fi] rfl rfl (take_ofW HT_.out HW_.out (by kernel_rfl)) (fun _ _ _ h => h) (Or.inl ⟨by rfl, ?_⟩) hHeld ?_ ?_
                rotate_left
                ·rintro w' ⟨s0, s1⟩
                 go_simp
                 with_reducible rfl
                rotate_left
                ·simp only [Act.put, sI, s0, sS, i64_w, i32_w]
                 rfl
                refine one_ (i := 16) (N := some 57) #[ti,ti,ti,ti,ti,ti,ti,ti,ti,ti,ti,ti,ti,ti,ti,ti,ti,fi] rfl rfl (one_of HT_.out (by kernel_rfl)) (by decide) (fun K hK => ?_)
                refine goes_ Try.func140 (by kernel_rfl) rfl #[.agg #[.int .i64 a0_0, .slice A0_1 l0_1.length c0_1], .agg #[.int .i64 (Go.bits .andNot .i64 x4_1 (ji24)), .int .i64 (Go.bits .andNot .i64 x5_2 (ji24))]] (by rfl) rfl rfl (by (try simp only [mT, mC, mN]); first | done | (simp only [hji24]; rfl) | rfl | (simp only [lD, lT]; rfl)) ?_
                with_reducible refine (impl_implies.calls k4 a0_0 _ _ l0_1 (Go.bits .andNot .i64 x4_1 (ji24)) (Go.bits .andNot .i64 x5_2 (ji24)) true _ ?side1 ?side2 A27.out).mono ?_
                (case side1 => exact zi_)
                (case side2 => exact HC0_1.out)
                rintro e w32 ⟨rfl, hb⟩
                refine ⟨_, rfl, ?_⟩
                have n_ := z (Kd.R_below (zr HO_3.out) hb) <| z (blk_below (zb BK265.out) hb) <| z (blk_below (zb BK269.out) hb) <| z1 (below_step zdd_ hb)
                clear HO_3 BK265 BK269 HB; obtain ⟨HO_3, BK265, BK269, HB⟩ := n_; (try clear hb); (try clear hb2); (try clear hk); (try clear hi)
                refine hK.out _ _ ⟨(blk_cell BK265.out 0).trans rfl, (blk_cell BK265.out 1).trans rfl⟩ (fun hHeld => ?_)
                clear hK K
                refine norm_ (a' := ?_) ?_ ?_
                rotate_left
                ·show Act.put _ (some 57) _ = _
                 simp only [Act.put, sI, s0, sS, i64_w, i32_w]
                 rfl
                refine py_ 17 58 HT_.out ?_
                refine done_ (done_of HT_.out (by kernel_rfl)) ?_
                (try go_wp2)
                go_roundg k4
                case measure => have := HK1.out; have := HK2.out; have := HJ7.out; have := HK4.out; omega
                case rel => exact ⟨(false), (wrap64 (x8_4 + 1)), zb_, zb_, H', ⟨zid_⟩, ⟨zr HO_3.out⟩, ⟨zb BK265.out⟩, ⟨zb BK269.out⟩, ⟨zdd_⟩⟩
               ·replace c28 := Bool.eq_false_iff.mpr c28
                subst c28; have H1 : (impl_primesOf.l2 k4 x3_2 x4_1 x5_2 x7_4 (wrap64 (x8_4 + 1)) a0_0 l0_1 x4_1 x5_2) = some r := by rw [if_neg (show ¬ (false = true) by decide)] at H; exact H
                clear H; have H := H1; clear H1; have H' := aM H; clear H; have hnb33 := NB265_269.out; have hnc33 := NB269_265.out; have hcz34_0 : wr.cell? ⟨gb265, 0, none⟩ = some (.int .i64 a0_0) := (blk_cell BK265.out 0).trans rfl; have hcz34_1 : wr.cell? ⟨gb265, 1, none⟩ = some (.slice A0_1 l0_1.length c0_1) := (blk_cell BK265.out 1).trans rfl; have hfz34_0 := blk_frozen BK265.out 0; have hfz34_1 := blk_frozen BK265.out 1; (try go_wp2); have n_ := z (kD HO_3.out) <| z (blk_drew BK265.out) <| z (blk_drew BK269.out) <| z1 (p1 HB.out)
                clear HO_3 BK265 BK269 HB; obtain ⟨HO_3, BK265, BK269, HB⟩ := n_
                refine start_ (n := 18) (S := fun w' => w'.cell? ⟨gb265, 0, none⟩ = some (.int .i64 a0_0) ∧ w'.cell? ⟨gb265, 1, none⟩ = some (.slice A0_1 l0_1.length c0_1)) (ds := []) #[fi,fi,fi,fi,fi,fi,fi,fi,fi,fi,fi,fi,fi,fi,fi,fi,fi,fi] (by kernel_rfl) rfl rfl ⟨(blk_cell BK265.out 0).trans rfl, (blk_cell BK265.out 1).trans rfl⟩ (fun hHeld => ?_); refine with_tabW impl_primesOf.tab14 impl_primesOf.bits14 (fun HT_ HW_ => ?_)
                generalize wr.drew = w35 at HO_3 BK265 BK269 HB hHeld ⊢; refine py_ 0 41 HT_.out ?_; refine py_ 1 42 HT_.out ?_; refine py_ 2 43 HT_.out ?_; refine py_ 3 44 HT_.out ?_; refine py_ 4 45 HT_.out ?_; refine py_ 5 46 HT_.out ?_; refine py_ 7 48 HT_.out ?_; refine py_ 8 49 HT_.out ?_; refine py_ 9 50 HT_.out ?_; refine py_ 10 51 HT_.out ?_; refine py_ 11 52 HT_.out ?_; refine py_ 12 53 HT_.out ?_; refine py_ 13 54 HT_.out ?_; refine py_ 14 55 HT_.out ?_; refine py_ 15 56 HT_.out ?_
                refine take_ (i := 6) (N := some 47) (v := ?_) (a' := ?_) #[ti,ti,ti,ti,ti,ti,ti,ti,ti,ti,ti,ti,ti,ti,ti,ti,fi,fi] rfl rfl (take_ofW HT_.out HW_.out (by kernel_rfl)) (fun _ _ _ h => h) (Or.inl ⟨by rfl, ?_⟩) hHeld ?_ ?_
                rotate_left
                ·rintro w' ⟨s0, s1⟩
                 go_simp
                 with_reducible rfl
                rotate_left
                ·simp only [Act.put, sI, s0, sS, i64_w, i32_w]
                 rfl
                refine one_ (i := 16) (N := some 57) #[ti,ti,ti,ti,ti,ti,ti,ti,ti,ti,ti,ti,ti,ti,ti,ti,ti,fi] rfl rfl (one_of HT_.out (by kernel_rfl)) (by decide) (fun K hK => ?_)
                refine goes_ Try.func140 (by kernel_rfl) rfl #[.agg #[.int .i64 a0_0, .slice A0_1 l0_1.length c0_1], .agg #[.int .i64 (Go.bits .andNot .i64 x4_1 (ji24)), .int .i64 (Go.bits .andNot .i64 x5_2 (ji24))]] (by rfl) rfl rfl (by (try simp only [mT, mC, mN]); first | done | (simp only [hji24]; rfl) | rfl | (simp only [lD, lT]; rfl)) ?_
                with_reducible refine (impl_implies.calls k4 a0_0 _ _ l0_1 (Go.bits .andNot .i64 x4_1 (ji24)) (Go.bits .andNot .i64 x5_2 (ji24)) false _ ?side1 ?side2 A27.out).mono ?_
                (case side1 => exact zi_)
                (case side2 => exact HC0_1.out)
                rintro e w36 ⟨rfl, hb⟩
                refine ⟨_, rfl, ?_⟩
                have n_ := z (Kd.R_below (zr HO_3.out) hb) <| z (blk_below (zb BK265.out) hb) <| z (blk_below (zb BK269.out) hb) <| z1 (below_step zdd_ hb)
                clear HO_3 BK265 BK269 HB; obtain ⟨HO_3, BK265, BK269, HB⟩ := n_; (try clear hb); (try clear hb2); (try clear hk); (try clear hi)
                refine hK.out _ _ ⟨(blk_cell BK265.out 0).trans rfl, (blk_cell BK265.out 1).trans rfl⟩ (fun hHeld => ?_)
                clear hK K
                refine norm_ (a' := ?_) ?_ ?_
                rotate_left
                ·show Act.put _ (some 57) _ = _
                 simp only [Act.put, sI, s0, sS, i64_w, i32_w]
                 rfl
                refine py_ 17 58 HT_.out ?_
                refine done_ (done_of HT_.out (by kernel_rfl)) ?_
                (try go_wp2)
                go_roundg k4
                case measure => have := HK1.out; have := HK2.out; have := HJ7.out; have := HK4.out; omega
                case rel => exact ⟨(x7_4), (wrap64 (x8_4 + 1)), zb_, zb_, H', ⟨zid_⟩, ⟨zr HO_3.out⟩, ⟨zb BK265.out⟩, ⟨zb BK269.out⟩, ⟨zdd_⟩⟩
              ·rw [if_neg c22] at H
               have c22b0 := beq_eq_false_iff_ne.mpr c22; have c22b1 := bne_iff_ne.mpr c22; have H' := aM H; clear H; have hnb37 := NB265_269.out; have hnc37 := NB269_265.out; have hcz38_0 : wr.cell? ⟨gb265, 0, none⟩ = some (.int .i64 a0_0) := (blk_cell BK265.out 0).trans rfl; have hcz38_1 : wr.cell? ⟨gb265, 1, none⟩ = some (.slice A0_1 l0_1.length c0_1) := (blk_cell BK265.out 1).trans rfl; have hfz38_0 := blk_frozen BK265.out 0; have hfz38_1 := blk_frozen BK265.out 1; (try go_wp2); have n_ := z (kD HO_3.out) <| z (blk_drew BK265.out) <| z (blk_drew BK269.out) <| z1 (p1 HB.out)
               clear HO_3 BK265 BK269 HB; obtain ⟨HO_3, BK265, BK269, HB⟩ := n_
               refine start_ (n := 18) (S := fun w' => True) (ds := []) #[fi,fi,fi,fi,fi,fi,fi,fi,fi,fi,fi,fi,fi,fi,fi,fi,fi,fi] (by kernel_rfl) rfl rfl trivial (fun hHeld => ?_); refine with_tabW impl_primesOf.tab14 impl_primesOf.bits14 (fun HT_ HW_ => ?_)
               generalize wr.drew = w39 at HO_3 BK265 BK269 HB hHeld ⊢; refine py_ 0 41 HT_.out ?_; refine py_ 1 42 HT_.out ?_; refine py_ 2 43 HT_.out ?_; refine py_ 3 44 HT_.out ?_; refine py_ 4 45 HT_.out ?_; refine py_ 5 46 HT_.out ?_; refine pu_ 6 47 HT_.out ?_; refine pu_ 7 48 HT_.out ?_; refine pu_ 8 49 HT_.out ?_; refine pu_ 9 50 HT_.out ?_; refine pu_ 10 51 HT_.out ?_; refine pu_ 11 52 HT_.out ?_; refine pu_ 12 53 HT_.out ?_; refine pu_ 13 54 HT_.out ?_; refine pu_ 14 55 HT_.out ?_; refine pu_ 15 56 HT_.out ?_; refine pu_ 16 57 HT_.out ?_; refine py_ 17 58 HT_.out ?_
               refine done_ (done_of HT_.out (by kernel_rfl)) ?_
               (try go_wp2)
               go_roundg k4
               case measure => have := HK1.out; have := HK2.out; have := HJ7.out; have := HK4.out; omega
               case rel => exact ⟨(x7_4), (wrap64 (x8_4 + 1)), zb_, zb_, H', ⟨zid_⟩, ⟨zr HO_3.out⟩, ⟨zb BK265.out⟩, ⟨zb BK269.out⟩, ⟨zdd_⟩⟩
             ·rw [if_neg c20] at H
              exact absurd H (by simp)
            ·rw [if_neg c19] at H
             have c19b0 := decide_eq_false c19; clear c19
             by_cases c40 : x7_4 = true
             ·subst c40
              have H1 : (if x3_2.length < 8796093022208 then (impl_primesOf.l1 k4 (x3_2 ++ [(⟨x4_1, x5_2⟩ : S72)]) x4_1 (wrap64 (x5_2 + 1)) a0_0 l0_1) else (none)) = some r := by rw [if_pos rfl] at H; exact H
              clear H; have H := H1; clear H1
              by_cases c41 : x3_2.length < 8796093022208
              ·rw [if_pos c41] at H
               have LMc41 := aM c41; clear c41; obtain ⟨y272, hy272⟩ : ∃ y_ : List (S72), y_ = (x3_2 ++ [(⟨x4_1, x5_2⟩ : S72)]) := ⟨_, rfl⟩; replace H : (impl_primesOf.l1 k4 y272 x4_1 (wrap64 (x5_2 + 1)) a0_0 l0_1) = some r := by first | (rw [hy272]; with_reducible exact H) | (have H2_ := (oS _ _).symm.trans H; rw [hy272]; with_reducible exact H2_) | (have H2_ := (oS _ _).symm.trans H; with_reducible exact H2_) | with_reducible exact H | (rw [hy272]; exact H) | exact H
               have Ny272 := aM hy272; clear hy272; have H' := aM H; clear H; have hnb42 := NB265_269.out; have hnc42 := NB269_265.out; have hcz43_0 : wr.cell? ⟨gb265, 0, none⟩ = some (.int .i64 a0_0) := (blk_cell BK265.out 0).trans rfl; have hcz43_1 : wr.cell? ⟨gb265, 1, none⟩ = some (.slice A0_1 l0_1.length c0_1) := (blk_cell BK265.out 1).trans rfl; have hfz43_0 := blk_frozen BK265.out 0; have hfz43_1 := blk_frozen BK265.out 1; have hcz44_0 : wr.cell? ⟨gb269, 0, none⟩ = some (.int .i64 x4_1) := (blk_cell BK269.out 0).trans rfl; have hcz44_1 : wr.cell? ⟨gb269, 1, none⟩ = some (.int .i64 x5_2) := (blk_cell BK269.out 1).trans rfl; have hfz44_0 := blk_frozen BK269.out 0; have hfz44_1 := blk_frozen BK269.out 1
               go_wp2_with (first | ((with_reducible refine gate_builtin (b := .append) (xs := #[.tmp 60, .tmp 62]) rfl ?_); at_builtin; refine Kd.R_append k72 (w0 := w) w.heap.size rfl (.tmp 60) (.tmp 62) 68 72 (.agg #[(.int .i64 0), (.int .i64 0)]) 16 rfl Try.underlying68 info72 rfl (by decide) (by omega) u3 x3_2 (⟨x4_1, x5_2⟩ : S72) [.int .i64 x4_1, .int .i64 x5_2] (fun k_ => k_ ≠ gb269) (fun _ => False) rfl rfl ?aP (fun _ hk => hk.elim) ?aF ?aO ?aB ?aS ?aL ?_; (case aP => exact k72_mkM _ _ _ (⟨x4_1, x5_2⟩ : S72)); (case aB => exact zdd_); (case aF => exact (fun k_ hk => Kd.freshB (g := gb269) (o := .cells #[.int .i64 x4_1, .int .i64 x5_2] 72 (0, 0)) (zb BK269.out) k_ hk)); (case aO => exact (zr HO_3.out)); (case aS => exact (below_size zdd_)); (case aL => have := LMc41.out; omega); intro v273 w45 ho hb hg hat; rw [← Ny272.out] at ho; have n_ := z (blk_grown (g := gb265) (o := .cells #[.int .i64 a0_0, .slice A0_1 l0_1.length c0_1] 60 (0, 0)) (zb BK265.out) hg (Kd.R_ne HO_3.out BK265.out (by decide))) <| z (blk_grown (g := gb269) (o := .cells #[.int .i64 x4_1, .int .i64 x5_2] 72 (0, 0)) (zb BK269.out) hg (Kd.R_away HO_3.out (fun _ hk => hk))) <| z (hb) <| z1 (ho); clear BK265 BK269 HB HO_3; obtain ⟨BK265, BK269, HB, HO274⟩ := n_; clear ho hb hg hat))
               go_roundg k4
               case measure => have := HK1.out; have := HK2.out; have := HJ7.out; have := HK4.out; omega
               case rel => exact ⟨(y272), (wrap64 (x5_2 + 1)), zb_, H', ⟨zid_⟩, ⟨by refine zr ?_; exact Kd.R_mono HO274.out (fun _ hk => trivial)⟩, ⟨zb BK265.out⟩, ⟨zdd_⟩⟩
              ·rw [if_neg c41] at H
               exact absurd H (by simp)
             ·replace c40 := Bool.eq_false_iff.mpr c40
              subst c40; have H1 : (impl_primesOf.l1 k4 x3_2 x4_1 (wrap64 (x5_2 + 1)) a0_0 l0_1) = some r := by rw [if_neg (show ¬ (false = true) by decide)] at H; exact H
              clear H; have H := H1; clear H1; have H' := aM H; clear H; have hnb46 := NB265_269.out; have hnc46 := NB269_265.out; have hcz47_0 : wr.cell? ⟨gb265, 0, none⟩ = some (.int .i64 a0_0) := (blk_cell BK265.out 0).trans rfl; have hcz47_1 : wr.cell? ⟨gb265, 1, none⟩ = some (.slice A0_1 l0_1.length c0_1) := (blk_cell BK265.out 1).trans rfl; have hfz47_0 := blk_frozen BK265.out 0; have hfz47_1 := blk_frozen BK265.out 1
              go_wp2
              go_roundg k4
              case measure => have := HK1.out; have := HK2.out; have := HJ7.out; have := HK4.out; omega
              case rel => exact ⟨(x3_2), (wrap64 (x5_2 + 1)), zb_, H', ⟨zid_⟩, ⟨zjc_⟩, ⟨zb BK265.out⟩, ⟨zdd_⟩⟩
      ·rw [if_neg c7] at H
       have c7b0 := decide_eq_false c7; clear c7; have H' := aM H; clear H
       go_wp2
       go_roundg k2
       case measure => have := HK1.out; have := HK2.out; omega
       case rel => exact ⟨(x3_2), (wrap64 (x4_1 + 1)), zb_, H', ⟨zci_⟩, ⟨zr HO_3.out⟩, ⟨zb BK265.out⟩, ⟨zef_⟩⟩
   ·rw [if_neg c5] at H
    have c5b0 := decide_eq_false c5; clear c5; obtain rfl := Option.some.inj H; have hcz48_0 : wr.cell? ⟨gb265, 0, none⟩ = some (.int .i64 a0_0) := (blk_cell BK265.out 0).trans rfl; have hcz48_1 : wr.cell? ⟨gb265, 1, none⟩ = some (.slice A0_1 l0_1.length c0_1) := (blk_cell BK265.out 1).trans rfl; have hfz48_0 := blk_frozen BK265.out 0; have hfz48_1 := blk_frozen BK265.out 1
    go_wp2
    go_ret
    exact ⟨_, zf_, by refine zr ?_; exact HO_3.out, zef_⟩
end Go.Proofs.Ytbkighlfgaifeaa.QFnLeastSums
