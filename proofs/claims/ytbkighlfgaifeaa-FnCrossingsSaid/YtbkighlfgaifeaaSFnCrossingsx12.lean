/- Functions of FnCrossings, each as a Lean function, with the proof that the Go code comes to its answers. -/
import Derived.Test.YtbkighlfgaifeaaSFnCrossingsx0
import Derived.Test.YtbkighlfgaifeaaSFnCrossingsx1
import Derived.Test.YtbkighlfgaifeaaSFnCrossingsx11
namespace Go.Proofs.Ytbkighlfgaifeaa.QFnCrossings
open Go.RowKit Go.Proofs.YtbkighlfgaifeaaW.PrintWords Go.Proofs.YtbkighlfgaifeaaW.PrintLast Go.Proofs.YtbkighlfgaifeaaW.PrintMore
open Go.Proofs.YtbkighlfgaifeaaW.PrintWords renaming pw_below_drewN → pN, below_drew1 → p1, below_alloc → pA
open Go.Proofs.YtbkighlfgaifeaaW.PrintWords.Kd renaming R_alloc → kA, R_drewN → kN, R_drew → kD, Q_alloc → qA, Q_drewN → qN, Q_drew → qD, C_alloc → cA, C_drewN → cN, C_drew → cD
open Go.Proofs.YtbkighlfgaifeaaW.PrintWords.Aside0 renaming mk → aM
open List renaming setIfInBounds_toArray → sI, set_cons_zero → s0, set_cons_succ → sS, map_toArray → mT, length_take → lT, length_drop → lD, map_cons → mC, map_nil → mN
open Option renaming bind_eq_some_iff → oB, bind_some → oS
attribute [local go_sem] max2_int min2_int max_two min_two max_three min_three max_four min_four
set_option maxHeartbeats 8000000
set_option maxRecDepth 100000
set_option linter.unusedVariables false
set_option linter.unusedSimpArgs false
def spec_DrawLevelWires.f (l0 : List Int) : Option (Int × (List (S57)) × List Int × Int) := (spec_l1Cur_anyCircuit.f l0 0 0).bind fun bt257 => ((spec_l1Cur_among.f l0 bt257.2.2.2.1 bt257.2.2.2.2 (([0, 0, 1, 1, 2, 3, (-1)] : List Int))).bind fun bt269 => (some (bt257.1, bt257.2.1, bt257.2.2.1, bt269.1)))
theorem spec_DrawLevelWires.calls (A0 : Option Addr) (c0 : Nat) (l0 : List Int) (r1 : Int) (r2 : List (S57)) (r3 : List Int) (r4 : Int) (w : World) (hr0 : Kd.C (Kd.int .u8) w A0 l0.length l0) (hc0 : l0.length ≤ c0) (h : spec_DrawLevelWires.f l0 = some (r1, r2, r3, r4)) :
  Calls Try.prog 70 #[.slice A0 l0.length c0] w fun e w' => ∃ v1_ v2_ : Value, e = .returned (.tuple #[.agg #[.int .i64 r1, v1_, v2_], .int .i64 r4]) ∧ Kd.R k57 57 w' w.heap.size (fun _ => True) v1_ r2 ∧ Kd.R (Kd.int .i64) 3 w' w.heap.size (fun _ => True) v2_ r3 ∧ Below w.heap.size w w' := by
 have hu49 := Try.underlying49
 have hu111 := Try.underlying111
 have HR0 := aM hr0
 have HC0 := aM hc0
 clear hr0 hc0
 have HB := aM (Below.refl w.heap.size w)
 have H : ((spec_l1Cur_anyCircuit.f l0 0 0).bind fun bt257 => ((spec_l1Cur_among.f l0 bt257.2.2.2.1 bt257.2.2.2.2 (([0, 0, 1, 1, 2, 3, (-1)] : List Int))).bind fun bt269 => (some (bt257.1, bt257.2.1, bt257.2.2.1, bt269.1)))) = some (r1, r2, r3, r4) := h
 clear h
 replace H := oB.mp H
 obtain ⟨⟨t257, t258, t261, t264, t265⟩, A20, H⟩ := H
 replace H : ((spec_l1Cur_among.f l0 t264 t265 (([0, 0, 1, 1, 2, 3, (-1)] : List Int))).bind fun bt269 => (some (t257, t258, t261, bt269.1))) = some (r1, r2, r3, r4) := H
 have A2 := aM A20
 clear A20
 obtain ⟨y266, hy266⟩ : ∃ y_ : List Int, y_ = (([0, 0, 1, 1, 2, 3, (-1)] : List Int)) := ⟨_, rfl⟩
 replace H : ((spec_l1Cur_among.f l0 t264 t265 y266).bind fun bt269 => (some (t257, t258, t261, bt269.1))) = some (r1, r2, r3, r4) := by first | (rw [hy266]; with_reducible exact H) | (have H2_ := (oS _ _).symm.trans H; rw [hy266]; with_reducible exact H2_) | (have H2_ := (oS _ _).symm.trans H; with_reducible exact H2_) | with_reducible exact H | (rw [hy266]; exact H) | exact H
 have Ny266 := aM hy266
 clear hy266
 replace H := oB.mp H
 obtain ⟨⟨t269, t270, t271⟩, A30, H⟩ := H
 replace H : (some (t257, t258, t261, t269)) = some (r1, r2, r3, r4) := H
 have A3 := aM A30
 clear A30
 simp only [Option.some.injEq, Prod.mk.injEq] at H
 obtain ⟨rfl, rfl, rfl, rfl⟩ := H
 go_enter Try.func70, Try.ntmps70
 go_wp2_with (first | ((with_reducible refine gate_dst (N := 2) rfl ?_); refine box_event ?hg (N := 2) ?hd (cs := #[.int .i64 0, .slice none 0 0, .slice none 0 0]) (t := 49) ?hr ?_; (case hd => rfl); (case hg => rfl); (case hr => exact ze_); intro gb255 hg w4 hbox hb; have n_ := z (below_step zc_ hb) <| z (hbox) <| z ((by rw [hg]; exact (below_size zc_) : w.heap.size ≤ gb255)) <| z1 ((by rw [hg]; exact (below_size zc_) : w.heap.size ≤ gb255)); clear HB; obtain ⟨HB, BK255, GW255, GE255⟩ := n_; clear hb hbox hg) | ((with_reducible refine gate_dst (N := 7) rfl ?_); refine box_event ?hg (N := 7) ?hd (cs := #[.slice A0 l0.length c0, .int .i64 0, .int .u64 0]) (t := 111) ?hr ?_; (case hd => rfl); (case hg => rfl); (case hr => exact ze_); intro gb256 hg w5 hbox hb; have n_ := z (blk_below (zb BK255.out) hb) <| z (below_step zfd_ hb) <| z ((by rw [hg]; exact (below_size zfd_) : w.heap.size ≤ gb256)) <| z ((by rw [hg]; exact (below_size zfd_) : w.heap.size ≤ gb256)) <| z ((by rw [hg]; exact Nat.ne_of_lt (blk_lt (zb BK255.out)) : gb255 ≠ gb256)) <| z ((by rw [hg]; exact Nat.ne_of_gt (blk_lt (zb BK255.out)) : gb256 ≠ gb255)) <| z1 ((⟨_, _, hbox, (by rw [hg]; exact (below_size zfd_) : w.heap.size ≤ gb256), HR0.out⟩ : IsS111 w w5 gb256 l0 0 0)); clear BK255 HB; obtain ⟨BK255, HB, GW256, GE256, NB255_256, NB256_255, HI256⟩ := n_; clear hb hbox hg) | ((with_reducible refine gate_callee (f := 128) rfl ?_); refine goesL_ (some 9) rfl rfl Try.func128 (by kernel_rfl) rfl #[.pointer (some ⟨gb256, 0, none⟩)] rfl zd_ ?_; (with_reducible refine (spec_l1Cur_anyCircuit.calls gb256 l0 0 0 t257 t258 t261 t264 t265 w _ ?side1 ?side2 A2.out).mono ?_); (case side1 => exact zdj_); (case side2 => exact zdd_); rintro e w6 ⟨v259, v262, rfl, ho0, ho1, hi, hb, hk⟩; refine ⟨_, rfl, ?_⟩; have n_ := z (KeepBut.blk hk (zb BK255.out) NB255_256.out (by simp)) <| z (Kd.R_lower ho0 (below_size zdd_)) <| z (Kd.R_lower ho1 (below_size zdd_)) <| z (hb) <| z1 (hi); clear BK255 HB HI256; obtain ⟨BK255, HO260, HO263, HB, HI256⟩ := n_; clear hb hk hi; (try clear ho0); (try clear ho1)) | ((with_reducible refine gate_dst (N := 11) rfl ?_); refine Kd.R_lit (Kd.int .i64) _ 3 ?hg (N := 11) ?hd (xs := ([0, 0, 1, 1, 2, 3, (-1)] : List Int)) (inner := [.int .i64 0, .int .i64 0, .int .i64 1, .int .i64 1, .int .i64 2, .int .i64 3, .int .i64 (-1)]) (ok := fun _ => True) (okp := fun _ => True) ?hr ?hp (fun _ hk => hk) trivial (Below.refl _ _) (Nat.le_refl _) (by simp) ?_; (case hd => rfl); (case hg => rfl); (case hr => exact ze_); (case hp => exact (Reps.one (show Kd.M (Kd.int .i64) _ _ _ 0 [.int .i64 0] from rfl) (Reps.one (show Kd.M (Kd.int .i64) _ _ _ 0 [.int .i64 0] from rfl) (Reps.one (show Kd.M (Kd.int .i64) _ _ _ 1 [.int .i64 1] from rfl) (Reps.one (show Kd.M (Kd.int .i64) _ _ _ 1 [.int .i64 1] from rfl) (Reps.one (show Kd.M (Kd.int .i64) _ _ _ 2 [.int .i64 2] from rfl) (Reps.one (show Kd.M (Kd.int .i64) _ _ _ 3 [.int .i64 3] from rfl) (Reps.one (show Kd.M (Kd.int .i64) _ _ _ (-1) [.int .i64 (-1)] from rfl) (Reps.none _ _))))))))); intro v267 w7 ho8 hb hg_ hnew_; clear hg_ hnew_; (first | rw [← Ny266.out] at ho8 | (simp only [Int.reduceToNat] at ho8; rw [← Ny266.out] at ho8)); have n_ := z (Kd.R_below (zr HO260.out) hb) <| z (Kd.R_elder' (zr HO263.out) (Kd.R_base ho8) hb) <| z (Kd.R_lower (Kd.R_new' ho8 (Kd.R_lt (zr HO263.out))) (below_size zdd_)) <| z (blk_below (zb BK255.out) hb) <| z (IsS111.below zdj_ hb) <| z1 (below_step zdd_ hb); clear HO260 HO263 BK255 HI256 HB; obtain ⟨HO260, HO263, HO268, BK255, HI256, HB⟩ := n_; clear hb ho8; obtain ⟨Ao9, co9, eo9⟩ := Kd.R_slice HO268.out; subst eo9) | ((with_reducible refine gate_callee (f := 110) rfl ?_); refine goesL_ (some 12) rfl rfl Try.func110 (by kernel_rfl) rfl #[.pointer (some ⟨gb256, 0, none⟩), .slice Ao9 y266.length co9] rfl zd_ ?_; (with_reducible refine (spec_l1Cur_among.calls gb256 l0 t264 t265 _ _ y266 t269 t270 t271 w _ ?side1 ?side2 ?side3 ?side4 ?side5 A3.out).mono ?_); (case side1 => exact zdj_); (case side2 => exact zdd_); (case side3 => repeat (first | exact (Kd.R_reads' HO268.out).2.2 | (with_reducible refine cA ?_ _) | (with_reducible refine cN ?_ _) | (with_reducible refine cD ?_))); (case side4 => exact (Kd.R_reads' HO268.out).2.1); (case side5 => exact far_slice (IsS111.own_ne HI256.out HO268.out (by decide))); rintro e w10 ⟨rfl, hi, hb, hk⟩; refine ⟨_, rfl, ?_⟩; have n_ := z (KeepBut.blk hk (zb BK255.out) NB255_256.out (by simp)) <| z (Kd.R_mono (Kd.R_keep (IsS111.apart (show IsS111 w _ gb256 l0 t264 t265 from zdj_) (zr HO260.out) (by decide)) hk (fun _ h => h.2)) (fun _ h => h.1)) <| z (Kd.R_mono (Kd.R_keep (IsS111.apart (show IsS111 w _ gb256 l0 t264 t265 from zdj_) (zr HO263.out) (by decide)) hk (fun _ h => h.2)) (fun _ h => h.1)) <| z (Kd.R_mono (Kd.R_keep (IsS111.apart (show IsS111 w _ gb256 l0 t264 t265 from zdj_) (zr HO268.out) (by decide)) hk (fun _ h => h.2)) (fun _ h => h.1)) <| z (hb) <| z1 (hi); clear BK255 HO260 HO263 HO268 HB HI256; obtain ⟨BK255, HO260, HO263, HO268, HB, HI256⟩ := n_; clear hb hk hi; have hnb11 := NB255_256.out; have hnc11 := NB256_255.out; have hcz12_0 : w10.cell? ⟨gb255, 0, none⟩ = some (.int .i64 0) := (blk_cell BK255.out 0).trans rfl; have hcz12_1 : w10.cell? ⟨gb255, 1, none⟩ = some (.slice none 0 0) := (blk_cell BK255.out 1).trans rfl; have hcz12_2 : w10.cell? ⟨gb255, 2, none⟩ = some (.slice none 0 0) := (blk_cell BK255.out 2).trans rfl; have hfz12_0 := blk_frozen BK255.out 0; have hfz12_1 := blk_frozen BK255.out 1; have hfz12_2 := blk_frozen BK255.out 2; obtain ⟨Ao13, co13, eo13⟩ := Kd.R_slice HO260.out; subst eo13; obtain ⟨Ao14, co14, eo14⟩ := Kd.R_slice HO263.out; subst eo14))
 refine bodyPost_ret (results_ct rfl _ _ gb255 49 #[.int .i64 t257, .slice Ao13 t258.length co13, .slice Ao14 t261.length co14] (0, 0) _ rfl (by refine zb ?_; refine blk_put (cs := #[.int .i64 t257, .slice Ao13 t258.length co13, .slice none 0 0]) ?_ 2 _ rfl; refine zb ?_; refine blk_put (cs := #[.int .i64 t257, .slice none 0 0, .slice none 0 0]) ?_ 1 _ rfl; refine zb ?_; refine blk_put (cs := #[.int .i64 0, .slice none 0 0, .slice none 0 0]) ?_ 0 _ rfl; refine zb ?_; exact BK255.out) Try.underlying49 rfl (by kernel_rfl)) rfl ?_
 exact ⟨_, _, zg_, by refine zr ?_; exact Kd.R_mono (Kd.R_far (p := ⟨gb255, 2, none⟩) (Kd.R_far (p := ⟨gb255, 1, none⟩) (Kd.R_far (p := ⟨gb255, 0, none⟩) (Kd.R_types HO260.out BK255.out (by decide)) (fun _ hk => hk.2) (.int .i64 t257)) (fun _ hk => hk.2) (.slice Ao13 t258.length co13)) (fun _ hk => hk.2) (.slice Ao14 t261.length co14)) (fun _ hk => trivial), by refine zr ?_; exact Kd.R_mono (Kd.R_far (p := ⟨gb255, 2, none⟩) (Kd.R_far (p := ⟨gb255, 1, none⟩) (Kd.R_far (p := ⟨gb255, 0, none⟩) (Kd.R_types HO263.out BK255.out (by decide)) (fun _ hk => hk.2) (.int .i64 t257)) (fun _ hk => hk.2) (.slice Ao13 t258.length co13)) (fun _ hk => hk.2) (.slice Ao14 t261.length co14)) (fun _ hk => trivial), zdd_⟩
mutual
def impl_IsCircuit.j0 : Nat → Bool → Int → List (S57) → List Int → Option (Bool)
 | 0, _, _, _, _ => none
 | k + 1, x32, x273000, x273001, x273002 => if x32 = true then (some false) else (impl_IsCircuit.l0 k x273001 (x273001.length : Int) 0 x273000 x273001 x273002)
def impl_IsCircuit.l0 : Nat → List (S57) → Int → Int → Int → List (S57) → List Int → Option (Bool)
 | 0, _, _, _, _, _, _ => none
 | k + 1, x34, x35, x36, x273000, x273001, x273002 => if x36 < x35 then (if 0 ≤ x36 then (if x36 < (x34.length : Int) then (if ((rd_T57 x34 x36).f0) < 1 then (some false) else (if ((rd_T57 x34 x36).f0) > 4 then (some false) else (if ((rd_T57 x34 x36).f1) < 0 then (some false) else (if ((rd_T57 x34 x36).f1) ≥ (wrap64 (x273000 + x36)) then (some false) else (if ((rd_T57 x34 x36).f2) < 0 then (some false) else (if ((rd_T57 x34 x36).f2) ≥ (wrap64 (x273000 + x36)) then (some false) else (if ((rd_T57 x34 x36).f0) = 4 then (if ((rd_T57 x34 x36).f1) = ((rd_T57 x34 x36).f2) then (impl_IsCircuit.l0 k x34 x35 (wrap64 (x36 + 1)) x273000 x273001 x273002) else (some false)) else (impl_IsCircuit.l0 k x34 x35 (wrap64 (x36 + 1)) x273000 x273001 x273002)))))))) else (none)) else (none)) else (impl_IsCircuit.l1 k x273002 (x273002.length : Int) 0 x273000 x273001 x273002)
def impl_IsCircuit.l1 : Nat → List Int → Int → Int → Int → List (S57) → List Int → Option (Bool)
 | 0, _, _, _, _, _, _ => none
 | k + 1, x91, x92, x93, x273000, x273001, x273002 => if x93 < x92 then (if 0 ≤ x93 then (if x93 < (x91.length : Int) then (if (rd x91 x93) < 0 then (some false) else (if (rd x91 x93) ≥ (wrap64 (x273000 + (x273001.length : Int))) then (some false) else (impl_IsCircuit.l1 k x91 x92 (wrap64 (x93 + 1)) x273000 x273001 x273002))) else (none)) else (none)) else (some true)
end
def impl_IsCircuit.f (k : Nat) (a0_0 : Int) (l0_1 : List (S57)) (l0_2 : List Int) : Option (Bool) := if a0_0 < 0 then (impl_IsCircuit.j0 k true a0_0 l0_1 l0_2) else (if a0_0 > 4 then (impl_IsCircuit.j0 k true a0_0 l0_1 l0_2) else (if (l0_1.length : Int) > 16 then (impl_IsCircuit.j0 k true a0_0 l0_1 l0_2) else (if (l0_2.length : Int) < 1 then (impl_IsCircuit.j0 k true a0_0 l0_1 l0_2) else (impl_IsCircuit.j0 k (decide ((l0_2.length : Int) > 4)) a0_0 l0_1 l0_2))))
theorem impl_IsCircuit.calls (k : Nat) (a0_0 : Int) (A0_1 : Option Addr) (c0_1 : Nat) (l0_1 : List (S57)) (A0_2 : Option Addr) (c0_2 : Nat) (l0_2 : List Int) (r : Bool) (w : World) (hr0_1 : Kd.C k57 w A0_1 l0_1.length l0_1) (hc0_1 : l0_1.length ≤ c0_1) (hr0_2 : Kd.C (Kd.int .i64) w A0_2 l0_2.length l0_2) (hc0_2 : l0_2.length ≤ c0_2) (h : impl_IsCircuit.f k a0_0 l0_1 l0_2 = some r) :
  Calls Try.prog 118 #[.agg #[.int .i64 a0_0, .slice A0_1 l0_1.length c0_1, .slice A0_2 l0_2.length c0_2]] w fun e w' => e = .returned (.bool r) ∧ Below w.heap.size w w' := by
 have hu49 := Try.underlying49
 have hu57 := Try.underlying57
 have HR0_1 := aM hr0_1
 have HC0_1 := aM hc0_1
 clear hr0_1 hc0_1
 have HR0_2 := aM hr0_2
 have HC0_2 := aM hc0_2
 clear hr0_2 hc0_2
 have HB := aM (Below.refl w.heap.size w)
 have H : (if a0_0 < 0 then (impl_IsCircuit.j0 k true a0_0 l0_1 l0_2) else (if a0_0 > 4 then (impl_IsCircuit.j0 k true a0_0 l0_1 l0_2) else (if (l0_1.length : Int) > 16 then (impl_IsCircuit.j0 k true a0_0 l0_1 l0_2) else (if (l0_2.length : Int) < 1 then (impl_IsCircuit.j0 k true a0_0 l0_1 l0_2) else (impl_IsCircuit.j0 k (decide ((l0_2.length : Int) > 4)) a0_0 l0_1 l0_2))))) = some r := h
 clear h
 have HC2 := aM H
 clear H
 go_enter Try.func118, Try.ntmps118
 go_upto_region 1 with (first | ((with_reducible refine gate_dst (N := 1) rfl ?_); (try (refine gate_guard (by rfl) ?_; dsimp only)); refine box_event ?hg (N := 1) ?hd (cs := #[.int .i64 a0_0, .slice A0_1 l0_1.length c0_1, .slice A0_2 l0_2.length c0_2]) (t := 49) ?hr ?_; (case hd => rfl); (case hg => rfl); (case hr => exact ze_); intro gb272 hg w3 hbox hb; have n_ := z (below_step zc_ hb) <| z (hbox) <| z ((by rw [hg]; exact (below_size zc_) : w.heap.size ≤ gb272)) <| z1 ((by rw [hg]; exact (below_size zc_) : w.heap.size ≤ gb272)); clear HB; obtain ⟨HB, BK272, GW272, GE272⟩ := n_; clear hb hbox hg))
 (try simp only [Act.put, sI, s0, sS])
 go_cut [32] (fun v32 wc => ∃ (kq : Nat) (x32_1 : Bool), v32 = .bool x32_1 ∧ Aside0 (impl_IsCircuit.j0 kq x32_1 a0_0 l0_1 l0_2 = some r) ∧ Aside0 (kq ≤ k) ∧ Aside0 (wc.heap[gb272]? = some (.cells #[.int .i64 a0_0, (.slice A0_1 l0_1.length c0_1), (.slice A0_2 l0_2.length c0_2)] 49 (0, 0))) ∧ Aside0 (Below w.heap.size w wc))
 case first =>
  have H := HC2.out; clear HC2
  by_cases c4 : a0_0 < 0
  ·rw [if_pos c4] at H
   have c4b0 := decide_eq_true c4; clear c4; (first | rw [c4b0] | (simp only [i64_w, i32_w]; rw [c4b0]) | skip); have H' := aM H; clear H; have hcz5_0 : w3.cell? ⟨gb272, 0, none⟩ = some (.int .i64 a0_0) := (blk_cell BK272.out 0).trans rfl; have hcz5_1 : w3.cell? ⟨gb272, 1, none⟩ = some (.slice A0_1 l0_1.length c0_1) := (blk_cell BK272.out 1).trans rfl; have hcz5_2 : w3.cell? ⟨gb272, 2, none⟩ = some (.slice A0_2 l0_2.length c0_2) := (blk_cell BK272.out 2).trans rfl; have hfz5_0 := blk_frozen BK272.out 0; have hfz5_1 := blk_frozen BK272.out 1; have hfz5_2 := blk_frozen BK272.out 2
   go_wp2
   go_meet
   case rel => exact ⟨_, (true), zb_, H', ⟨zbf_⟩, ⟨zb BK272.out⟩, ⟨zi_⟩⟩
  ·rw [if_neg c4] at H
   have c4b0 := decide_eq_false c4; clear c4; (first | rw [c4b0] | (simp only [i64_w, i32_w]; rw [c4b0]) | skip)
   by_cases c6 : a0_0 > 4
   ·rw [if_pos c6] at H
    have c6b0 : decide (4 < a0_0) = true := decide_eq_true c6; clear c6; have H' := aM H; clear H; have hcz7_0 : w3.cell? ⟨gb272, 0, none⟩ = some (.int .i64 a0_0) := (blk_cell BK272.out 0).trans rfl; have hcz7_1 : w3.cell? ⟨gb272, 1, none⟩ = some (.slice A0_1 l0_1.length c0_1) := (blk_cell BK272.out 1).trans rfl; have hcz7_2 : w3.cell? ⟨gb272, 2, none⟩ = some (.slice A0_2 l0_2.length c0_2) := (blk_cell BK272.out 2).trans rfl; have hfz7_0 := blk_frozen BK272.out 0; have hfz7_1 := blk_frozen BK272.out 1; have hfz7_2 := blk_frozen BK272.out 2
    go_wp2
    go_meet
    case rel => exact ⟨_, (true), zb_, H', ⟨zbf_⟩, ⟨zb BK272.out⟩, ⟨zi_⟩⟩
   ·rw [if_neg c6] at H
    have c6b0 : decide (4 < a0_0) = false := decide_eq_false c6; clear c6
    by_cases c8 : (l0_1.length : Int) > 16
    ·rw [if_pos c8] at H
     have c8b0 : decide (16 < (l0_1.length : Int)) = true := decide_eq_true c8; have c8b1 : decide (16 < l0_1.length) = true := decide_eq_true (by omega); clear c8; have H' := aM H; clear H; have hcz9_0 : w3.cell? ⟨gb272, 0, none⟩ = some (.int .i64 a0_0) := (blk_cell BK272.out 0).trans rfl; have hcz9_1 : w3.cell? ⟨gb272, 1, none⟩ = some (.slice A0_1 l0_1.length c0_1) := (blk_cell BK272.out 1).trans rfl; have hcz9_2 : w3.cell? ⟨gb272, 2, none⟩ = some (.slice A0_2 l0_2.length c0_2) := (blk_cell BK272.out 2).trans rfl; have hfz9_0 := blk_frozen BK272.out 0; have hfz9_1 := blk_frozen BK272.out 1; have hfz9_2 := blk_frozen BK272.out 2
     go_wp2
     go_meet
     case rel => exact ⟨_, (true), zb_, H', ⟨zbf_⟩, ⟨zb BK272.out⟩, ⟨zi_⟩⟩
    ·rw [if_neg c8] at H
     have c8b0 : decide (16 < (l0_1.length : Int)) = false := decide_eq_false c8; have c8b1 : decide (16 < l0_1.length) = false := decide_eq_false (by omega); clear c8
     by_cases c10 : (l0_2.length : Int) < 1
     ·rw [if_pos c10] at H
      have c10b0 := decide_eq_true c10; have c10b1 : decide (l0_2.length < 1) = true := decide_eq_true (by omega); clear c10; have H' := aM H; clear H; have hcz11_0 : w3.cell? ⟨gb272, 0, none⟩ = some (.int .i64 a0_0) := (blk_cell BK272.out 0).trans rfl; have hcz11_1 : w3.cell? ⟨gb272, 1, none⟩ = some (.slice A0_1 l0_1.length c0_1) := (blk_cell BK272.out 1).trans rfl; have hcz11_2 : w3.cell? ⟨gb272, 2, none⟩ = some (.slice A0_2 l0_2.length c0_2) := (blk_cell BK272.out 2).trans rfl; have hfz11_0 := blk_frozen BK272.out 0; have hfz11_1 := blk_frozen BK272.out 1; have hfz11_2 := blk_frozen BK272.out 2
      go_wp2
      go_meet
      case rel => exact ⟨_, (true), zb_, H', ⟨zbf_⟩, ⟨zb BK272.out⟩, ⟨zi_⟩⟩
     ·rw [if_neg c10] at H
      have c10b0 := decide_eq_false c10; have c10b1 : decide (l0_2.length < 1) = false := decide_eq_false (by omega); clear c10; have H' := aM H; clear H; have hcz12_0 : w3.cell? ⟨gb272, 0, none⟩ = some (.int .i64 a0_0) := (blk_cell BK272.out 0).trans rfl; have hcz12_1 : w3.cell? ⟨gb272, 1, none⟩ = some (.slice A0_1 l0_1.length c0_1) := (blk_cell BK272.out 1).trans rfl; have hcz12_2 : w3.cell? ⟨gb272, 2, none⟩ = some (.slice A0_2 l0_2.length c0_2) := (blk_cell BK272.out 2).trans rfl; have hfz12_0 := blk_frozen BK272.out 0; have hfz12_1 := blk_frozen BK272.out 1; have hfz12_2 := blk_frozen BK272.out 2
      go_wp2
      go_meet
      case rel => exact ⟨_, (decide ((l0_2.length : Int) > 4)), zb_, H', ⟨zbf_⟩, ⟨zb BK272.out⟩, ⟨zi_⟩⟩
 case rest =>
  clear HC2; obtain ⟨kq, x32_1, rfl, HA, HJ1, BK272, HB⟩ := hcut
  cases kq with
  | zero => exact absurd HA.out (by simp [impl_IsCircuit.j0])
  | succ kj1 =>
   have H := HA.out; clear HA
   simp only [impl_IsCircuit.j0] at H
   by_cases c13 : x32_1 = true
   ·subst c13
    have H1 : (some false) = some r := by rw [if_pos rfl] at H; exact H
    clear H; have H := H1; clear H1; obtain rfl := Option.some.inj H
    go_wp2
    go_ret
    exact ⟨zg_, zi_⟩
   ·replace c13 := Bool.eq_false_iff.mpr c13
    subst c13; have H1 : (impl_IsCircuit.l0 kj1 l0_1 (l0_1.length : Int) 0 a0_0 l0_1 l0_2) = some r := by rw [if_neg (show ¬ (false = true) by decide)] at H; exact H
    clear H; have H := H1; clear H1; have H' := aM H; clear H; have hcz14_0 : wc.cell? ⟨gb272, 0, none⟩ = some (.int .i64 a0_0) := (blk_cell BK272.out 0).trans rfl; have hcz14_1 : wc.cell? ⟨gb272, 1, none⟩ = some (.slice A0_1 l0_1.length c0_1) := (blk_cell BK272.out 1).trans rfl; have hcz14_2 : wc.cell? ⟨gb272, 2, none⟩ = some (.slice A0_2 l0_2.length c0_2) := (blk_cell BK272.out 2).trans rfl; have hfz14_0 := blk_frozen BK272.out 0; have hfz14_1 := blk_frozen BK272.out 1; have hfz14_2 := blk_frozen BK272.out 2
    go_wp2
    go_loopg [36] kj1 (fun kq v36 w' => ∃ (x36_2 : Int), v36 = .int .i64 x36_2 ∧ Aside0 (impl_IsCircuit.l0 kq l0_1 (l0_1.length : Int) x36_2 a0_0 l0_1 l0_2 = some r) ∧ Aside0 (kq ≤ kj1) ∧ Aside0 (w'.heap[gb272]? = some (.cells #[.int .i64 a0_0, (.slice A0_1 l0_1.length c0_1), (.slice A0_2 l0_2.length c0_2)] 49 (0, 0))) ∧ Aside0 (Below w.heap.size w w'))
    case atStart => exact ⟨(0), zb_, H', ⟨Nat.le_refl _⟩, ⟨zb BK272.out⟩, ⟨zi_⟩⟩
    case round =>
     clear H'; (try clear hcz14_0); (try clear hcz14_1); (try clear hcz14_2); (try clear hfz14_0); (try clear hfz14_1); (try clear hfz14_2); obtain ⟨x36_2, rfl, HA, HK2, BK272, HB⟩ := hrel
     cases gk with
     | zero => exact absurd HA.out (by simp [impl_IsCircuit.l0])
     | succ k2 =>
      have H := HA.out; clear HA
      simp only [impl_IsCircuit.l0] at H
      by_cases c15 : x36_2 < (l0_1.length : Int)
      ·rw [if_pos c15] at H
       have c15b0 := decide_eq_true c15; clear c15
       by_cases c16 : 0 ≤ x36_2
       ·rw [if_pos c16] at H
        have c16b0 := decide_eq_true c16; clear c16
        by_cases c17 : x36_2 < (l0_1.length : Int)
        ·rw [if_pos c17] at H
         have c17b0 := decide_eq_true c17; clear c17
         by_cases c18 : ((rd_T57 l0_1 x36_2).f0) < 1
         ·rw [if_pos c18] at H
          have c18b0 := decide_eq_true c18; clear c18; obtain rfl := Option.some.inj H; have p273 : 0 ≤ (x36_2 : Int) := of_decide_eq_true za_; have q273 : x36_2 < (l0_1.length : Int) := of_decide_eq_true za_; obtain ⟨ad273, e273, hx273_0, hx273_1, hx273_2⟩ := at_T57 HR0_1.out x36_2 p273 q273
          cases e273
          (try (replace hx273_0 := (HB.out.cell (World.block_lt_of_cell? w _ hx273_0)).trans hx273_0)); (try (replace hx273_1 := (HB.out.cell (World.block_lt_of_cell? w _ hx273_1)).trans hx273_1)); (try (replace hx273_2 := (HB.out.cell (World.block_lt_of_cell? w _ hx273_2)).trans hx273_2)); replace p273 := eq_true p273; replace q273 := eq_true q273
          go_wp2_with (first | ((with_reducible refine gate_dst (N := 4) rfl ?_); (try (refine gate_guard (by rfl) ?_; dsimp only)); refine box_event ?hg (N := 4) ?hd (cs := #[.int .i64 0, .int .i64 0, .int .i64 0]) (t := 57) ?hr ?_; (case hd => rfl); (case hg => rfl); (case hr => exact ze_); intro gb274 hg w19 hbox hb; have n_ := z (blk_below (zb BK272.out) hb) <| z (below_step zi_ hb) <| z (hbox) <| z ((by rw [hg]; exact (below_size zi_) : w.heap.size ≤ gb274)) <| z ((by rw [hg]; exact (below_size zi_) : w.heap.size ≤ gb274)) <| z ((by rw [hg]; exact Nat.ne_of_lt (blk_lt (zb BK272.out)) : gb272 ≠ gb274)) <| z1 ((by rw [hg]; exact Nat.ne_of_gt (blk_lt (zb BK272.out)) : gb274 ≠ gb272)); clear BK272 HB; obtain ⟨BK272, HB, BK274, GW274, GE274, NB272_274, NB274_272⟩ := n_; clear hb hbox hg; have hnb20 := NB274_272.out; have hnc20 := NB272_274.out; have hcz21_0 : w19.cell? ⟨gb274, 0, none⟩ = some (.int .i64 0) := (blk_cell BK274.out 0).trans rfl; have hcz21_1 : w19.cell? ⟨gb274, 1, none⟩ = some (.int .i64 0) := (blk_cell BK274.out 1).trans rfl; have hcz21_2 : w19.cell? ⟨gb274, 2, none⟩ = some (.int .i64 0) := (blk_cell BK274.out 2).trans rfl; have hfz21_0 := blk_frozen BK274.out 0; have hfz21_1 := blk_frozen BK274.out 1; have hfz21_2 := blk_frozen BK274.out 2))
          go_ret
          exact ⟨zg_, zdc_⟩
         ·rw [if_neg c18] at H
          have c18b0 := decide_eq_false c18; clear c18
          by_cases c22 : ((rd_T57 l0_1 x36_2).f0) > 4
          ·rw [if_pos c22] at H
           have c22b0 : decide (4 < ((rd_T57 l0_1 x36_2).f0)) = true := decide_eq_true c22; clear c22; obtain rfl := Option.some.inj H; have p273 : 0 ≤ (x36_2 : Int) := of_decide_eq_true za_; have q273 : x36_2 < (l0_1.length : Int) := of_decide_eq_true za_; obtain ⟨ad273, e273, hx273_0, hx273_1, hx273_2⟩ := at_T57 HR0_1.out x36_2 p273 q273
           cases e273
           (try (replace hx273_0 := (HB.out.cell (World.block_lt_of_cell? w _ hx273_0)).trans hx273_0)); (try (replace hx273_1 := (HB.out.cell (World.block_lt_of_cell? w _ hx273_1)).trans hx273_1)); (try (replace hx273_2 := (HB.out.cell (World.block_lt_of_cell? w _ hx273_2)).trans hx273_2)); replace p273 := eq_true p273; replace q273 := eq_true q273
           go_wp2_with (first | ((with_reducible refine gate_dst (N := 4) rfl ?_); (try (refine gate_guard (by rfl) ?_; dsimp only)); refine box_event ?hg (N := 4) ?hd (cs := #[.int .i64 0, .int .i64 0, .int .i64 0]) (t := 57) ?hr ?_; (case hd => rfl); (case hg => rfl); (case hr => exact ze_); intro gb274 hg w23 hbox hb; have n_ := z (blk_below (zb BK272.out) hb) <| z (below_step zi_ hb) <| z (hbox) <| z ((by rw [hg]; exact (below_size zi_) : w.heap.size ≤ gb274)) <| z ((by rw [hg]; exact (below_size zi_) : w.heap.size ≤ gb274)) <| z ((by rw [hg]; exact Nat.ne_of_lt (blk_lt (zb BK272.out)) : gb272 ≠ gb274)) <| z1 ((by rw [hg]; exact Nat.ne_of_gt (blk_lt (zb BK272.out)) : gb274 ≠ gb272)); clear BK272 HB; obtain ⟨BK272, HB, BK274, GW274, GE274, NB272_274, NB274_272⟩ := n_; clear hb hbox hg; have hnb24 := NB274_272.out; have hnc24 := NB272_274.out; have hcz25_0 : w23.cell? ⟨gb274, 0, none⟩ = some (.int .i64 0) := (blk_cell BK274.out 0).trans rfl; have hcz25_1 : w23.cell? ⟨gb274, 1, none⟩ = some (.int .i64 0) := (blk_cell BK274.out 1).trans rfl; have hcz25_2 : w23.cell? ⟨gb274, 2, none⟩ = some (.int .i64 0) := (blk_cell BK274.out 2).trans rfl; have hfz25_0 := blk_frozen BK274.out 0; have hfz25_1 := blk_frozen BK274.out 1; have hfz25_2 := blk_frozen BK274.out 2))
           go_ret
           exact ⟨zg_, zdc_⟩
          ·rw [if_neg c22] at H
           have c22b0 : decide (4 < ((rd_T57 l0_1 x36_2).f0)) = false := decide_eq_false c22; clear c22
           by_cases c26 : ((rd_T57 l0_1 x36_2).f1) < 0
           ·rw [if_pos c26] at H
            have c26b0 := decide_eq_true c26; clear c26; obtain rfl := Option.some.inj H; have p273 : 0 ≤ (x36_2 : Int) := of_decide_eq_true za_; have q273 : x36_2 < (l0_1.length : Int) := of_decide_eq_true za_; obtain ⟨ad273, e273, hx273_0, hx273_1, hx273_2⟩ := at_T57 HR0_1.out x36_2 p273 q273
            cases e273
            (try (replace hx273_0 := (HB.out.cell (World.block_lt_of_cell? w _ hx273_0)).trans hx273_0)); (try (replace hx273_1 := (HB.out.cell (World.block_lt_of_cell? w _ hx273_1)).trans hx273_1)); (try (replace hx273_2 := (HB.out.cell (World.block_lt_of_cell? w _ hx273_2)).trans hx273_2)); replace p273 := eq_true p273; replace q273 := eq_true q273
            go_wp2_with (first | ((with_reducible refine gate_dst (N := 4) rfl ?_); (try (refine gate_guard (by rfl) ?_; dsimp only)); refine box_event ?hg (N := 4) ?hd (cs := #[.int .i64 0, .int .i64 0, .int .i64 0]) (t := 57) ?hr ?_; (case hd => rfl); (case hg => rfl); (case hr => exact ze_); intro gb274 hg w27 hbox hb; have n_ := z (blk_below (zb BK272.out) hb) <| z (below_step zi_ hb) <| z (hbox) <| z ((by rw [hg]; exact (below_size zi_) : w.heap.size ≤ gb274)) <| z ((by rw [hg]; exact (below_size zi_) : w.heap.size ≤ gb274)) <| z ((by rw [hg]; exact Nat.ne_of_lt (blk_lt (zb BK272.out)) : gb272 ≠ gb274)) <| z1 ((by rw [hg]; exact Nat.ne_of_gt (blk_lt (zb BK272.out)) : gb274 ≠ gb272)); clear BK272 HB; obtain ⟨BK272, HB, BK274, GW274, GE274, NB272_274, NB274_272⟩ := n_; clear hb hbox hg; have hnb28 := NB274_272.out; have hnc28 := NB272_274.out; have hcz29_0 : w27.cell? ⟨gb274, 0, none⟩ = some (.int .i64 0) := (blk_cell BK274.out 0).trans rfl; have hcz29_1 : w27.cell? ⟨gb274, 1, none⟩ = some (.int .i64 0) := (blk_cell BK274.out 1).trans rfl; have hcz29_2 : w27.cell? ⟨gb274, 2, none⟩ = some (.int .i64 0) := (blk_cell BK274.out 2).trans rfl; have hfz29_0 := blk_frozen BK274.out 0; have hfz29_1 := blk_frozen BK274.out 1; have hfz29_2 := blk_frozen BK274.out 2))
            go_ret
            exact ⟨zg_, zdc_⟩
           ·rw [if_neg c26] at H
            have c26b0 := decide_eq_false c26; clear c26
            by_cases c30 : ((rd_T57 l0_1 x36_2).f1) ≥ (wrap64 (a0_0 + x36_2))
            ·rw [if_pos c30] at H
             have c30b0 : decide ((wrap64 (a0_0 + x36_2)) ≤ ((rd_T57 l0_1 x36_2).f1)) = true := decide_eq_true c30; clear c30; obtain rfl := Option.some.inj H; have p273 : 0 ≤ (x36_2 : Int) := of_decide_eq_true za_; have q273 : x36_2 < (l0_1.length : Int) := of_decide_eq_true za_; obtain ⟨ad273, e273, hx273_0, hx273_1, hx273_2⟩ := at_T57 HR0_1.out x36_2 p273 q273
             cases e273
             (try (replace hx273_0 := (HB.out.cell (World.block_lt_of_cell? w _ hx273_0)).trans hx273_0)); (try (replace hx273_1 := (HB.out.cell (World.block_lt_of_cell? w _ hx273_1)).trans hx273_1)); (try (replace hx273_2 := (HB.out.cell (World.block_lt_of_cell? w _ hx273_2)).trans hx273_2)); replace p273 := eq_true p273; replace q273 := eq_true q273
             go_wp2_with (first | ((with_reducible refine gate_dst (N := 4) rfl ?_); (try (refine gate_guard (by rfl) ?_; dsimp only)); refine box_event ?hg (N := 4) ?hd (cs := #[.int .i64 0, .int .i64 0, .int .i64 0]) (t := 57) ?hr ?_; (case hd => rfl); (case hg => rfl); (case hr => exact ze_); intro gb274 hg w31 hbox hb; have n_ := z (blk_below (zb BK272.out) hb) <| z (below_step zi_ hb) <| z (hbox) <| z ((by rw [hg]; exact (below_size zi_) : w.heap.size ≤ gb274)) <| z ((by rw [hg]; exact (below_size zi_) : w.heap.size ≤ gb274)) <| z ((by rw [hg]; exact Nat.ne_of_lt (blk_lt (zb BK272.out)) : gb272 ≠ gb274)) <| z1 ((by rw [hg]; exact Nat.ne_of_gt (blk_lt (zb BK272.out)) : gb274 ≠ gb272)); clear BK272 HB; obtain ⟨BK272, HB, BK274, GW274, GE274, NB272_274, NB274_272⟩ := n_; clear hb hbox hg; have hnb32 := NB274_272.out; have hnc32 := NB272_274.out; have hcz33_0 : w31.cell? ⟨gb274, 0, none⟩ = some (.int .i64 0) := (blk_cell BK274.out 0).trans rfl; have hcz33_1 : w31.cell? ⟨gb274, 1, none⟩ = some (.int .i64 0) := (blk_cell BK274.out 1).trans rfl; have hcz33_2 : w31.cell? ⟨gb274, 2, none⟩ = some (.int .i64 0) := (blk_cell BK274.out 2).trans rfl; have hfz33_0 := blk_frozen BK274.out 0; have hfz33_1 := blk_frozen BK274.out 1; have hfz33_2 := blk_frozen BK274.out 2; have hcz34_0 : w31.cell? ⟨gb272, 0, none⟩ = some (.int .i64 a0_0) := (blk_cell BK272.out 0).trans rfl; have hcz34_1 : w31.cell? ⟨gb272, 1, none⟩ = some (.slice (some ad273) l0_1.length c0_1) := (blk_cell BK272.out 1).trans rfl; have hcz34_2 : w31.cell? ⟨gb272, 2, none⟩ = some (.slice A0_2 l0_2.length c0_2) := (blk_cell BK272.out 2).trans rfl; have hfz34_0 := blk_frozen BK272.out 0; have hfz34_1 := blk_frozen BK272.out 1; have hfz34_2 := blk_frozen BK272.out 2))
             go_ret
             exact ⟨zg_, zdc_⟩
            ·rw [if_neg c30] at H
             have c30b0 : decide ((wrap64 (a0_0 + x36_2)) ≤ ((rd_T57 l0_1 x36_2).f1)) = false := decide_eq_false c30; clear c30
             by_cases c35 : ((rd_T57 l0_1 x36_2).f2) < 0
             ·rw [if_pos c35] at H
              have c35b0 := decide_eq_true c35; clear c35; obtain rfl := Option.some.inj H; have p273 : 0 ≤ (x36_2 : Int) := of_decide_eq_true za_; have q273 : x36_2 < (l0_1.length : Int) := of_decide_eq_true za_; obtain ⟨ad273, e273, hx273_0, hx273_1, hx273_2⟩ := at_T57 HR0_1.out x36_2 p273 q273
              cases e273
              (try (replace hx273_0 := (HB.out.cell (World.block_lt_of_cell? w _ hx273_0)).trans hx273_0)); (try (replace hx273_1 := (HB.out.cell (World.block_lt_of_cell? w _ hx273_1)).trans hx273_1)); (try (replace hx273_2 := (HB.out.cell (World.block_lt_of_cell? w _ hx273_2)).trans hx273_2)); replace p273 := eq_true p273; replace q273 := eq_true q273
              go_wp2_with (first | ((with_reducible refine gate_dst (N := 4) rfl ?_); (try (refine gate_guard (by rfl) ?_; dsimp only)); refine box_event ?hg (N := 4) ?hd (cs := #[.int .i64 0, .int .i64 0, .int .i64 0]) (t := 57) ?hr ?_; (case hd => rfl); (case hg => rfl); (case hr => exact ze_); intro gb274 hg w36 hbox hb; have n_ := z (blk_below (zb BK272.out) hb) <| z (below_step zi_ hb) <| z (hbox) <| z ((by rw [hg]; exact (below_size zi_) : w.heap.size ≤ gb274)) <| z ((by rw [hg]; exact (below_size zi_) : w.heap.size ≤ gb274)) <| z ((by rw [hg]; exact Nat.ne_of_lt (blk_lt (zb BK272.out)) : gb272 ≠ gb274)) <| z1 ((by rw [hg]; exact Nat.ne_of_gt (blk_lt (zb BK272.out)) : gb274 ≠ gb272)); clear BK272 HB; obtain ⟨BK272, HB, BK274, GW274, GE274, NB272_274, NB274_272⟩ := n_; clear hb hbox hg; have hnb37 := NB274_272.out; have hnc37 := NB272_274.out; have hcz38_0 : w36.cell? ⟨gb274, 0, none⟩ = some (.int .i64 0) := (blk_cell BK274.out 0).trans rfl; have hcz38_1 : w36.cell? ⟨gb274, 1, none⟩ = some (.int .i64 0) := (blk_cell BK274.out 1).trans rfl; have hcz38_2 : w36.cell? ⟨gb274, 2, none⟩ = some (.int .i64 0) := (blk_cell BK274.out 2).trans rfl; have hfz38_0 := blk_frozen BK274.out 0; have hfz38_1 := blk_frozen BK274.out 1; have hfz38_2 := blk_frozen BK274.out 2; have hcz39_0 : w36.cell? ⟨gb272, 0, none⟩ = some (.int .i64 a0_0) := (blk_cell BK272.out 0).trans rfl; have hcz39_1 : w36.cell? ⟨gb272, 1, none⟩ = some (.slice (some ad273) l0_1.length c0_1) := (blk_cell BK272.out 1).trans rfl; have hcz39_2 : w36.cell? ⟨gb272, 2, none⟩ = some (.slice A0_2 l0_2.length c0_2) := (blk_cell BK272.out 2).trans rfl; have hfz39_0 := blk_frozen BK272.out 0; have hfz39_1 := blk_frozen BK272.out 1; have hfz39_2 := blk_frozen BK272.out 2))
              go_ret
              exact ⟨zg_, zdc_⟩
             ·rw [if_neg c35] at H
              have c35b0 := decide_eq_false c35; clear c35
              by_cases c40 : ((rd_T57 l0_1 x36_2).f2) ≥ (wrap64 (a0_0 + x36_2))
              ·rw [if_pos c40] at H
               have c40b0 : decide ((wrap64 (a0_0 + x36_2)) ≤ ((rd_T57 l0_1 x36_2).f2)) = true := decide_eq_true c40; clear c40; obtain rfl := Option.some.inj H; have p273 : 0 ≤ (x36_2 : Int) := of_decide_eq_true za_; have q273 : x36_2 < (l0_1.length : Int) := of_decide_eq_true za_; obtain ⟨ad273, e273, hx273_0, hx273_1, hx273_2⟩ := at_T57 HR0_1.out x36_2 p273 q273
               cases e273
               (try (replace hx273_0 := (HB.out.cell (World.block_lt_of_cell? w _ hx273_0)).trans hx273_0)); (try (replace hx273_1 := (HB.out.cell (World.block_lt_of_cell? w _ hx273_1)).trans hx273_1)); (try (replace hx273_2 := (HB.out.cell (World.block_lt_of_cell? w _ hx273_2)).trans hx273_2)); replace p273 := eq_true p273; replace q273 := eq_true q273
               go_wp2_with (first | ((with_reducible refine gate_dst (N := 4) rfl ?_); (try (refine gate_guard (by rfl) ?_; dsimp only)); refine box_event ?hg (N := 4) ?hd (cs := #[.int .i64 0, .int .i64 0, .int .i64 0]) (t := 57) ?hr ?_; (case hd => rfl); (case hg => rfl); (case hr => exact ze_); intro gb274 hg w41 hbox hb; have n_ := z (blk_below (zb BK272.out) hb) <| z (below_step zi_ hb) <| z (hbox) <| z ((by rw [hg]; exact (below_size zi_) : w.heap.size ≤ gb274)) <| z ((by rw [hg]; exact (below_size zi_) : w.heap.size ≤ gb274)) <| z ((by rw [hg]; exact Nat.ne_of_lt (blk_lt (zb BK272.out)) : gb272 ≠ gb274)) <| z1 ((by rw [hg]; exact Nat.ne_of_gt (blk_lt (zb BK272.out)) : gb274 ≠ gb272)); clear BK272 HB; obtain ⟨BK272, HB, BK274, GW274, GE274, NB272_274, NB274_272⟩ := n_; clear hb hbox hg; have hnb42 := NB274_272.out; have hnc42 := NB272_274.out; have hcz43_0 : w41.cell? ⟨gb274, 0, none⟩ = some (.int .i64 0) := (blk_cell BK274.out 0).trans rfl; have hcz43_1 : w41.cell? ⟨gb274, 1, none⟩ = some (.int .i64 0) := (blk_cell BK274.out 1).trans rfl; have hcz43_2 : w41.cell? ⟨gb274, 2, none⟩ = some (.int .i64 0) := (blk_cell BK274.out 2).trans rfl; have hfz43_0 := blk_frozen BK274.out 0; have hfz43_1 := blk_frozen BK274.out 1; have hfz43_2 := blk_frozen BK274.out 2; have hcz44_0 : w41.cell? ⟨gb272, 0, none⟩ = some (.int .i64 a0_0) := (blk_cell BK272.out 0).trans rfl; have hcz44_1 : w41.cell? ⟨gb272, 1, none⟩ = some (.slice (some ad273) l0_1.length c0_1) := (blk_cell BK272.out 1).trans rfl; have hcz44_2 : w41.cell? ⟨gb272, 2, none⟩ = some (.slice A0_2 l0_2.length c0_2) := (blk_cell BK272.out 2).trans rfl; have hfz44_0 := blk_frozen BK272.out 0; have hfz44_1 := blk_frozen BK272.out 1; have hfz44_2 := blk_frozen BK272.out 2))
               go_ret
               exact ⟨zg_, zdc_⟩
              ·rw [if_neg c40] at H
               have c40b0 : decide ((wrap64 (a0_0 + x36_2)) ≤ ((rd_T57 l0_1 x36_2).f2)) = false := decide_eq_false c40; clear c40
               by_cases c45 : ((rd_T57 l0_1 x36_2).f0) = 4
               ·rw [if_pos c45] at H
                have c45b0 := beq_iff_eq.mpr c45; have c45b1 := bne_eq_false_iff_eq.mpr c45; clear c45
                by_cases c46 : ((rd_T57 l0_1 x36_2).f1) = ((rd_T57 l0_1 x36_2).f2)
                ·rw [if_pos c46] at H
                 have c46b0 := beq_iff_eq.mpr c46; have c46b1 := bne_eq_false_iff_eq.mpr c46; clear c46; have H' := aM H; clear H; have p273 : 0 ≤ (x36_2 : Int) := of_decide_eq_true za_; have q273 : x36_2 < (l0_1.length : Int) := of_decide_eq_true za_; obtain ⟨ad273, e273, hx273_0, hx273_1, hx273_2⟩ := at_T57 HR0_1.out x36_2 p273 q273
                 cases e273
                 (try (replace hx273_0 := (HB.out.cell (World.block_lt_of_cell? w _ hx273_0)).trans hx273_0)); (try (replace hx273_1 := (HB.out.cell (World.block_lt_of_cell? w _ hx273_1)).trans hx273_1)); (try (replace hx273_2 := (HB.out.cell (World.block_lt_of_cell? w _ hx273_2)).trans hx273_2)); replace p273 := eq_true p273; replace q273 := eq_true q273
                 go_wp2_with (first | ((with_reducible refine gate_dst (N := 4) rfl ?_); (try (refine gate_guard (by rfl) ?_; dsimp only)); refine box_event ?hg (N := 4) ?hd (cs := #[.int .i64 0, .int .i64 0, .int .i64 0]) (t := 57) ?hr ?_; (case hd => rfl); (case hg => rfl); (case hr => exact ze_); intro gb274 hg w47 hbox hb; have n_ := z (blk_below (zb BK272.out) hb) <| z (below_step zi_ hb) <| z (hbox) <| z ((by rw [hg]; exact (below_size zi_) : w.heap.size ≤ gb274)) <| z ((by rw [hg]; exact (below_size zi_) : w.heap.size ≤ gb274)) <| z ((by rw [hg]; exact Nat.ne_of_lt (blk_lt (zb BK272.out)) : gb272 ≠ gb274)) <| z1 ((by rw [hg]; exact Nat.ne_of_gt (blk_lt (zb BK272.out)) : gb274 ≠ gb272)); clear BK272 HB; obtain ⟨BK272, HB, BK274, GW274, GE274, NB272_274, NB274_272⟩ := n_; clear hb hbox hg; have hnb48 := NB274_272.out; have hnc48 := NB272_274.out; have hcz49_0 : w47.cell? ⟨gb274, 0, none⟩ = some (.int .i64 0) := (blk_cell BK274.out 0).trans rfl; have hcz49_1 : w47.cell? ⟨gb274, 1, none⟩ = some (.int .i64 0) := (blk_cell BK274.out 1).trans rfl; have hcz49_2 : w47.cell? ⟨gb274, 2, none⟩ = some (.int .i64 0) := (blk_cell BK274.out 2).trans rfl; have hfz49_0 := blk_frozen BK274.out 0; have hfz49_1 := blk_frozen BK274.out 1; have hfz49_2 := blk_frozen BK274.out 2; have hcz50_0 : w47.cell? ⟨gb272, 0, none⟩ = some (.int .i64 a0_0) := (blk_cell BK272.out 0).trans rfl; have hcz50_1 : w47.cell? ⟨gb272, 1, none⟩ = some (.slice (some ad273) l0_1.length c0_1) := (blk_cell BK272.out 1).trans rfl; have hcz50_2 : w47.cell? ⟨gb272, 2, none⟩ = some (.slice A0_2 l0_2.length c0_2) := (blk_cell BK272.out 2).trans rfl; have hfz50_0 := blk_frozen BK272.out 0; have hfz50_1 := blk_frozen BK272.out 1; have hfz50_2 := blk_frozen BK272.out 2))
                 go_roundg k2
                 case measure => have := HJ1.out; have := HK2.out; omega
                 case rel => exact ⟨(wrap64 (x36_2 + 1)), zb_, H', ⟨by have := HJ1.out; have := HK2.out; omega⟩, ⟨by refine zb ?_; refine blk_far ?_ NB272_274.out _; refine zb ?_; refine blk_far ?_ NB272_274.out _; refine zb ?_; refine blk_far ?_ NB272_274.out _; refine zb ?_; exact BK272.out⟩, ⟨zdc_⟩⟩
                ·rw [if_neg c46] at H
                 have c46b0 := beq_eq_false_iff_ne.mpr c46; have c46b1 := bne_iff_ne.mpr c46; obtain rfl := Option.some.inj H; have p273 : 0 ≤ (x36_2 : Int) := of_decide_eq_true za_; have q273 : x36_2 < (l0_1.length : Int) := of_decide_eq_true za_; obtain ⟨ad273, e273, hx273_0, hx273_1, hx273_2⟩ := at_T57 HR0_1.out x36_2 p273 q273
                 cases e273
                 (try (replace hx273_0 := (HB.out.cell (World.block_lt_of_cell? w _ hx273_0)).trans hx273_0)); (try (replace hx273_1 := (HB.out.cell (World.block_lt_of_cell? w _ hx273_1)).trans hx273_1)); (try (replace hx273_2 := (HB.out.cell (World.block_lt_of_cell? w _ hx273_2)).trans hx273_2)); replace p273 := eq_true p273; replace q273 := eq_true q273
                 go_wp2_with (first | ((with_reducible refine gate_dst (N := 4) rfl ?_); (try (refine gate_guard (by rfl) ?_; dsimp only)); refine box_event ?hg (N := 4) ?hd (cs := #[.int .i64 0, .int .i64 0, .int .i64 0]) (t := 57) ?hr ?_; (case hd => rfl); (case hg => rfl); (case hr => exact ze_); intro gb274 hg w51 hbox hb; have n_ := z (blk_below (zb BK272.out) hb) <| z (below_step zi_ hb) <| z (hbox) <| z ((by rw [hg]; exact (below_size zi_) : w.heap.size ≤ gb274)) <| z ((by rw [hg]; exact (below_size zi_) : w.heap.size ≤ gb274)) <| z ((by rw [hg]; exact Nat.ne_of_lt (blk_lt (zb BK272.out)) : gb272 ≠ gb274)) <| z1 ((by rw [hg]; exact Nat.ne_of_gt (blk_lt (zb BK272.out)) : gb274 ≠ gb272)); clear BK272 HB; obtain ⟨BK272, HB, BK274, GW274, GE274, NB272_274, NB274_272⟩ := n_; clear hb hbox hg; have hnb52 := NB274_272.out; have hnc52 := NB272_274.out; have hcz53_0 : w51.cell? ⟨gb274, 0, none⟩ = some (.int .i64 0) := (blk_cell BK274.out 0).trans rfl; have hcz53_1 : w51.cell? ⟨gb274, 1, none⟩ = some (.int .i64 0) := (blk_cell BK274.out 1).trans rfl; have hcz53_2 : w51.cell? ⟨gb274, 2, none⟩ = some (.int .i64 0) := (blk_cell BK274.out 2).trans rfl; have hfz53_0 := blk_frozen BK274.out 0; have hfz53_1 := blk_frozen BK274.out 1; have hfz53_2 := blk_frozen BK274.out 2; have hcz54_0 : w51.cell? ⟨gb272, 0, none⟩ = some (.int .i64 a0_0) := (blk_cell BK272.out 0).trans rfl; have hcz54_1 : w51.cell? ⟨gb272, 1, none⟩ = some (.slice (some ad273) l0_1.length c0_1) := (blk_cell BK272.out 1).trans rfl; have hcz54_2 : w51.cell? ⟨gb272, 2, none⟩ = some (.slice A0_2 l0_2.length c0_2) := (blk_cell BK272.out 2).trans rfl; have hfz54_0 := blk_frozen BK272.out 0; have hfz54_1 := blk_frozen BK272.out 1; have hfz54_2 := blk_frozen BK272.out 2))
                 go_ret
                 exact ⟨zg_, zdc_⟩
               ·rw [if_neg c45] at H
                have c45b0 := beq_eq_false_iff_ne.mpr c45; have c45b1 := bne_iff_ne.mpr c45; have H' := aM H; clear H; have p273 : 0 ≤ (x36_2 : Int) := of_decide_eq_true za_; have q273 : x36_2 < (l0_1.length : Int) := of_decide_eq_true za_; obtain ⟨ad273, e273, hx273_0, hx273_1, hx273_2⟩ := at_T57 HR0_1.out x36_2 p273 q273
                cases e273
                (try (replace hx273_0 := (HB.out.cell (World.block_lt_of_cell? w _ hx273_0)).trans hx273_0)); (try (replace hx273_1 := (HB.out.cell (World.block_lt_of_cell? w _ hx273_1)).trans hx273_1)); (try (replace hx273_2 := (HB.out.cell (World.block_lt_of_cell? w _ hx273_2)).trans hx273_2)); replace p273 := eq_true p273; replace q273 := eq_true q273
                go_wp2_with (first | ((with_reducible refine gate_dst (N := 4) rfl ?_); (try (refine gate_guard (by rfl) ?_; dsimp only)); refine box_event ?hg (N := 4) ?hd (cs := #[.int .i64 0, .int .i64 0, .int .i64 0]) (t := 57) ?hr ?_; (case hd => rfl); (case hg => rfl); (case hr => exact ze_); intro gb274 hg w55 hbox hb; have n_ := z (blk_below (zb BK272.out) hb) <| z (below_step zi_ hb) <| z (hbox) <| z ((by rw [hg]; exact (below_size zi_) : w.heap.size ≤ gb274)) <| z ((by rw [hg]; exact (below_size zi_) : w.heap.size ≤ gb274)) <| z ((by rw [hg]; exact Nat.ne_of_lt (blk_lt (zb BK272.out)) : gb272 ≠ gb274)) <| z1 ((by rw [hg]; exact Nat.ne_of_gt (blk_lt (zb BK272.out)) : gb274 ≠ gb272)); clear BK272 HB; obtain ⟨BK272, HB, BK274, GW274, GE274, NB272_274, NB274_272⟩ := n_; clear hb hbox hg; have hnb56 := NB274_272.out; have hnc56 := NB272_274.out; have hcz57_0 : w55.cell? ⟨gb274, 0, none⟩ = some (.int .i64 0) := (blk_cell BK274.out 0).trans rfl; have hcz57_1 : w55.cell? ⟨gb274, 1, none⟩ = some (.int .i64 0) := (blk_cell BK274.out 1).trans rfl; have hcz57_2 : w55.cell? ⟨gb274, 2, none⟩ = some (.int .i64 0) := (blk_cell BK274.out 2).trans rfl; have hfz57_0 := blk_frozen BK274.out 0; have hfz57_1 := blk_frozen BK274.out 1; have hfz57_2 := blk_frozen BK274.out 2; have hcz58_0 : w55.cell? ⟨gb272, 0, none⟩ = some (.int .i64 a0_0) := (blk_cell BK272.out 0).trans rfl; have hcz58_1 : w55.cell? ⟨gb272, 1, none⟩ = some (.slice (some ad273) l0_1.length c0_1) := (blk_cell BK272.out 1).trans rfl; have hcz58_2 : w55.cell? ⟨gb272, 2, none⟩ = some (.slice A0_2 l0_2.length c0_2) := (blk_cell BK272.out 2).trans rfl; have hfz58_0 := blk_frozen BK272.out 0; have hfz58_1 := blk_frozen BK272.out 1; have hfz58_2 := blk_frozen BK272.out 2))
                go_roundg k2
                case measure => have := HJ1.out; have := HK2.out; omega
                case rel => exact ⟨(wrap64 (x36_2 + 1)), zb_, H', ⟨by have := HJ1.out; have := HK2.out; omega⟩, ⟨by refine zb ?_; refine blk_far ?_ NB272_274.out _; refine zb ?_; refine blk_far ?_ NB272_274.out _; refine zb ?_; refine blk_far ?_ NB272_274.out _; refine zb ?_; exact BK272.out⟩, ⟨zdc_⟩⟩
        ·rw [if_neg c17] at H
         exact absurd H (by simp)
       ·rw [if_neg c16] at H
        exact absurd H (by simp)
      ·rw [if_neg c15] at H
       have c15b0 := decide_eq_false c15; clear c15; have H' := aM H; clear H; have hcz59_0 : wr.cell? ⟨gb272, 0, none⟩ = some (.int .i64 a0_0) := (blk_cell BK272.out 0).trans rfl; have hcz59_1 : wr.cell? ⟨gb272, 1, none⟩ = some (.slice A0_1 l0_1.length c0_1) := (blk_cell BK272.out 1).trans rfl; have hcz59_2 : wr.cell? ⟨gb272, 2, none⟩ = some (.slice A0_2 l0_2.length c0_2) := (blk_cell BK272.out 2).trans rfl; have hfz59_0 := blk_frozen BK272.out 0; have hfz59_1 := blk_frozen BK272.out 1; have hfz59_2 := blk_frozen BK272.out 2
       go_wp2
       go_loopg [93] k2 (fun kq v93 w' => ∃ (x93_3 : Int), v93 = .int .i64 x93_3 ∧ Aside0 (impl_IsCircuit.l1 kq l0_2 (l0_2.length : Int) x93_3 a0_0 l0_1 l0_2 = some r) ∧ Aside0 (kq ≤ k2) ∧ Aside0 (w'.heap[gb272]? = some (.cells #[.int .i64 a0_0, (.slice A0_1 l0_1.length c0_1), (.slice A0_2 l0_2.length c0_2)] 49 (0, 0))) ∧ Aside0 (Below w.heap.size w w'))
       case atStart => exact ⟨(0), zb_, H', ⟨Nat.le_refl _⟩, ⟨zb BK272.out⟩, ⟨zi_⟩⟩
       case round =>
        clear H'; (try clear c15b0); (try clear hcz59_0); (try clear hcz59_1); (try clear hcz59_2); (try clear hfz59_0); (try clear hfz59_1); (try clear hfz59_2); obtain ⟨x93_3, rfl, HA, HK3, BK272, HB⟩ := hrel
        cases gk with
        | zero => exact absurd HA.out (by simp [impl_IsCircuit.l1])
        | succ k3 =>
         have H := HA.out; clear HA
         simp only [impl_IsCircuit.l1] at H
         by_cases c60 : x93_3 < (l0_2.length : Int)
         ·rw [if_pos c60] at H
          have c60b0 := decide_eq_true c60; clear c60
          by_cases c61 : 0 ≤ x93_3
          ·rw [if_pos c61] at H
           have c61b0 := decide_eq_true c61; clear c61
           by_cases c62 : x93_3 < (l0_2.length : Int)
           ·rw [if_pos c62] at H
            have c62b0 := decide_eq_true c62; clear c62
            by_cases c63 : (rd l0_2 x93_3) < 0
            ·rw [if_pos c63] at H
             have c63b0 := decide_eq_true c63; clear c63; obtain rfl := Option.some.inj H; have p275 : 0 ≤ (x93_3 : Int) := of_decide_eq_true za_; have q275 : x93_3 < (l0_2.length : Int) := of_decide_eq_true za_; obtain ⟨ad275, e275, hx275_0⟩ := Kd.at_int HR0_2.out x93_3 p275 q275
             cases e275
             (try (replace hx275_0 := (HB.out.cell (World.block_lt_of_cell? w _ hx275_0)).trans hx275_0)); replace p275 := eq_true p275; replace q275 := eq_true q275
             go_wp2
             go_ret
             exact ⟨zg_, zi_⟩
            ·rw [if_neg c63] at H
             have c63b0 := decide_eq_false c63; clear c63
             by_cases c64 : (rd l0_2 x93_3) ≥ (wrap64 (a0_0 + (l0_1.length : Int)))
             ·rw [if_pos c64] at H
              have c64b0 : decide ((wrap64 (a0_0 + (l0_1.length : Int))) ≤ (rd l0_2 x93_3)) = true := decide_eq_true c64; clear c64; obtain rfl := Option.some.inj H; have p275 : 0 ≤ (x93_3 : Int) := of_decide_eq_true za_; have q275 : x93_3 < (l0_2.length : Int) := of_decide_eq_true za_; obtain ⟨ad275, e275, hx275_0⟩ := Kd.at_int HR0_2.out x93_3 p275 q275
              cases e275
              (try (replace hx275_0 := (HB.out.cell (World.block_lt_of_cell? w _ hx275_0)).trans hx275_0)); replace p275 := eq_true p275; replace q275 := eq_true q275; have hcz65_0 : wr.cell? ⟨gb272, 0, none⟩ = some (.int .i64 a0_0) := (blk_cell BK272.out 0).trans rfl; have hcz65_1 : wr.cell? ⟨gb272, 1, none⟩ = some (.slice A0_1 l0_1.length c0_1) := (blk_cell BK272.out 1).trans rfl; have hcz65_2 : wr.cell? ⟨gb272, 2, none⟩ = some (.slice (some ad275) l0_2.length c0_2) := (blk_cell BK272.out 2).trans rfl; have hfz65_0 := blk_frozen BK272.out 0; have hfz65_1 := blk_frozen BK272.out 1; have hfz65_2 := blk_frozen BK272.out 2
              go_wp2
              go_ret
              exact ⟨zg_, zi_⟩
             ·rw [if_neg c64] at H
              have c64b0 : decide ((wrap64 (a0_0 + (l0_1.length : Int))) ≤ (rd l0_2 x93_3)) = false := decide_eq_false c64; clear c64; have H' := aM H; clear H; have p275 : 0 ≤ (x93_3 : Int) := of_decide_eq_true za_; have q275 : x93_3 < (l0_2.length : Int) := of_decide_eq_true za_; obtain ⟨ad275, e275, hx275_0⟩ := Kd.at_int HR0_2.out x93_3 p275 q275
              cases e275
              (try (replace hx275_0 := (HB.out.cell (World.block_lt_of_cell? w _ hx275_0)).trans hx275_0)); replace p275 := eq_true p275; replace q275 := eq_true q275; have hcz66_0 : wr.cell? ⟨gb272, 0, none⟩ = some (.int .i64 a0_0) := (blk_cell BK272.out 0).trans rfl; have hcz66_1 : wr.cell? ⟨gb272, 1, none⟩ = some (.slice A0_1 l0_1.length c0_1) := (blk_cell BK272.out 1).trans rfl; have hcz66_2 : wr.cell? ⟨gb272, 2, none⟩ = some (.slice (some ad275) l0_2.length c0_2) := (blk_cell BK272.out 2).trans rfl; have hfz66_0 := blk_frozen BK272.out 0; have hfz66_1 := blk_frozen BK272.out 1; have hfz66_2 := blk_frozen BK272.out 2
              go_wp2
              go_roundg k3
              case measure => have := HJ1.out; have := HK2.out; have := HK3.out; omega
              case rel => exact ⟨(wrap64 (x93_3 + 1)), zb_, H', ⟨by have := HJ1.out; have := HK2.out; have := HK3.out; omega⟩, ⟨zb BK272.out⟩, ⟨zi_⟩⟩
           ·rw [if_neg c62] at H
            exact absurd H (by simp)
          ·rw [if_neg c61] at H
           exact absurd H (by simp)
         ·rw [if_neg c60] at H
          have c60b0 := decide_eq_false c60; clear c60; obtain rfl := Option.some.inj H
          go_wp2
          go_ret
          exact ⟨zg_, zi_⟩
end Go.Proofs.Ytbkighlfgaifeaa.QFnCrossings
