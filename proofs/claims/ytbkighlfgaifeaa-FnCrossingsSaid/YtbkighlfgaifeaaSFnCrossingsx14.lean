/- Functions of FnCrossings, each as a Lean function, with the proof that the Go code comes to its answers. -/
import Derived.Test.YtbkighlfgaifeaaSFnCrossingsx0
import Derived.Test.YtbkighlfgaifeaaSFnCrossingsx13
namespace Go.Proofs.Ytbkighlfgaifeaa.QFnCrossings
open Go.RowKit Go.Proofs.YtbkighlfgaifeaaW.PrintWords Go.Proofs.YtbkighlfgaifeaaW.PrintLast Go.Proofs.YtbkighlfgaifeaaW.PrintMore
open Go.Proofs.YtbkighlfgaifeaaW.PrintWords renaming pw_below_drewN → pN, below_drew1 → p1, below_alloc → pA
open Go.Proofs.YtbkighlfgaifeaaW.PrintWords.Kd renaming R_alloc → kA, R_drewN → kN, R_drew → kD, Q_alloc → qA, Q_drewN → qN, Q_drew → qD, C_alloc → cA, C_drewN → cN, C_drew → cD
open Go.Proofs.YtbkighlfgaifeaaW.PrintWords.Aside0 renaming mk → aM
open List renaming setIfInBounds_toArray → sI, set_cons_zero → s0, set_cons_succ → sS, map_toArray → mT, length_take → lT, length_drop → lD, map_cons → mC, map_nil → mN
open Option renaming bind_eq_some_iff → oB, bind_some → oS
attribute [local go_sem] max2_int min2_int max_two min_two max_three min_three max_four min_four
set_option maxHeartbeats 8000000
set_option maxRecDepth 100000
set_option linter.unusedVariables false
set_option linter.unusedSimpArgs false
mutual
def impl_levelsOf.l0 : Nat → List Int → List (List Int) → Int → Int → List (S57) → List Int → Option ((List (List Int)))
 | 0, _, _, _, _, _, _ => none
 | k + 1, x3, x5, x6, x299000, x299001, x299002 => if x6 < x299000 then (if 0 < (x5.length : Int) then (if (rd_L2 x5 0).length < 17592186044416 then (impl_levelsOf.l0 k x3 (x5.set (0 : Int).toNat ((rd_L2 x5 0) ++ [x6])) (wrap64 (x6 + 1)) x299000 x299001 x299002) else (none)) else (none)) else (impl_levelsOf.l1 k x5 x3 (x3.length : Int) 0 x299000 x299001 x299002)
def impl_levelsOf.l1 : Nat → List (List Int) → List Int → Int → Int → Int → List (S57) → List Int → Option ((List (List Int)))
 | 0, _, _, _, _, _, _, _ => none
 | k + 1, x5, x30, x31, x32, x299000, x299001, x299002 => if x32 < x31 then (if 0 ≤ x32 then (if x32 < (x30.length : Int) then (impl_levelsOf.l2 k x5 x32 (rd x30 x32) x30 x31 x32 x299000 x299001 x299002) else (none)) else (none)) else (some x5)
def impl_levelsOf.l2 : Nat → List (List Int) → Int → Int → List Int → Int → Int → Int → List (S57) → List Int → Option ((List (List Int)))
 | 0, _, _, _, _, _, _, _, _, _ => none
 | k + 1, x5, x7, x8, x30, x31, x32, x299000, x299001, x299002 => if x8 ≥ (x5.length : Int) then (if x5.length < 5864062014805 then (impl_levelsOf.l2 k (x5 ++ [[]]) x7 x8 x30 x31 x32 x299000 x299001 x299002) else (none)) else (if 0 ≤ x8 then (if x8 < (x5.length : Int) then (if (rd_L2 x5 x8).length < 17592186044416 then (impl_levelsOf.l1 k (x5.set (x8 : Int).toNat ((rd_L2 x5 x8) ++ [wrap64 (x299000 + x7)])) x30 x31 (wrap64 (x32 + 1)) x299000 x299001 x299002) else (none)) else (none)) else (none))
end
def impl_levelsOf.f (k : Nat) (a0_0 : Int) (l0_1 : List (S57)) (l0_2 : List Int) : Option ((List (List Int))) := (impl_GateDepths.f k a0_0 l0_1 l0_2).bind fun bt299 => (impl_levelsOf.l0 k bt299.1 (([(([] : List Int))] : List (List Int))) 0 a0_0 l0_1 l0_2)
def impl_levelsOf.T12 : Bool × List (List Nat × List Nat) := (true, [([], []), ([], []), ([], []), ([], []), ([2, 3], [2, 3]), ([4], [4]), ([], []), ([6], [6]), ([], []), ([7, 8], [7, 8]), ([9], [9]), ([5, 10], [5, 10]), ([0, 1, 0, 1, 2, 3, 4, 5, 6, 7, 8, 9, 10, 11], [0, 1]), ([12, 11, 11, 0, 1, 2, 3, 4, 5, 6, 7, 8, 9, 10, 11], [11, 12])])
def impl_levelsOf.B12 : List Nat := [0, 0, 0, 0, 12, 28, 0, 64, 0, 448, 960, 2044, 4095, 8191]
theorem impl_levelsOf.tab12 : rtab .any (opsOf Try.f155 12) = impl_levelsOf.T12 := by kernel_rfl
theorem impl_levelsOf.bits12 : waitsOk impl_levelsOf.T12.2 impl_levelsOf.B12 = true := by kernel_rfl
theorem impl_levelsOf.calls (k : Nat) (a0_0 : Int) (A0_1 : Option Addr) (c0_1 : Nat) (l0_1 : List (S57)) (A0_2 : Option Addr) (c0_2 : Nat) (l0_2 : List Int) (r : List (List Int)) (w : World) (hr0_1 : Kd.C k57 w A0_1 l0_1.length l0_1) (hc0_1 : l0_1.length ≤ c0_1) (hr0_2 : Kd.C (Kd.int .i64) w A0_2 l0_2.length l0_2) (hc0_2 : l0_2.length ≤ c0_2) (h : impl_levelsOf.f k a0_0 l0_1 l0_2 = some r) :
  Calls Try.prog 155 #[.agg #[.int .i64 a0_0, .slice A0_1 l0_1.length c0_1, .slice A0_2 l0_2.length c0_2]] w fun e w' => ∃ v0_ : Value, e = .returned (v0_) ∧ Kd.S (Kd.slice 3 (Kd.int .i64)) 24 w' w.heap.size (fun _ => True) v0_ r ∧ Below w.heap.size w w' := by
 have hu49 := Try.underlying49
 have HR0_1 := aM hr0_1
 have HC0_1 := aM hc0_1
 clear hr0_1 hc0_1
 have HR0_2 := aM hr0_2
 have HC0_2 := aM hc0_2
 clear hr0_2 hc0_2
 have HB := aM (Below.refl w.heap.size w)
 have H : ((impl_GateDepths.f k a0_0 l0_1 l0_2).bind fun bt299 => (impl_levelsOf.l0 k bt299.1 (([(([] : List Int))] : List (List Int))) 0 a0_0 l0_1 l0_2)) = some r := h
 clear h
 replace H := oB.mp H
 obtain ⟨⟨t299, t302⟩, A20, H⟩ := H
 replace H : (impl_levelsOf.l0 k t299 (([(([] : List Int))] : List (List Int))) 0 a0_0 l0_1 l0_2) = some r := H
 have A2 := aM A20
 clear A20
 obtain ⟨y303, hy303⟩ : ∃ y_ : List Int, y_ = (([] : List Int)) := ⟨_, rfl⟩
 replace H : (impl_levelsOf.l0 k t299 (([y303] : List (List Int))) 0 a0_0 l0_1 l0_2) = some r := by first | (rw [hy303]; with_reducible exact H) | (have H2_ := (oS _ _).symm.trans H; rw [hy303]; with_reducible exact H2_) | (have H2_ := (oS _ _).symm.trans H; with_reducible exact H2_) | with_reducible exact H | (rw [hy303]; exact H) | exact H
 have Ny303 := aM hy303
 clear hy303
 obtain ⟨y306, hy306⟩ : ∃ y_ : List (List Int), y_ = (([y303] : List (List Int))) := ⟨_, rfl⟩
 replace H : (impl_levelsOf.l0 k t299 y306 0 a0_0 l0_1 l0_2) = some r := by first | (rw [hy306]; with_reducible exact H) | (have H2_ := (oS _ _).symm.trans H; rw [hy306]; with_reducible exact H2_) | (have H2_ := (oS _ _).symm.trans H; with_reducible exact H2_) | with_reducible exact H | (rw [hy306]; exact H) | exact H
 have Ny306 := aM hy306
 clear hy306
 have H' := aM H
 clear H
 go_enter Try.func155, Try.ntmps155
 go_wp2_with (first | ((with_reducible refine gate_dst (N := 1) rfl ?_); refine box_event ?hg (N := 1) ?hd (cs := #[.int .i64 a0_0, .slice A0_1 l0_1.length c0_1, .slice A0_2 l0_2.length c0_2]) (t := 49) ?hr ?_; (case hd => rfl); (case hg => rfl); (case hr => exact ze_); intro gb298 hg w3 hbox hb; have n_ := z (below_step zc_ hb) <| z (hbox) <| z ((by rw [hg]; exact (below_size zc_) : w.heap.size ≤ gb298)) <| z1 ((by rw [hg]; exact (below_size zc_) : w.heap.size ≤ gb298)); clear HB; obtain ⟨HB, BK298, GW298, GE298⟩ := n_; clear hb hbox hg; have hcz4_0 : w3.cell? ⟨gb298, 0, none⟩ = some (.int .i64 a0_0) := (blk_cell BK298.out 0).trans rfl; have hcz4_1 : w3.cell? ⟨gb298, 1, none⟩ = some (.slice A0_1 l0_1.length c0_1) := (blk_cell BK298.out 1).trans rfl; have hcz4_2 : w3.cell? ⟨gb298, 2, none⟩ = some (.slice A0_2 l0_2.length c0_2) := (blk_cell BK298.out 2).trans rfl; have hfz4_0 := blk_frozen BK298.out 0; have hfz4_1 := blk_frozen BK298.out 1; have hfz4_2 := blk_frozen BK298.out 2) | ((with_reducible refine gate_callee (f := 27) rfl ?_); refine goesL_ (some 11) rfl rfl Try.func27 (by kernel_rfl) rfl #[.agg #[.int .i64 a0_0, .slice A0_1 l0_1.length c0_1, .slice A0_2 l0_2.length c0_2]] rfl zd_ ?_; (with_reducible refine (impl_GateDepths.calls k a0_0 _ _ l0_1 _ _ l0_2 t299 t302 _ ?side1 ?side2 ?side3 ?side4 A2.out).mono ?_); (case side1 => exact zbg_); (case side2 => exact HC0_1.out); (case side3 => exact zbh_); (case side4 => exact HC0_2.out); rintro e w5 ⟨v300, rfl, ho0, hb⟩; refine ⟨_, rfl, ?_⟩; have n_ := z (Kd.R_lower ho0 (below_size zce_)) <| z (blk_below (zb BK298.out) hb) <| z1 (below_step zce_ hb); clear BK298 HB; obtain ⟨HO301, BK298, HB⟩ := n_; clear hb; (try clear ho0)) | ((with_reducible refine gate_dst (N := 14) rfl ?_); refine Kd.R_lit (Kd.int .i64) _ 3 ?hg (N := 14) ?hd (xs := ([] : List Int)) (inner := []) (ok := fun _ => True) (okp := fun _ => True) ?hr ?hp (fun _ hk => hk) trivial (Below.refl _ _) (Nat.le_refl _) (by simp) ?_; (case hd => rfl); (case hg => rfl); (case hr => exact ze_); (case hp => exact (Reps.none _ _)); intro v304 w6 ho7 hb hg_ hnew_; clear hg_ hnew_; (first | rw [← Ny303.out] at ho7 | (simp only [Int.reduceToNat] at ho7; rw [← Ny303.out] at ho7)); have n_ := z (Kd.R_elder' (zr HO301.out) (Kd.R_base ho7) hb) <| z (Kd.R_lower (Kd.R_new' ho7 (Kd.R_lt (zr HO301.out))) (below_size zce_)) <| z (blk_below (zb BK298.out) hb) <| z1 (below_step zce_ hb); clear HO301 BK298 HB; obtain ⟨HO301, HO305, BK298, HB⟩ := n_; clear hb ho7; obtain ⟨Ao8, co8, eo8⟩ := Kd.R_slice HO305.out; subst eo8) | ((with_reducible refine gate_dst (N := 15) rfl ?_); refine S_lit1_ (Kd.slice 3 (Kd.int .i64)) _ 24 ?hg (N := 15) ?hd (x := y303) (inner := [.slice Ao8 y303.length co8]) ?hr ⟨_, rfl, (HO305.out)⟩ zce_ (below_size zce_) ?_; (case hd => rfl); (case hg => rfl); (case hr => exact ze_); intro v307 w9 ho10 hb hg_ hnew_; clear hg_ hnew_; (first | rw [← Ny306.out] at ho10 | (simp only [Int.reduceToNat] at ho10; rw [← Ny306.out] at ho10)); have n_ := z (Kd.R_below (zr HO301.out) hb) <| z (ho10 (fun k_ => True ∧ some k_ ≠ (v300 : Value).ownBlock) (fun k_ hk_ => hk_) ⟨trivial, Kd.fresh' (Kd.R_lt (zr HO301.out)) _ (Nat.le_refl _)⟩) <| z (blk_below (zb BK298.out) hb) <| z1 (below_step zce_ hb); clear HO301 BK298 HB HO305; obtain ⟨HO301, HO308, BK298, HB⟩ := n_; clear hb ho10))
 go_loopg [6] k (fun kq v6 w' => ∃ (x5_1 : List (List Int)) (x6_1 : Int), v6 = .int .i64 x6_1 ∧ Aside0 (impl_levelsOf.l0 kq t299 x5_1 x6_1 a0_0 l0_1 l0_2 = some r) ∧ Aside0 (kq ≤ k) ∧ Aside0 (Kd.R (Kd.int .i64) 3 w' w.heap.size (fun _ => True) v300 t299) ∧ Aside0 (Kd.S (Kd.slice 3 (Kd.int .i64)) 24 w' w.heap.size (fun k_ => some k_ ≠ (v300 : Value).ownBlock) v307 x5_1) ∧ Aside0 (w'.heap[gb298]? = some (.cells #[.int .i64 a0_0, (.slice A0_1 l0_1.length c0_1), (.slice A0_2 l0_2.length c0_2)] 49 (0, 0))) ∧ Aside0 (Below w.heap.size w w'))
 case atStart => exact ⟨(y306), (0), zb_, H', ⟨Nat.le_refl _⟩, ⟨by refine zr ?_; exact Kd.R_mono HO301.out (fun _ hk => trivial)⟩, ⟨by refine zs ?_; exact Kd.S_mono HO308.out (fun _ hk => hk.2)⟩, ⟨zb BK298.out⟩, ⟨zce_⟩⟩
 case round =>
  clear H'; (try clear hcz4_0); (try clear hcz4_1); (try clear hcz4_2); (try clear hfz4_0); (try clear hfz4_1); (try clear hfz4_2); obtain ⟨x5_1, x6_1, rfl, HA, HK1, HO_3, HO_5, BK298, HB⟩ := hrel
  cases gk with
  | zero => exact absurd HA.out (by simp [impl_levelsOf.l0])
  | succ k1 =>
   have H := HA.out; clear HA
   simp only [impl_levelsOf.l0] at H
   by_cases c11 : x6_1 < a0_0
   ·rw [if_pos c11] at H
    have c11b0 := decide_eq_true c11; clear c11
    by_cases c12 : 0 < (x5_1.length : Int)
    ·rw [if_pos c12] at H
     have c12b0 := decide_eq_true c12; have c12b1 : decide (0 < x5_1.length) = true := decide_eq_true (by omega); clear c12
     by_cases c13 : (rd_L2 x5_1 0).length < 17592186044416
     ·rw [if_pos c13] at H
      have LMc13 := aM c13; clear c13; obtain ⟨y310, hy310⟩ : ∃ y_ : List Int, y_ = ((rd_L2 x5_1 0) ++ [x6_1]) := ⟨_, rfl⟩; replace H : (impl_levelsOf.l0 k1 t299 (x5_1.set (0 : Int).toNat y310) (wrap64 (x6_1 + 1)) a0_0 l0_1 l0_2) = some r := by first | (rw [hy310]; with_reducible exact H) | (have H2_ := (oS _ _).symm.trans H; rw [hy310]; with_reducible exact H2_) | (have H2_ := (oS _ _).symm.trans H; with_reducible exact H2_) | with_reducible exact H | (rw [hy310]; exact H) | exact H
      have Ny310 := aM hy310; clear hy310; obtain ⟨y313, hy313⟩ : ∃ y_ : List (List Int), y_ = (x5_1.set (0 : Int).toNat y310) := ⟨_, rfl⟩; replace H : (impl_levelsOf.l0 k1 t299 y313 (wrap64 (x6_1 + 1)) a0_0 l0_1 l0_2) = some r := by first | (rw [hy313]; with_reducible exact H) | (have H2_ := (oS _ _).symm.trans H; rw [hy313]; with_reducible exact H2_) | (have H2_ := (oS _ _).symm.trans H; with_reducible exact H2_) | with_reducible exact H | (rw [hy313]; exact H) | exact H
      have Ny313 := aM hy313; clear hy313; have H' := aM H; clear H; have hcz15_0 : wr.cell? ⟨gb298, 0, none⟩ = some (.int .i64 a0_0) := (blk_cell BK298.out 0).trans rfl; have hcz15_1 : wr.cell? ⟨gb298, 1, none⟩ = some (.slice A0_1 l0_1.length c0_1) := (blk_cell BK298.out 1).trans rfl; have hcz15_2 : wr.cell? ⟨gb298, 2, none⟩ = some (.slice A0_2 l0_2.length c0_2) := (blk_cell BK298.out 2).trans rfl; have hfz15_0 := blk_frozen BK298.out 0; have hfz15_1 := blk_frozen BK298.out 1; have hfz15_2 := blk_frozen BK298.out 2; obtain ⟨Ao16, co16, eo16⟩ := Kd.S_slice HO_5.out; subst eo16; have p309 : 0 ≤ (0 : Int) := (by omega); have q309 : 0 < (x5_1.length : Int) := of_decide_eq_true za_; obtain ⟨ad309, A309_0, c309_0, e309, hx309_0, hl309_0, hi309_0⟩ := at_L2 (Kd.S_reads' HO_5.out).2.2 0 p309 q309
      cases e309
      obtain ⟨ce309, hce309, hMe309, hcc309⟩ := Kd.S_get HO_5.out [] 0 p309 (by first | exact q309 | exact of_decide_eq_true za_ | (have e_ := (Kd.S_reads' HO_5.out).1; omega)); obtain ⟨ve309_0, rfl, ge309_0⟩ := hMe309; have hv309_0 := hcc309 0 _ rfl; rw [Nat.add_zero, show ((Kd.slice 3 (Kd.int .i64))).sz = 1 from rfl, Nat.mul_one] at hv309_0; replace hv309_0 := Option.some.inj (hv309_0.symm.trans hx309_0); rw [hv309_0] at ge309_0; have HL309_0 := aM (show Kd.R (Kd.int .i64) 3 _ _ _ _ (rd_L2 x5_1 0) from ge309_0); clear hv309_0 ge309_0; have HX309_0 := aM hx309_0; clear hcc309 hce309; have qi309 : (0 < x5_1.length) = True := eq_true (by omega); (try rw [show ((0 : Int)).toNat = 0 from rfl] at hx309_0); (try rw [Addr.add_zero'] at hx309_0); have HR309_0 := aM hi309_0; have HC309_0 := aM hl309_0; clear hi309_0 hl309_0; replace p309 := eq_true p309; replace q309 := eq_true q309; obtain ⟨go17, co17, eo17, gb17, gl17, cl17, HG17⟩ := Kd.S_form HO_5.out (by have h_ : (0 : Int) < ((x5_1.length : Int) : Int) := of_decide_eq_true za_; have h2_ : 0 ≤ (0 : Int) := (by omega); omega); (first | cases eo17 | (injection eo17 with ea_ en_ ec_; (first | subst ea_ | (injection ea_ with ea_; subst ea_)); subst ec_; clear en_)); have GB17 := aM gb17; have GG17 := aM HG17; clear gb17 gl17 HG17; (first | simp only [add_plain] at hx309_0 | skip); obtain ⟨oki17, ce17, hcl17, hM17, hcc17, _, _, hH17⟩ := Kd.S_elem HO_5.out [] (0 : Int) (by omega) (by have h_ : (0 : Int) < ((x5_1.length : Int) : Int) := of_decide_eq_true za_; first | exact h_ | (have e_ := (Kd.S_reads' HO_5.out).1; omega) | simpa using h_); obtain ⟨ve17_0, rfl, ge17_0⟩ := hM17; have hv17 := hcc17 0 _ rfl; have hX17 := HX309_0.out; (try simp only [add_plain] at hX17); (try simp only [Nat.add_zero] at hv17); (try rw [show ((Kd.slice 3 (Kd.int .i64))).sz = 1 from rfl, Nat.mul_one] at hv17); replace hv17 := Option.some.inj (hv17.symm.trans hX17); subst hv17; clear hX17 hcc17 hcl17; have UU17 := aM (show Kd.R (Kd.int .i64) 3 _ w.heap.size oki17 (.slice A309_0 (rd_L2 x5_1 0).length c309_0) (rd_L2 x5_1 0) from ge17_0); have HH17 := aM hH17; have HN17 := aM (Kd.S_reads' HO_5.out).1; clear hH17 ge17_0
      go_wp2_with (first | ((with_reducible refine gate_builtin (b := .append) (xs := #[.tmp 25, .tmp 27]) rfl ?_); at_builtin; refine Kd.R_append (Kd.int .i64) (w0 := w) w.heap.size rfl (.tmp 25) (.tmp 27) 24 3 (.int .i64 0) 8 rfl Try.underlying24 info3 rfl (by decide) (by omega) (.slice A309_0 (rd_L2 x5_1 0).length c309_0) (rd_L2 x5_1 0) x6_1 [.int .i64 x6_1] (fun k_ => oki17 k_ ∨ ((fun k_ => some k_ ≠ (v300 : Value).ownBlock)) k_ ∧ wr.heap.size ≤ k_) (fun _ => False) rfl rfl ?aP (fun _ hk => hk.elim) ?aF ?aO ?aB ?aS ?aL ?_; (case aP => exact rfl); (case aB => exact zgg_); (case aF => exact (fun k_ hk => .inr ⟨Kd.fresh' (Kd.R_lt (zr HO_3.out)) k_ hk, hk⟩)); (case aO => exact (by refine zr ?_; exact Kd.R_mono UU17.out (fun _ hk => .inl hk))); (case aS => exact zgh_); (case aL => have := LMc13.out; omega); intro v311 w18 ho hb hg hat; rw [← Ny310.out] at ho; have n_ := z (Kd.R_grown2 (zr HO_3.out) rfl hg (fun k_ e_ => (HL309_0.out.1 k_ e_).1)) <| z (blk_grown (g := gb298) (o := .cells #[.int .i64 a0_0, .slice A0_1 l0_1.length c0_1, .slice A0_2 l0_2.length c0_2] 49 (0, 0)) (zb BK298.out) hg (Kd.R_ne HL309_0.out BK298.out (by decide))) <| z (hb) <| z (Kd.H_grown (Kd.H_widen (by repeat (first | exact HH17.out | refine Kd.H_alloc ?_ _ | refine Kd.H_drewN ?_ _ | refine Kd.H_drew ?_))) hg (fun k_ e_ => .inl (UU17.out.1 k_ e_))) <| z1 (ho); clear HO_3 BK298 HB HH17 HO_5 UU17 HL309_0; obtain ⟨HO_3, BK298, HB, HH17, HO312⟩ := n_; clear ho hb hg hat; have p14 : 0 ≤ (0 : Int) := (by omega); have q14 : (0 : Int) < ((x5_1.length : Int) : Int) := of_decide_eq_true za_; replace p14 := eq_true p14; replace q14 := eq_true q14; obtain ⟨Ao21, co21, eo21⟩ := Kd.R_slice HO312.out; subst eo21; obtain ⟨_, _, hraw19, _, _, hcc19, _⟩ := Kd.H_raw HH17.out (by omega) (by have h_ : (0 : Int) < ((x5_1.length : Int) : Int) := of_decide_eq_true za_; first | exact h_ | (have e_ := (HN17.out); omega) | simpa using h_); obtain ⟨_, hfr19⟩ := Kd.H_at HH17.out (by omega) (by have h_ : (0 : Int) < ((x5_1.length : Int) : Int) := of_decide_eq_true za_; first | exact h_ | (have e_ := (HN17.out); omega) | simpa using h_); have hx19_0 := hcc19 0 _ rfl; have hf19_0 := hfr19 0; (try simp only [Nat.add_zero] at hx19_0 hf19_0); (try rw [show ((Kd.slice 3 (Kd.int .i64))).sz = 1 from rfl, Nat.mul_one] at hx19_0); (try rw [show ((Kd.slice 3 (Kd.int .i64))).sz = 1 from rfl, Nat.mul_one] at hf19_0); (try rw [show ((0 : Int)).toNat = 0 from rfl] at hx19_0); (try simp only [Nat.reduceMul, Nat.zero_mul, Nat.zero_add, Nat.reduceAdd] at hx19_0); (try rw [show ((0 : Int)).toNat = 0 from rfl] at hf19_0); (try simp only [Nat.reduceMul, Nat.zero_mul, Nat.zero_add, Nat.reduceAdd] at hf19_0); have HP19 := Kd.S_seg0 HH17.out (by omega) (by have h_ : (0 : Int) < ((x5_1.length : Int) : Int) := of_decide_eq_true za_; first | exact h_ | (have e_ := (HN17.out); omega) | simpa using h_) (seg := [.slice Ao21 y310.length co21]) (j := 0) (show 1 ≤ 1 from by decide) (x' := y310) (Kd.M_row HO312.out) (fun _ hk => hk); (try simp only [show ((Kd.slice 3 (Kd.int .i64))).sz = 1 from rfl, Nat.mul_one, Nat.add_zero] at HP19); clear hcc19 hfr19) | ((with_reducible refine gate_store (t := 24) (p := 29) rfl ?_); refine store_event (t := 24) (p := 29) (v := ?vo_w20) (w1 := (w18.setCell ⟨go17, (0 : Int).toNat, none⟩ (.slice Ao21 y310.length co21))) ?hg ?ho ?hn ?hr ?_; (case ho => rfl); (case hg => rfl); (case hn => rfl); (case hr => exact ze_); intro w20 hw; have hg : w18.grownBy w20 (some go17) := (by rw [hw]; exact HP19.2); have hp_ : Kd.S (Kd.slice 3 (Kd.int .i64)) 24 w20 w.heap.size (fun k_ => some k_ ≠ (v300 : Value).ownBlock) (.slice (some ⟨go17, 0, none⟩) x5_1.length co16) y313 := (by rw [hw, Ny313.out]; exact HP19.1); clear HP19; have n_ := z (Kd.R_over' (v := (.slice (some ⟨go17, 0, none⟩) x5_1.length co16)) (zr HO_3.out) (Kd.R_typed hraw19) (by decide) hg) <| z (blk_grown (g := gb298) (o := .cells #[.int .i64 a0_0, .slice A0_1 l0_1.length c0_1, .slice A0_2 l0_2.length c0_2] 49 (0, 0)) (zb BK298.out) hg (Kd.R_ne hraw19 BK298.out (by decide))) <| z ((by rw [hw]; exact below_set HB.out GB17.out : Below w.heap.size w w20)) <| z1 (hp_); clear HO_3 BK298 HB HO312 HH17; obtain ⟨HO_3, BK298, HB, HO_5⟩ := n_; clear hg hw hp_ hraw19))
      go_roundg k1
      case measure => have := HK1.out; omega
      case rel => exact ⟨(y313), (wrap64 (x6_1 + 1)), zb_, H', ⟨zbd_⟩, ⟨zr HO_3.out⟩, ⟨zs HO_5.out⟩, ⟨zb BK298.out⟩, ⟨zce_⟩⟩
     ·rw [if_neg c13] at H
      exact absurd H (by simp)
    ·rw [if_neg c12] at H
     exact absurd H (by simp)
   ·rw [if_neg c11] at H
    have c11b0 := decide_eq_false c11; clear c11; have H' := aM H; clear H; have hcz22_0 : wr.cell? ⟨gb298, 0, none⟩ = some (.int .i64 a0_0) := (blk_cell BK298.out 0).trans rfl; have hcz22_1 : wr.cell? ⟨gb298, 1, none⟩ = some (.slice A0_1 l0_1.length c0_1) := (blk_cell BK298.out 1).trans rfl; have hcz22_2 : wr.cell? ⟨gb298, 2, none⟩ = some (.slice A0_2 l0_2.length c0_2) := (blk_cell BK298.out 2).trans rfl; have hfz22_0 := blk_frozen BK298.out 0; have hfz22_1 := blk_frozen BK298.out 1; have hfz22_2 := blk_frozen BK298.out 2; obtain ⟨Ao23, co23, eo23⟩ := Kd.R_slice HO_3.out; subst eo23
    go_wp2
    go_loopg [5, 32] k1 (fun kq v5 v32 w' => ∃ (x5_2 : List (List Int)) (x32_2 : Int), v32 = .int .i64 x32_2 ∧ Aside0 (impl_levelsOf.l1 kq x5_2 t299 (t299.length : Int) x32_2 a0_0 l0_1 l0_2 = some r) ∧ Aside0 (kq ≤ k1) ∧ Aside0 (Kd.S (Kd.slice 3 (Kd.int .i64)) 24 w' w.heap.size (fun k_ => some k_ ≠ ((.slice Ao23 t299.length co23) : Value).ownBlock) v5 x5_2) ∧ Aside0 (Kd.R (Kd.int .i64) 3 w' w.heap.size (fun _ => True) (.slice Ao23 t299.length co23) t299) ∧ Aside0 (w'.heap[gb298]? = some (.cells #[.int .i64 a0_0, (.slice A0_1 l0_1.length c0_1), (.slice A0_2 l0_2.length c0_2)] 49 (0, 0))) ∧ Aside0 (Below w.heap.size w w'))
    case atStart => exact ⟨(x5_1), (0), zb_, H', ⟨Nat.le_refl _⟩, ⟨zs HO_5.out⟩, ⟨zr HO_3.out⟩, ⟨zb BK298.out⟩, ⟨zce_⟩⟩
    case round =>
     clear H'; (try clear c11b0); (try clear hcz22_0); (try clear hcz22_1); (try clear hcz22_2); (try clear hfz22_0); (try clear hfz22_1); (try clear hfz22_2); obtain ⟨x5_2, x32_2, rfl, HA, HK2, HO_5, HO_30, BK298, HB⟩ := hrel
     cases gk with
     | zero => exact absurd HA.out (by simp [impl_levelsOf.l1])
     | succ k2 =>
      have H := HA.out; clear HA
      simp only [impl_levelsOf.l1] at H
      by_cases c24 : x32_2 < (t299.length : Int)
      ·rw [if_pos c24] at H
       have c24b0 := decide_eq_true c24; clear c24
       by_cases c25 : 0 ≤ x32_2
       ·rw [if_pos c25] at H
        have c25b0 := decide_eq_true c25; clear c25
        by_cases c26 : x32_2 < (t299.length : Int)
        ·rw [if_pos c26] at H
         have c26b0 := decide_eq_true c26; clear c26; have H' := aM H; clear H; have p314 : 0 ≤ (x32_2 : Int) := of_decide_eq_true za_; have q314 : x32_2 < (t299.length : Int) := of_decide_eq_true za_; obtain ⟨ad314, e314, hx314_0⟩ := Kd.at_int (Kd.R_reads' HO_30.out).2.2 x32_2 p314 q314
         cases e314
         replace p314 := eq_true p314; replace q314 := eq_true q314
         go_wp2
         go_loopg [5] k2 (fun kq v5 w' => ∃ (x5_3 : List (List Int)), Aside0 (impl_levelsOf.l2 kq x5_3 x32_2 (rd t299 x32_2) t299 (t299.length : Int) x32_2 a0_0 l0_1 l0_2 = some r) ∧ Aside0 (kq ≤ k2) ∧ Aside0 (Kd.S (Kd.slice 3 (Kd.int .i64)) 24 w' w.heap.size (fun k_ => some k_ ≠ ((.slice (some ad314) t299.length co23) : Value).ownBlock) v5 x5_3) ∧ Aside0 (Kd.R (Kd.int .i64) 3 w' w.heap.size (fun _ => True) (.slice (some ad314) t299.length co23) t299) ∧ Aside0 (w'.heap[gb298]? = some (.cells #[.int .i64 a0_0, (.slice A0_1 l0_1.length c0_1), (.slice A0_2 l0_2.length c0_2)] 49 (0, 0))) ∧ Aside0 (Below w.heap.size w w'))
         case atStart => exact ⟨(x5_2), H', ⟨Nat.le_refl _⟩, ⟨zs HO_5.out⟩, ⟨zr HO_30.out⟩, ⟨zb BK298.out⟩, ⟨zce_⟩⟩
         case round =>
          clear H'; (try clear c24b0); (try clear c25b0); (try clear c26b0); (try clear hx314_0); (try clear p314); (try clear q314); obtain ⟨x5_3, HA, HK3, HO_5, HO_30, BK298, HB⟩ := hrel
          cases gk with
          | zero => exact absurd HA.out (by simp [impl_levelsOf.l2])
          | succ k3 =>
           have H := HA.out; clear HA
           simp only [impl_levelsOf.l2] at H
           by_cases c27 : (rd t299 x32_2) ≥ (x5_3.length : Int)
           ·rw [if_pos c27] at H
            have c27b0 : decide ((x5_3.length : Int) ≤ (rd t299 x32_2)) = true := decide_eq_true c27; clear c27
            by_cases c28 : x5_3.length < 5864062014805
            ·rw [if_pos c28] at H
             have LMc28 := aM c28; clear c28; obtain ⟨y315, hy315⟩ : ∃ y_ : List (List Int), y_ = (x5_3 ++ [[]]) := ⟨_, rfl⟩; replace H : (impl_levelsOf.l2 k3 y315 x32_2 (rd t299 x32_2) t299 (t299.length : Int) x32_2 a0_0 l0_1 l0_2) = some r := by first | (rw [hy315]; with_reducible exact H) | (have H2_ := (oS _ _).symm.trans H; rw [hy315]; with_reducible exact H2_) | (have H2_ := (oS _ _).symm.trans H; with_reducible exact H2_) | with_reducible exact H | (rw [hy315]; exact H) | exact H
             have Ny315 := aM hy315; clear hy315; have H' := aM H; clear H; obtain ⟨Ao29, co29, eo29⟩ := Kd.S_slice HO_5.out; subst eo29
             go_wp2_with (first | ((with_reducible refine gate_builtin (b := .append) (xs := #[.tmp 41, .tmp 42]) rfl ?_); at_builtin; refine Kd.S_append (Kd.slice 3 (Kd.int .i64)) (w0 := w) w.heap.size rfl (.tmp 41) (.tmp 42) 52 24 (.slice none 0 0) 24 rfl Try.underlying52 info24 rfl (by decide) (by omega) (.slice Ao29 x5_3.length co29) x5_3 [] [.slice none 0 0] (fun k_ => some k_ ≠ (.slice (some ad314) t299.length co23 : Value).ownBlock) (fun _ => False) rfl rfl ?aP (fun _ hk => hk.elim) ?aF ?aO ?aB ?aS ?aL ?_; (case aP => exact ⟨_, rfl, Kd.R_nil _ _ _ _ _⟩); (case aB => exact zgg_); (case aF => exact (fun k_ hk => Kd.fresh' (Kd.R_lt (zr HO_30.out)) k_ hk)); (case aO => exact (by refine zs ?_; exact Kd.S_mono HO_5.out (fun k_ hk => ⟨hk, fun e_ => e_⟩))); (case aS => exact zgh_); (case aL => have := LMc28.out; omega); intro v316 w30 ho hb hg hat; rw [← Ny315.out] at ho; have n_ := z (Kd.R_over' (zr HO_30.out) (Kd.S_typed (zs HO_5.out)) (by decide) hg) <| z (blk_grown (g := gb298) (o := .cells #[.int .i64 a0_0, .slice A0_1 l0_1.length c0_1, .slice A0_2 l0_2.length c0_2] 49 (0, 0)) (zb BK298.out) hg (Kd.S_ne HO_5.out BK298.out (by decide))) <| z (hb) <| z1 (ho); clear HO_30 BK298 HB HO_5; obtain ⟨HO_30, BK298, HB, HO317⟩ := n_; clear ho hb hg hat))
             go_roundg k3
             case measure => have := HK1.out; have := HK2.out; have := HK3.out; omega
             case rel => exact ⟨(y315), H', ⟨zcd_⟩, ⟨zs HO317.out⟩, ⟨zr HO_30.out⟩, ⟨zb BK298.out⟩, ⟨zce_⟩⟩
            ·rw [if_neg c28] at H
             exact absurd H (by simp)
           ·rw [if_neg c27] at H
            have c27b0 : decide ((x5_3.length : Int) ≤ (rd t299 x32_2)) = false := decide_eq_false c27; clear c27
            by_cases c31 : 0 ≤ (rd t299 x32_2)
            ·rw [if_pos c31] at H
             have c31b0 := decide_eq_true c31; clear c31
             by_cases c32 : (rd t299 x32_2) < (x5_3.length : Int)
             ·rw [if_pos c32] at H
              have c32b0 := decide_eq_true c32; clear c32
              by_cases c33 : (rd_L2 x5_3 (rd t299 x32_2)).length < 17592186044416
              ·rw [if_pos c33] at H
               have LMc33 := aM c33; clear c33; obtain ⟨y319, hy319⟩ : ∃ y_ : List Int, y_ = ((rd_L2 x5_3 (rd t299 x32_2)) ++ [wrap64 (a0_0 + x32_2)]) := ⟨_, rfl⟩; replace H : (impl_levelsOf.l1 k3 (x5_3.set ((rd t299 x32_2) : Int).toNat y319) t299 (t299.length : Int) (wrap64 (x32_2 + 1)) a0_0 l0_1 l0_2) = some r := by first | (rw [hy319]; with_reducible exact H) | (have H2_ := (oS _ _).symm.trans H; rw [hy319]; with_reducible exact H2_) | (have H2_ := (oS _ _).symm.trans H; with_reducible exact H2_) | with_reducible exact H | (rw [hy319]; exact H) | exact H
               have Ny319 := aM hy319; clear hy319; obtain ⟨y322, hy322⟩ : ∃ y_ : List (List Int), y_ = (x5_3.set ((rd t299 x32_2) : Int).toNat y319) := ⟨_, rfl⟩; replace H : (impl_levelsOf.l1 k3 y322 t299 (t299.length : Int) (wrap64 (x32_2 + 1)) a0_0 l0_1 l0_2) = some r := by first | (rw [hy322]; with_reducible exact H) | (have H2_ := (oS _ _).symm.trans H; rw [hy322]; with_reducible exact H2_) | (have H2_ := (oS _ _).symm.trans H; with_reducible exact H2_) | with_reducible exact H | (rw [hy322]; exact H) | exact H
               have Ny322 := aM hy322; clear hy322; have H' := aM H; clear H; obtain ⟨Ao35, co35, eo35⟩ := Kd.S_slice HO_5.out; subst eo35; (try go_wp2); have n_ := z (Kd.S_drew HO_5.out) <| z (kD HO_30.out) <| z (blk_drew BK298.out) <| z1 (p1 HB.out)
               clear HO_5 HO_30 BK298 HB; obtain ⟨HO_5, HO_30, BK298, HB⟩ := n_; have p318 : 0 ≤ ((rd t299 x32_2) : Int) := of_decide_eq_true za_; have q318 : (rd t299 x32_2) < (x5_3.length : Int) := of_decide_eq_true za_; obtain ⟨ad318, A318_0, c318_0, e318, hx318_0, hl318_0, hi318_0⟩ := at_L2 (Kd.S_reads' HO_5.out).2.2 (rd t299 x32_2) p318 q318
               cases e318
               obtain ⟨ce318, hce318, hMe318, hcc318⟩ := Kd.S_get HO_5.out [] (rd t299 x32_2) p318 (by first | exact q318 | exact of_decide_eq_true za_ | (have e_ := (Kd.S_reads' HO_5.out).1; omega)); obtain ⟨ve318_0, rfl, ge318_0⟩ := hMe318; have hv318_0 := hcc318 0 _ rfl; rw [Nat.add_zero, show ((Kd.slice 3 (Kd.int .i64))).sz = 1 from rfl, Nat.mul_one] at hv318_0; replace hv318_0 := Option.some.inj (hv318_0.symm.trans hx318_0); rw [hv318_0] at ge318_0; have HL318_0 := aM (show Kd.R (Kd.int .i64) 3 _ _ _ _ (rd_L2 x5_3 (rd t299 x32_2)) from ge318_0); clear hv318_0 ge318_0; have HX318_0 := aM hx318_0; clear hcc318 hce318; have HR318_0 := aM hi318_0; have HC318_0 := aM hl318_0; clear hi318_0 hl318_0; replace p318 := eq_true p318; replace q318 := eq_true q318; obtain ⟨go37, co37, eo37, gb37, gl37, cl37, HG37⟩ := Kd.S_form HO_5.out (by have h_ : ((rd t299 x32_2) : Int) < ((x5_3.length : Int) : Int) := of_decide_eq_true za_; have h2_ : 0 ≤ ((rd t299 x32_2) : Int) := (of_decide_eq_true za_); omega); (first | cases eo37 | (injection eo37 with ea_ en_ ec_; (first | subst ea_ | (injection ea_ with ea_; subst ea_)); subst ec_; clear en_)); have GB37 := aM gb37; have GG37 := aM HG37; clear gb37 gl37 HG37; (first | simp only [add_plain] at hx318_0 | skip); obtain ⟨oki37, ce37, hcl37, hM37, hcc37, _, _, hH37⟩ := Kd.S_elem HO_5.out [] ((rd t299 x32_2) : Int) (of_decide_eq_true za_) (by have h_ : ((rd t299 x32_2) : Int) < ((x5_3.length : Int) : Int) := of_decide_eq_true za_; first | exact h_ | (have e_ := (Kd.S_reads' HO_5.out).1; omega) | simpa using h_); obtain ⟨ve37_0, rfl, ge37_0⟩ := hM37; have hv37 := hcc37 0 _ rfl; have hX37 := HX318_0.out; (try simp only [add_plain] at hX37); (try simp only [Nat.add_zero] at hv37); (try rw [show ((Kd.slice 3 (Kd.int .i64))).sz = 1 from rfl, Nat.mul_one] at hv37); replace hv37 := Option.some.inj (hv37.symm.trans hX37); subst hv37; clear hX37 hcc37 hcl37; have UU37 := aM (show Kd.R (Kd.int .i64) 3 _ w.heap.size oki37 (.slice A318_0 (rd_L2 x5_3 (rd t299 x32_2)).length c318_0) (rd_L2 x5_3 (rd t299 x32_2)) from ge37_0); have HH37 := aM hH37; have HN37 := aM (Kd.S_reads' HO_5.out).1; clear hH37 ge37_0
               refine start_ (n := 14) (S := fun w' => w'.cell? ⟨gb298, 0, none⟩ = some (.int .i64 a0_0) ∧ w'.cell? ⟨gb298, 1, none⟩ = some (.slice A0_1 l0_1.length c0_1) ∧ w'.cell? ⟨gb298, 2, none⟩ = some (.slice A0_2 l0_2.length c0_2) ∧ w'.cell? ⟨go37, ((rd t299 x32_2)).toNat, none⟩ = some (.slice A318_0 (rd_L2 x5_3 (rd t299 x32_2)).length c318_0)) (ds := [13]) #[fi,fi,fi,fi,fi,fi,fi,fi,fi,fi,fi,fi,fi,fi] (by kernel_rfl) rfl rfl ⟨(blk_cell BK298.out 0).trans rfl, (blk_cell BK298.out 1).trans rfl, (blk_cell BK298.out 2).trans rfl, hx318_0⟩ (fun hHeld => ?_); refine with_tabW impl_levelsOf.tab12 impl_levelsOf.bits12 (fun HT_ HW_ => ?_)
               generalize wr.drew = w36 at HO_5 HO_30 BK298 HB GG37 HH37 HL318_0 HR318_0 HX318_0 UU37 hx318_0 hHeld ⊢; refine py_ 0 44 HT_.out ?_; refine py_ 1 45 HT_.out ?_; refine py_ 2 46 HT_.out ?_; refine py_ 3 47 HT_.out ?_; refine py_ 4 48 HT_.out ?_; refine py_ 6 50 HT_.out ?_; refine py_ 8 52 HT_.out ?_
               refine take_ (i := 5) (N := some 49) (v := ?_) (a' := ?_) #[ti,ti,ti,ti,ti,ti,ti,fi,ti,fi,fi,fi,fi,fi] rfl rfl (take_ofW HT_.out HW_.out (by kernel_rfl)) (fun _ _ _ h => h) (Or.inl ⟨by rfl, ?_⟩) hHeld ?_ ?_
               rotate_left
               ·rintro w' ⟨s0, s1, s2, s3⟩
                go_simp
                with_reducible rfl
               rotate_left
               ·simp only [Act.put, sI, s0, sS, i64_w, i32_w]
                rfl
               refine take_ (i := 7) (N := some 51) (v := ?_) (a' := ?_) #[ti,ti,ti,ti,ti,ti,ti,ti,ti,fi,fi,fi,fi,fi] rfl rfl (take_ofW HT_.out HW_.out (by kernel_rfl)) (fun _ _ _ h => h) (Or.inl ⟨by rfl, ?_⟩) hHeld ?_ ?_
               rotate_left
               ·rintro w' ⟨s0, s1, s2, s3⟩
                go_simp
                with_reducible rfl
               rotate_left
               ·simp only [Act.put, sI, s0, sS, i64_w, i32_w]
                rfl
               refine py_ 9 53 HT_.out ?_
               refine one_ (i := 10) (N := some 54) #[ti,ti,ti,ti,ti,ti,ti,ti,ti,ti,ti,fi,fi,fi] rfl rfl (one_of HT_.out (by kernel_rfl)) (by decide) (fun K hK => ?_)
               refine value_ (w1 := ?_) (v := ?_) (by rfl) rfl ?_ ?_
               rotate_left 2
               ·go_simp
                constructor
                ·rfl
                ·rfl
               refine hK.out _ _ ⟨(blk_cell (blk_alloc BK298.out _) 0).trans rfl, (blk_cell (blk_alloc BK298.out _) 1).trans rfl, (blk_cell (blk_alloc BK298.out _) 2).trans rfl, (World.cell?_alloc_lt _ _ _ (World.block_lt_of_cell? _ _ (hHeld.2.2.2))).trans (hHeld.2.2.2)⟩ (fun hHeld => ?_)
               clear hK K
               refine norm_ (a' := ?_) ?_ ?_
               rotate_left
               ·show Act.put _ (some 54) _ = _
                simp only [Act.put, sI, s0, sS, i64_w, i32_w]
                rfl
               refine one_ (i := 11) (N := some 55) #[ti,ti,ti,ti,ti,ti,ti,ti,ti,ti,ti,ti,fi,fi] rfl rfl (one_of HT_.out (by kernel_rfl)) (by decide) (fun K hK => ?_)
               refine Kd.R_append_step (Kd.int .i64) (w0 := w) w.heap.size (by rfl) (.tmp 49) (.tmp 54) 24 3 (.int .i64 0) 8 rfl Try.underlying24 info3 rfl (by decide) (by omega) (.slice A318_0 (rd_L2 x5_3 (rd t299 x32_2)).length c318_0) (rd_L2 x5_3 (rd t299 x32_2)) (wrap64 (a0_0 + x32_2)) [.int .i64 (wrap64 (a0_0 + x32_2))] (fun k_ => oki37 k_ ∨ ((fun k_ => some k_ ≠ (.slice (some ad314) t299.length co23 : Value).ownBlock)) k_ ∧ w36.heap.size ≤ k_) (fun _ => False) rfl rfl ?aP (fun _ hk => hk.elim) ?aF ?aO ?aB ?aS ?aL ?_
               (case aP => exact rfl)
               (case aB => exact zgg_)
               (case aF => exact (fun k_ hk => .inr ⟨Kd.fresh' (Kd.R_lt (zr HO_30.out)) k_ hk, hk⟩))
               (case aO => exact (by refine zr ?_; exact Kd.R_mono UU37.out (fun _ hk => .inl hk)))
               (case aS => exact zgh_)
               (case aL => have := LMc33.out; omega)
               intro v320 w38 ho hb hg hat
               (first | have HS3_ := cell_grown hg (hHeld.2.2.2) (by first | (rw [add_block]; exact (fun e_ => ((HL318_0.out.1 _ e_.symm).2) rfl)) | (show some (Addr.add _ _).block ≠ _; rw [add_block]; exact (fun e_ => ((HL318_0.out.1 _ e_.symm).2) rfl)) | exact (fun e_ => ((HL318_0.out.1 _ e_.symm).2) rfl)) | have HS3_ := cell_grown hg (cell_unalloc (hHeld.2.2.2) (by first | (rw [add_block]; exact Kd.S_lt HO_5.out _ rfl) | (show (Addr.add _ _).block < _; rw [add_block]; exact Kd.S_lt HO_5.out _ rfl) | exact Kd.S_lt HO_5.out _ rfl)) (by first | (rw [add_block]; exact (fun e_ => ((HL318_0.out.1 _ e_.symm).2) rfl)) | (show some (Addr.add _ _).block ≠ _; rw [add_block]; exact (fun e_ => ((HL318_0.out.1 _ e_.symm).2) rfl)) | exact (fun e_ => ((HL318_0.out.1 _ e_.symm).2) rfl))); rw [← Ny319.out] at ho; have n_ := z (Kd.R_grown2 (zr HO_30.out) rfl hg (fun k_ e_ => (HL318_0.out.1 k_ e_).1)) <| z (blk_grown (g := gb298) (o := .cells #[.int .i64 a0_0, .slice A0_1 l0_1.length c0_1, .slice A0_2 l0_2.length c0_2] 49 (0, 0)) (zb BK298.out) hg (Kd.R_ne HL318_0.out BK298.out (by decide))) <| z (hb) <| z (Kd.H_grown (Kd.H_widen (by repeat (first | exact HH37.out | refine Kd.H_alloc ?_ _ | refine Kd.H_drewN ?_ _ | refine Kd.H_drew ?_))) hg (fun k_ e_ => .inl (UU37.out.1 k_ e_))) <| z1 (ho)
               clear HO_30 BK298 HB HH37 HO_5 UU37 HL318_0; obtain ⟨HO_30, BK298, HB, HH37, HO321⟩ := n_; clear ho hb hg hat; have p34 : 0 ≤ ((rd t299 x32_2) : Int) := of_decide_eq_true za_; have q34 : ((rd t299 x32_2) : Int) < ((x5_3.length : Int) : Int) := of_decide_eq_true za_; replace p34 := eq_true p34; replace q34 := eq_true q34; obtain ⟨Ao41, co41, eo41⟩ := Kd.R_slice HO321.out; (first | subst eo41 | (injection eo41 with f1_ f2_ f3_; have f4_ := f1_.symm; have f5_ := f3_.symm; clear f1_ f2_ f3_; subst f4_; subst f5_)); obtain ⟨_, _, hraw39, _, _, hcc39, _⟩ := Kd.H_raw HH37.out (of_decide_eq_true za_) (by have h_ : ((rd t299 x32_2) : Int) < ((x5_3.length : Int) : Int) := of_decide_eq_true za_; first | exact h_ | (have e_ := (HN37.out); omega) | simpa using h_); obtain ⟨_, hfr39⟩ := Kd.H_at HH37.out (of_decide_eq_true za_) (by have h_ : ((rd t299 x32_2) : Int) < ((x5_3.length : Int) : Int) := of_decide_eq_true za_; first | exact h_ | (have e_ := (HN37.out); omega) | simpa using h_); have hx39_0 := hcc39 0 _ rfl; have hf39_0 := hfr39 0; (try simp only [Nat.add_zero] at hx39_0 hf39_0); (try rw [show ((Kd.slice 3 (Kd.int .i64))).sz = 1 from rfl, Nat.mul_one] at hx39_0); (try rw [show ((Kd.slice 3 (Kd.int .i64))).sz = 1 from rfl, Nat.mul_one] at hf39_0); have HP39 := Kd.S_seg0 HH37.out (of_decide_eq_true za_) (by have h_ : ((rd t299 x32_2) : Int) < ((x5_3.length : Int) : Int) := of_decide_eq_true za_; first | exact h_ | (have e_ := (HN37.out); omega) | simpa using h_) (seg := [.slice Ao41 y319.length co41]) (j := 0) (show 1 ≤ 1 from by decide) (x' := y319) (Kd.M_row HO321.out) (fun _ hk => hk); (try simp only [show ((Kd.slice 3 (Kd.int .i64))).sz = 1 from rfl, Nat.mul_one, Nat.add_zero] at HP39); clear hcc39 hfr39; have HNB298_go37 := aM (show gb298 ≠ go37 from by have h_ := Kd.R_ne hraw39 BK298.out (by decide); intro e_; exact h_ (by rw [e_]; rfl)); have HS39 := HP39.1; rw [← Ny322.out] at HS39; have HQ39 := aM HS39; obtain ⟨_, hgg39⟩ := Kd.R_typed hraw39 go37 rfl; have GG39_ := aM hgg39; clear HP39 HS39 hgg39
               refine hK.out _ _ ⟨(blk_cell BK298.out 0).trans rfl, (blk_cell BK298.out 1).trans rfl, (blk_cell BK298.out 2).trans rfl, HS3_⟩ (fun hHeld => ?_)
               clear hK K
               refine norm_ (a' := ?_) ?_ ?_
               rotate_left
               ·show Act.put _ (some 55) _ = _
                simp only [Act.put, sI, s0, sS, i64_w, i32_w]
                rfl
               refine py_ 12 56 HT_.out ?_
               refine last_ (i := 13) (N := none) #[ti,ti,ti,ti,ti,ti,ti,ti,ti,ti,ti,ti,ti,ti] rfl rfl (one_of HT_.out (by kernel_rfl)) (by decide) (fun K hK => ?_)
               refine skip_ (w1 := ?_) (by rfl) rfl ?_ ?_
               rotate_left
               ·go_simp
                rfl
               refine hK.out _ _ ?_
               clear hK K
               refine done_ (done_of HT_.out (by kernel_rfl)) ?_
               (try go_wp2)
               go_roundg k3
               case measure => have := HK1.out; have := HK2.out; have := HK3.out; omega
               case rel => exact ⟨(y322), (wrap64 (x32_2 + 1)), zb_, H', ⟨zcd_⟩, ⟨zs HQ39.out⟩, ⟨by refine zr ?_; exact Kd.R_mono (Kd.R_far (p := ⟨go37, ((rd t299 x32_2) : Int).toNat, none⟩) (Kd.R_types HO_30.out GG39_.out (by decide)) (fun _ hk => hk.2) (.slice Ao41 y319.length co41)) (fun _ hk => trivial)⟩, ⟨by refine zb ?_; refine blk_far ?_ HNB298_go37.out _; refine zb ?_; exact BK298.out⟩, ⟨by repeat (first | (with_reducible first | exact HB.out | apply pA | apply pN | apply p1 | refine below_set ?_ GB37.out | refine below_set ?_ GE298.out) | exact HB.out)⟩⟩
              ·rw [if_neg c33] at H
               exact absurd H (by simp)
             ·rw [if_neg c32] at H
              exact absurd H (by simp)
            ·rw [if_neg c31] at H
             exact absurd H (by simp)
        ·rw [if_neg c26] at H
         exact absurd H (by simp)
       ·rw [if_neg c25] at H
        exact absurd H (by simp)
      ·rw [if_neg c24] at H
       have c24b0 := decide_eq_false c24; clear c24; obtain rfl := Option.some.inj H
       go_wp2
       go_ret
       exact ⟨_, zg_, by refine zs ?_; exact Kd.S_mono HO_5.out (fun _ hk => trivial), zce_⟩
def slices_Index_int_int.l0 : Nat → List Int → Int → Int → Int → Option (Int)
 | 0, _, _, _, _ => none
 | k + 1, x0, x1, x7, x8 => if x8 < x7 then (if 0 ≤ x8 then (if x8 < (x0.length : Int) then (if x1 = (rd x0 x8) then (some x8) else (slices_Index_int_int.l0 k x0 x1 x7 (wrap64 (x8 + 1)))) else (none)) else (none)) else (some (-1))
def slices_Index_int_int.f (k : Nat) (l0 : List Int) (a1 : Int) : Option (Int) := slices_Index_int_int.l0 k l0 a1 (l0.length : Int) 0
theorem slices_Index_int_int.calls (k : Nat) (A0 : Option Addr) (c0 : Nat) (l0 : List Int) (a1 : Int) (r : Int) (w : World) (hr0 : Kd.C (Kd.int .i64) w A0 l0.length l0) (hc0 : l0.length ≤ c0) (h : slices_Index_int_int.f k l0 a1 = some r) :
  Calls Try.prog 156 #[.slice A0 l0.length c0, .int .i64 a1] w fun e w' => e = .returned (.int .i64 r) ∧ Drawn0 w w' := by
 have HR0 := aM hr0
 have HC0 := aM hc0
 clear hr0 hc0
 have H : (slices_Index_int_int.l0 k l0 a1 (l0.length : Int) 0) = some r := h
 clear h
 have H' := aM H
 clear H
 go_enter Try.func156, Try.ntmps156
 go_wp2
 go_loopg [8] k (fun kq v8 w' => ∃ (x8_1 : Int), v8 = .int .i64 x8_1 ∧ Aside0 (slices_Index_int_int.l0 kq l0 a1 (l0.length : Int) x8_1 = some r) ∧ Aside0 (kq ≤ k) ∧ Drawn0 w w')
 case atStart => exact ⟨(0), zb_, H', ⟨Nat.le_refl _⟩, zf_⟩
 case round =>
  clear H'; obtain ⟨x8_1, rfl, HA, HK1, ⟨m1, rfl⟩⟩ := hrel
  cases gk with
  | zero => exact absurd HA.out (by simp [slices_Index_int_int.l0])
  | succ k1 =>
   have H := HA.out; clear HA
   simp only [slices_Index_int_int.l0] at H
   by_cases c3 : x8_1 < (l0.length : Int)
   ·rw [if_pos c3] at H
    have c3b0 := decide_eq_true c3; clear c3
    by_cases c4 : 0 ≤ x8_1
    ·rw [if_pos c4] at H
     have c4b0 := decide_eq_true c4; clear c4
     by_cases c5 : x8_1 < (l0.length : Int)
     ·rw [if_pos c5] at H
      have c5b0 := decide_eq_true c5; clear c5
      by_cases c6 : a1 = (rd l0 x8_1)
      ·rw [if_pos c6] at H
       have c6b0 := beq_iff_eq.mpr c6; have c6b1 := bne_eq_false_iff_eq.mpr c6; clear c6; obtain rfl := Option.some.inj H; have p323 : 0 ≤ (x8_1 : Int) := of_decide_eq_true za_; have q323 : x8_1 < (l0.length : Int) := of_decide_eq_true za_; obtain ⟨ad323, e323, hx323_0⟩ := Kd.at_int HR0.out x8_1 p323 q323
       cases e323
       replace p323 := eq_true p323; replace q323 := eq_true q323
       go_wp2
       go_ret
       exact ⟨zb_, zf_⟩
      ·rw [if_neg c6] at H
       have c6b0 := beq_eq_false_iff_ne.mpr c6; have c6b1 := bne_iff_ne.mpr c6; have H' := aM H; clear H; have p323 : 0 ≤ (x8_1 : Int) := of_decide_eq_true za_; have q323 : x8_1 < (l0.length : Int) := of_decide_eq_true za_; obtain ⟨ad323, e323, hx323_0⟩ := Kd.at_int HR0.out x8_1 p323 q323
       cases e323
       replace p323 := eq_true p323; replace q323 := eq_true q323
       go_wp2
       go_roundg k1
       case measure => have := HK1.out; omega
       case rel => exact ⟨(wrap64 (x8_1 + 1)), zb_, H', ⟨zbd_⟩, zf_⟩
     ·rw [if_neg c5] at H
      exact absurd H (by simp)
    ·rw [if_neg c4] at H
     exact absurd H (by simp)
   ·rw [if_neg c3] at H
    have c3b0 := decide_eq_false c3; clear c3; obtain rfl := Option.some.inj H
    go_wp2
    go_ret
    exact ⟨zb_, zf_⟩
end Go.Proofs.Ytbkighlfgaifeaa.QFnCrossings
