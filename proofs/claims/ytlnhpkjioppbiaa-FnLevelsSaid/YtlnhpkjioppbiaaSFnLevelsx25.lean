/- Functions of FnLevels, each as a Lean function, with the proof that the Go code comes to its answers. -/
import Derived.Test.YtlnhpkjioppbiaaSFnLevelsx1
import Derived.Test.YtlnhpkjioppbiaaSFnLevelsx5
import Derived.Test.YtlnhpkjioppbiaaSFnLevelsx7
import Derived.Test.YtlnhpkjioppbiaaSFnLevelsx9
import Derived.Test.YtlnhpkjioppbiaaSFnLevelsx11
import Derived.Test.YtlnhpkjioppbiaaSFnLevelsx15
import Derived.Test.YtlnhpkjioppbiaaSFnLevelsx17
import Derived.Test.YtlnhpkjioppbiaaSFnLevelsx19
import Derived.Test.YtlnhpkjioppbiaaSFnLevelsx22
import Derived.Test.YtlnhpkjioppbiaaSFnLevelsx23
import Derived.Test.YtlnhpkjioppbiaaSFnLevelsx24
namespace Go.Proofs.Ytlnhpkjioppbiaa.QFnLevels
open Go.RowKit Go.Proofs.YtlnhpkjioppbiaaW.PrintWords Go.Proofs.YtlnhpkjioppbiaaW.PrintLast Go.Proofs.YtlnhpkjioppbiaaW.PrintMore
open Go.Proofs.YtlnhpkjioppbiaaW.PrintWords renaming pw_below_drewN → pN, below_drew1 → p1, below_alloc → pA
open Go.Proofs.YtlnhpkjioppbiaaW.PrintWords.Kd renaming R_alloc → kA, R_drewN → kN, R_drew → kD, Q_alloc → qA, Q_drewN → qN, Q_drew → qD, C_alloc → cA, C_drewN → cN, C_drew → cD
open Go.Proofs.YtlnhpkjioppbiaaW.PrintWords.Aside0 renaming mk → aM
open List renaming setIfInBounds_toArray → sI, set_cons_zero → s0, set_cons_succ → sS, map_toArray → mT, length_take → lT, length_drop → lD, map_cons → mC, map_nil → mN
open Option renaming bind_eq_some_iff → oB, bind_some → oS
attribute [local go_sem] max2_int min2_int max_two min_two max_three min_three max_four min_four
set_option linter.unusedVariables false
set_option linter.unusedSimpArgs false

/-! ### laws_FnLevels: function 5 -/
mutual
def laws_FnLevels.j2 : Nat → List Int → Option (Bool)
 | 0, _ => none
 | k + 1, x1 => (spec_DrawFewestCrossings.f x1).bind fun bt449 => ((impl_FewestCrossings.f k bt449.1 bt449.2).bind fun bt453 => ((spec_FewestCrossings.f k bt449.1 bt449.2).bind fun bt458 => ((impl_CrossingBound.f k bt449.1 bt449.2).bind fun bt463 => ((spec_CrossingBound.f k bt449.1 bt449.2).bind fun bt465 => ((impl_CountCrossings.f k bt449.1 bt449.2).bind fun bt467 => ((spec_CountCrossings.f k bt449.1 bt449.2).bind fun bt469 => ((impl_SwappedOrder.f k bt449.1 bt449.2).bind fun bt471 => ((spec_SwappedOrder.f k bt449.1 bt449.2).bind fun bt475 => ((impl_MiddleOrder.f k bt449.1 bt449.2).bind fun bt479 => ((spec_MiddleOrder.f k bt449.1 bt449.2).bind fun bt483 => (if (bt453.2.2 != bt458.2.2) = true then (none) else ((laws_sameInts.f k bt453.1 bt458.1).bind fun t487 => (if t487 = true then (if bt453.2.1 = bt458.2.1 then (if (bt463.2 != bt465.2) = true then (none) else (if bt463.1 = bt465.1 then (if (bt467.2 != bt469.2) = true then (none) else (if bt467.1 = bt469.1 then (if (bt471.2 != bt475.2) = true then (none) else ((laws_sameInts.f k bt471.1 bt475.1).bind fun t488 => (if t488 = true then (if (bt479.2 != bt483.2) = true then (none) else ((laws_sameInts.f k bt479.1 bt483.1).bind fun t489 => (if t489 = true then (if (bt463.2 != bt453.2.2) = true then (none) else (if (bt467.2 != bt453.2.2) = true then (none) else (if (bt471.2 != bt453.2.2) = true then (none) else (if (bt479.2 != bt453.2.2) = true then (none) else ((impl_AreLevelWires.f k bt449.1 bt449.2).bind fun t490 => (if (t490 != bt453.2.2) = true then (none) else (if bt453.2.2 = true then ((some (([bt458.1, bt475.1, bt483.1] : List (List Int)) : List (List Int))).bind fun y491 => (laws_FnLevels.l2 k bt449.1 bt449.2 bt458.2.1 bt465.1 bt469.1 y491 (y491.length : Int) 0)) else (some true)))))))) else (none)))) else (none)))) else (none))) else (none))) else (none)) else (none))))))))))))))
def laws_FnLevels.l2 : Nat → List (List Int) → Int → Int → Int → Int → List (List Int) → Int → Int → Option (Bool)
 | 0, _, _, _, _, _, _, _, _ => none
 | k + 1, x19, x20, x25, x29, x33, x302, x303, x304 => if x304 < x303 then (if 0 ≤ x304 then (if x304 < (x302.length : Int) then ((impl_MovePoints.f k x19 x20 (rd_L4 x302 x304)).bind fun bt495 => ((impl_CountCrossings.f k bt495.1 x20).bind fun bt499 => (if bt495.2 = true then (if bt499.2 = true then (if bt499.1 < x25 then (none) else (if x304 = 0 then (if bt499.1 = x25 then (if x304 = 1 then (if bt499.1 > x33 then (none) else (laws_FnLevels.l2 k x19 x20 x25 x29 x33 x302 x303 (wrap64 (x304 + 1)))) else (laws_FnLevels.l2 k x19 x20 x25 x29 x33 x302 x303 (wrap64 (x304 + 1)))) else (none)) else (if x304 = 1 then (if bt499.1 > x33 then (none) else (laws_FnLevels.l2 k x19 x20 x25 x29 x33 x302 x303 (wrap64 (x304 + 1)))) else (laws_FnLevels.l2 k x19 x20 x25 x29 x33 x302 x303 (wrap64 (x304 + 1)))))) else (none)) else (none)))) else (none)) else (none)) else (if x29 > x25 then (none) else (if x25 > x33 then (none) else (some true)))
def laws_FnLevels.l0 : Nat → List Int → List Int → Int → List (List Int) → Int → Int → Int → List (S109) → List Int → Option (Bool)
 | 0, _, _, _, _, _, _, _, _, _ => none
 | k + 1, x1, x12, x14, x96, x97, x98, x428000, x428001, x428002 => if x98 < x97 then (if 0 ≤ x98 then (if x98 < (x96.length : Int) then (laws_FnLevels.l1 k x1 x12 x14 x98 (rd_L4 x96 x98) x96 x97 x98 (rd_L4 x96 x98) ((rd_L4 x96 x98).length : Int) 0 x428000 x428001 x428002) else (none)) else (none)) else (if x14 = (wrap64 (x428000 + (x428001.length : Int))) then (laws_FnLevels.j2 k x1) else (none))
def laws_FnLevels.l1 : Nat → List Int → List Int → Int → Int → List Int → List (List Int) → Int → Int → List Int → Int → Int → Int → List (S109) → List Int → Option (Bool)
 | 0, _, _, _, _, _, _, _, _, _, _, _, _, _, _ => none
 | k + 1, x1, x12, x14, x15, x16, x96, x97, x98, x103, x104, x105, x428000, x428001, x428002 => if x105 < x104 then (if 0 ≤ x105 then (if x105 < (x103.length : Int) then (if (rd x103 x105) ≥ x428000 then (if 0 ≤ (wrap64 ((rd x103 x105) - x428000)) then (if (wrap64 ((rd x103 x105) - x428000)) < (x12.length : Int) then (if (rd x12 (wrap64 ((rd x103 x105) - x428000))) = x15 then (if (rd x103 x105) < x428000 then (if x15 = 0 then (laws_FnLevels.l1 k x1 x12 x14 x15 x16 x96 x97 x98 x103 x104 (wrap64 (x105 + 1)) x428000 x428001 x428002) else (none)) else (laws_FnLevels.l1 k x1 x12 x14 x15 x16 x96 x97 x98 x103 x104 (wrap64 (x105 + 1)) x428000 x428001 x428002)) else (none)) else (none)) else (none)) else (if (rd x103 x105) < x428000 then (if x15 = 0 then (laws_FnLevels.l1 k x1 x12 x14 x15 x16 x96 x97 x98 x103 x104 (wrap64 (x105 + 1)) x428000 x428001 x428002) else (none)) else (laws_FnLevels.l1 k x1 x12 x14 x15 x16 x96 x97 x98 x103 x104 (wrap64 (x105 + 1)) x428000 x428001 x428002))) else (none)) else (none)) else (laws_FnLevels.l0 k x1 x12 (wrap64 (x14 + (x16.length : Int))) x96 x97 (wrap64 (x98 + 1)) x428000 x428001 x428002)
end
def laws_FnLevels.f (k : Nat) (l0 : List Int) (l1 : List Int) : Option (Bool) := (laws_big.f l0 l1).bind fun t419 => (if t419 = true then (some true) else ((spec_DrawLevelsOf.f l0).bind fun bt420 => ((impl_LevelsOf.f k bt420.1 bt420.2.1 bt420.2.2).bind fun bt428 => ((spec_LevelsOf.f k bt420.1 bt420.2.1 bt420.2.2).bind fun bt432 => (if (bt428.2 != bt432.2) = true then (none) else ((laws_sameLists.f k bt428.1 bt432.1).bind fun t436 => (if t436 = true then (if bt428.2 = true then ((impl_GateDepths.f k bt420.1 bt420.2.1 bt420.2.2).bind fun bt437 => ((spec_GateDepths.f k bt420.1 bt420.2.1 bt420.2.2).bind fun bt441 => (if bt437.2 = true then (if bt441.2 = true then ((laws_sameInts.f k bt437.1 bt441.1).bind fun t445 => (if t445 = true then (laws_FnLevels.l0 k l1 bt441.1 0 bt432.1 (bt432.1.length : Int) 0 bt420.1 bt420.2.1 bt420.2.2) else (none))) else (none)) else (none)))) else (laws_FnLevels.j2 k l1)) else (none))))))))
set_option maxHeartbeats 64000000 in
set_option maxRecDepth 100000 in
theorem laws_FnLevels.calls (k : Nat) (A0 : Option Addr) (c0 : Nat) (l0 : List Int) (A1 : Option Addr) (c1 : Nat) (l1 : List Int) (r : Bool) (w : World) (hr0 : Kd.C (Kd.int .u8) w A0 l0.length l0) (hc0 : l0.length ≤ c0) (hr1 : Kd.C (Kd.int .u8) w A1 l1.length l1) (hc1 : l1.length ≤ c1) (h : laws_FnLevels.f k l0 l1 = some r) :
  Calls Try.prog 5 #[.slice A0 l0.length c0, .slice A1 l1.length c1] w fun e w' => e = .returned (.bool r) ∧ Below w.heap.size w w' := by
 have hu61 := Try.underlying61
 have HR0 := aM hr0
 have HC0 := aM hc0
 clear hr0 hc0
 have HR1 := aM hr1
 have HC1 := aM hc1
 clear hr1 hc1
 have HB := aM (Below.refl w.heap.size w)
 have H : ((laws_big.f l0 l1).bind fun t419 => (if t419 = true then (some true) else ((spec_DrawLevelsOf.f l0).bind fun bt420 => ((impl_LevelsOf.f k bt420.1 bt420.2.1 bt420.2.2).bind fun bt428 => ((spec_LevelsOf.f k bt420.1 bt420.2.1 bt420.2.2).bind fun bt432 => (if (bt428.2 != bt432.2) = true then (none) else ((laws_sameLists.f k bt428.1 bt432.1).bind fun t436 => (if t436 = true then (if bt428.2 = true then ((impl_GateDepths.f k bt420.1 bt420.2.1 bt420.2.2).bind fun bt437 => ((spec_GateDepths.f k bt420.1 bt420.2.1 bt420.2.2).bind fun bt441 => (if bt437.2 = true then (if bt441.2 = true then ((laws_sameInts.f k bt437.1 bt441.1).bind fun t445 => (if t445 = true then (laws_FnLevels.l0 k l1 bt441.1 0 bt432.1 (bt432.1.length : Int) 0 bt420.1 bt420.2.1 bt420.2.2) else (none))) else (none)) else (none)))) else (laws_FnLevels.j2 k l1)) else (none))))))))) = some r := h
 clear h
 replace H := oB.mp H
 obtain ⟨t419, A30, H⟩ := H
 (try dsimp only at H)
 have A3 := aM A30
 clear A30
 by_cases c4 : t419 = true
 ·subst c4
  rw [if_pos rfl] at H; obtain rfl := Option.some.inj H
  go_enter Try.func5, Try.ntmps5
  go_wp2_with (first | ((with_reducible refine gate_callee (f := 13) rfl ?_); refine goesL_ (some 51) rfl rfl Try.func13 (by kernel_rfl) rfl #[.slice A0 l0.length c0, .slice A1 l1.length c1] rfl zf_ ?_; (with_reducible refine (laws_big.calls _ _ l0 _ _ l1 true _ ?side1 ?side2 ?side3 ?side4 A3.out).mono ?_); (case side1 => exact zi_); (case side2 => exact HC0.out); (case side3 => repeat (first | exact HR1.out | (with_reducible refine cA ?_ _) | (with_reducible refine cN ?_ _) | (with_reducible refine cD ?_))); (case side4 => exact HC1.out); rintro e w' ⟨rfl, ⟨nd, rfl⟩⟩; refine ⟨_, rfl, ?_⟩))
  go_ret
  exact ⟨zh_, zb_⟩
 ·replace c4 := Bool.eq_false_iff.mpr c4
  subst c4; rw [if_neg (show ¬ (false = true) by decide)] at H; replace H := oB.mp H; obtain ⟨⟨t420, t421, t424⟩, A50, H⟩ := H; (try dsimp only at H); have A5 := aM A50; clear A50; replace H := oB.mp H; obtain ⟨⟨t428, t431⟩, A60, H⟩ := H; (try dsimp only at H); have A6 := aM A60; clear A60; replace H := oB.mp H; obtain ⟨⟨t432, t435⟩, A70, H⟩ := H; (try dsimp only at H); have A7 := aM A70; clear A70
  by_cases c8 : (t431 != t435) = true
  ·rw [if_pos c8] at H
   exact q3n_ H
  rw [if_neg c8] at H; have c8b0 : (t431 != t435) = false := by simpa using c8
  (try (have c8b1 : decide (t431 = t435) = true := by simpa using c8)); (try (have c8b2 : (t431 == t435) = true := by simpa using c8)); clear c8; replace H := oB.mp H; obtain ⟨t436, A90, H⟩ := H; (try dsimp only at H); have A9 := aM A90; clear A90
  by_cases c10 : t436 = true
  ·subst c10
   rw [if_pos rfl] at H; have HC11 := aM H; clear H
   go_enter Try.func5, Try.ntmps5
   go_upto_if 73 with (first | ((with_reducible refine gate_callee (f := 13) rfl ?_); refine goesL_ (some 51) rfl rfl Try.func13 (by kernel_rfl) rfl #[.slice A0 l0.length c0, .slice A1 l1.length c1] rfl zf_ ?_; (with_reducible refine (laws_big.calls _ _ l0 _ _ l1 false _ ?side1 ?side2 ?side3 ?side4 A3.out).mono ?_); (case side1 => exact zi_); (case side2 => exact HC0.out); (case side3 => repeat (first | exact HR1.out | (with_reducible refine cA ?_ _) | (with_reducible refine cN ?_ _) | (with_reducible refine cD ?_))); (case side4 => exact HC1.out); rintro e w' ⟨rfl, ⟨nd, rfl⟩⟩; refine ⟨_, rfl, ?_⟩) | ((with_reducible refine gate_callee (f := 31) rfl ?_); refine goesL_ (some 53) rfl rfl Try.func31 (by kernel_rfl) rfl #[.slice A0 l0.length c0] rfl zf_ ?_; (with_reducible refine (spec_DrawLevelsOf.calls _ _ l0 t420 t421 t424 _ ?side1 ?side2 A5.out).mono ?_); (case side1 => exact zi_); (case side2 => exact HC0.out); rintro e w12 ⟨v422, v425, rfl, ho0, ho1, hb⟩; refine ⟨_, rfl, ?_⟩; have n_ := z (Kd.R_lower ho0 (below_size zb_)) <| z (Kd.R_lower ho1 (below_size zb_)) <| z1 (below_step zb_ hb); clear HB; obtain ⟨HO423, HO426, HB⟩ := n_; clear hb; (try clear ho0); (try clear ho1)) | ((with_reducible refine gate_dst (N := 5) rfl ?_); refine box_event ?hg (N := 5) ?hd (cs := #[.int .i64 0, .slice none 0 0, .slice none 0 0]) (t := 61) ?hr ?_; (case hd => rfl); (case hg => rfl); (case hr => exact zd_); intro gb427 hg w13 hbox hb; have n_ := z (Kd.R_below (zr HO423.out) hb) <| z (Kd.R_below (zr HO426.out) hb) <| z (below_step zb_ hb) <| z (hbox) <| z ((by rw [hg]; exact (below_size zb_) : w.heap.size ≤ gb427)) <| z1 ((by rw [hg]; exact (below_size zb_) : w.heap.size ≤ gb427)); clear HO423 HO426 HB; obtain ⟨HO423, HO426, HB, BK427, GW427, GE427⟩ := n_; clear hb hbox hg; obtain ⟨hcz14_0, hcz14_1, hcz14_2, hfz14_0, hfz14_1, hfz14_2⟩ := zk3 BK427.out; obtain ⟨Ao15, co15, eo15⟩ := Kd.R_slice HO423.out; subst eo15; obtain ⟨Ao16, co16, eo16⟩ := Kd.R_slice HO426.out; subst eo16) | ((with_reducible refine gate_callee (f := 32) rfl ?_); refine goesL_ (some 56) rfl rfl Try.func32 (by kernel_rfl) rfl #[.agg #[.int .i64 t420, .slice Ao15 t421.length co15, .slice Ao16 t424.length co16]] rfl zf_ ?_; (with_reducible refine (impl_LevelsOf.calls k t420 _ _ t421 _ _ t424 t428 t431 _ ?side1 ?side2 ?side3 ?side4 A6.out).mono ?_); (case side1 => refine (Kd.R_reads' (e := 109) (base := w.heap.size) (ok := fun k_ => True) (n := t421.length) (c := co15) ?_).2.2; exact zic_); (case side2 => exact (Kd.R_reads' HO423.out).2.1); (case side3 => refine (Kd.R_reads' (e := 3) (base := w.heap.size) (ok := fun k_ => True) (n := t424.length) (c := co16) ?_).2.2; exact zid_); (case side4 => exact (Kd.R_reads' HO426.out).2.1); rintro e w17 ⟨v429, rfl, ho0, hb⟩; refine ⟨_, rfl, ?_⟩; have n_ := z (Kd.R_below zic_ hb) <| z (Kd.R_below zid_ hb) <| z (Kd.N_lower (Kd.N_mono (ok' := fun k_ => some k_ ≠ (.slice Ao15 t421.length co15 : Value).ownBlock ∧ some k_ ≠ (.slice Ao16 t424.length co16 : Value).ownBlock ∧ k_ ≠ gb427) (Kd.S_N (Kd.S_bound ho0)) (fun k_ hk_ => ⟨(Kd.fresh' (Kd.R_lt zic_) k_ hk_.2.1), (Kd.fresh' (Kd.R_lt zid_) k_ hk_.2.1), (Kd.freshB (g := gb427) (o := .cells #[.int .i64 t420, .slice Ao15 t421.length co15, .slice Ao16 t424.length co16] 61 (0, 0)) (by refine zb ?_; refine blk_put (cs := #[.int .i64 t420, .slice Ao15 t421.length co15, .slice none 0 0]) ?_ 2 _ rfl; refine zb ?_; refine blk_put (cs := #[.int .i64 t420, .slice none 0 0, .slice none 0 0]) ?_ 1 _ rfl; refine zb ?_; refine blk_put (cs := #[.int .i64 0, .slice none 0 0, .slice none 0 0]) ?_ 0 _ rfl; refine zb ?_; exact BK427.out) k_ hk_.2.1)⟩)) (below_size zbg_)) <| z (blk_below (g := gb427) (o := .cells #[.int .i64 t420, .slice Ao15 t421.length co15, .slice Ao16 t424.length co16] 61 (0, 0)) (by refine zb ?_; refine blk_put (cs := #[.int .i64 t420, .slice Ao15 t421.length co15, .slice none 0 0]) ?_ 2 _ rfl; refine zb ?_; refine blk_put (cs := #[.int .i64 t420, .slice none 0 0, .slice none 0 0]) ?_ 1 _ rfl; refine zb ?_; refine blk_put (cs := #[.int .i64 0, .slice none 0 0, .slice none 0 0]) ?_ 0 _ rfl; refine zb ?_; exact BK427.out) hb) <| z1 (below_step zbg_ hb); clear HO423 HO426 BK427 HB; obtain ⟨HO423, HO426, HO430, BK427, HB⟩ := n_; clear hb; (try clear hk); (try clear ho0); obtain ⟨hcz18_0, hcz18_1, hcz18_2, hfz18_0, hfz18_1, hfz18_2⟩ := zk3 BK427.out) | ((with_reducible refine gate_callee (f := 33) rfl ?_); refine goesL_ (some 61) rfl rfl Try.func33 (by kernel_rfl) rfl #[.agg #[.int .i64 t420, .slice Ao15 t421.length co15, .slice Ao16 t424.length co16]] rfl zf_ ?_; (with_reducible refine (spec_LevelsOf.calls k t420 _ _ t421 _ _ t424 t432 t435 _ ?side1 ?side2 ?side3 ?side4 A7.out).mono ?_); (case side1 => exact zie_); (case side2 => exact (Kd.R_reads' HO423.out).2.1); (case side3 => exact zif_); (case side4 => exact (Kd.R_reads' HO426.out).2.1); rintro e w19 ⟨v433, rfl, ho0, hb⟩; refine ⟨_, rfl, ?_⟩; have n_ := z (Kd.R_below (zr HO423.out) hb) <| z (Kd.R_below (zr HO426.out) hb) <| z (Kd.N_elder' zgf_ zch_ hb) <| z (Kd.N_lower (Kd.N_mono (ok' := fun k_ => some k_ ≠ (.slice Ao15 t421.length co15 : Value).ownBlock ∧ some k_ ≠ (.slice Ao16 t424.length co16 : Value).ownBlock ∧ some k_ ≠ (v429 : Value).ownBlock ∧ k_ ≠ gb427) (Kd.S_N (Kd.S_bound ho0)) (fun k_ hk_ => ⟨(Kd.fresh' (Kd.R_lt (zr HO423.out)) k_ hk_.2.1), (Kd.fresh' (Kd.R_lt (zr HO426.out)) k_ hk_.2.1), (Kd.fresh' (Kd.N_lt zgf_) k_ hk_.2.1), (Kd.freshB (g := gb427) (o := .cells #[.int .i64 t420, .slice Ao15 t421.length co15, .slice Ao16 t424.length co16] 61 (0, 0)) (zb BK427.out) k_ hk_.2.1)⟩)) (below_size zbg_)) <| z (blk_below (zb BK427.out) hb) <| z1 (below_step zbg_ hb); clear HO423 HO426 HO430 BK427 HB; obtain ⟨HO423, HO426, HO430, HO434, BK427, HB⟩ := n_; clear hb; (try clear ho0); obtain ⟨Ao20, co20, eo20⟩ := Kd.N_slice HO430.out; subst eo20; obtain ⟨Ao21, co21, eo21⟩ := Kd.N_slice HO434.out; subst eo21) | (go_at_call 34; (with_reducible refine (laws_sameLists.calls k _ _ t428 _ _ t432 true _ ?side1 ?side2 ?side3 ?side4 A9.out).mono ?_); (case side1 => repeat (first | exact (Kd.N_reads' HO430.out).2.2 | (with_reducible refine cA ?_ _) | (with_reducible refine cN ?_ _) | (with_reducible refine cD ?_))); (case side2 => exact (Kd.N_reads' HO430.out).2.1); (case side3 => repeat (first | exact (Kd.N_reads' HO434.out).2.2 | (with_reducible refine cA ?_ _) | (with_reducible refine cN ?_ _) | (with_reducible refine cD ?_))); (case side4 => exact (Kd.N_reads' HO434.out).2.1); rintro e w' ⟨rfl, ⟨nd, rfl⟩⟩))
   (try simp only [Act.put, sI, s0, sS])
   go_cut [] (fun wc => ∃ (kq : Nat), Aside0 (laws_FnLevels.j2 kq l1 = some r) ∧ Aside0 (kq ≤ k) ∧ Aside0 (Below w.heap.size w wc))
   case first =>
    as_aux_lemma =>
     have H := HC11.out; clear HC11
     by_cases c22 : t431 = true
     ·subst c22
      rw [if_pos rfl] at H; replace H := oB.mp H; obtain ⟨⟨t437, t440⟩, A230, H⟩ := H; (try dsimp only at H); have A23 := aM A230; clear A230; replace H := oB.mp H; obtain ⟨⟨t441, t444⟩, A240, H⟩ := H; (try dsimp only at H); have A24 := aM A240; clear A240
      by_cases c25 : t440 = true
      ·subst c25
       rw [if_pos rfl] at H
       by_cases c26 : t444 = true
       ·subst c26
        rw [if_pos rfl] at H; replace H := oB.mp H; obtain ⟨t445, A270, H⟩ := H; (try dsimp only at H); have A27 := aM A270; clear A270
        by_cases c28 : t445 = true
        ·subst c28
         rw [if_pos rfl] at H; have H' := aM H; clear H; obtain ⟨hcz29_0, hcz29_1, hcz29_2, hfz29_0, hfz29_1, hfz29_2⟩ := zk3 BK427.out
         go_wp2_with (first | ((with_reducible refine gate_callee (f := 35) rfl ?_); refine goesL_ (some 76) rfl rfl Try.func35 (by kernel_rfl) rfl #[.agg #[.int .i64 t420, .slice Ao15 t421.length co15, .slice Ao16 t424.length co16]] rfl zf_ ?_; (with_reducible refine (impl_GateDepths.calls k t420 _ _ t421 _ _ t424 t437 true _ ?side1 ?side2 ?side3 ?side4 A23.out).mono ?_); (case side1 => exact zie_); (case side2 => exact (Kd.R_reads' HO423.out).2.1); (case side3 => exact zif_); (case side4 => exact (Kd.R_reads' HO426.out).2.1); rintro e w30 ⟨v438, rfl, ho0, hb⟩; refine ⟨_, rfl, ?_⟩; have n_ := z (Kd.R_below (zr HO423.out) hb) <| z (Kd.R_elder' (zr HO426.out) (Kd.R_base ho0) hb) <| z (Kd.N_elder' zgf_ (Kd.R_base ho0) hb) <| z (Kd.N_elder' (by (with_reducible repeat (first | apply Kd.N_alloc | apply Kd.N_drewN | apply Kd.N_drew)); exact HO434.out) (Kd.R_base ho0) hb) <| z (Kd.R_lower (Kd.R_new' ho0 (Kd.R_lt (zr HO426.out))) (below_size zbg_)) <| z (blk_below (zb BK427.out) hb) <| z1 (below_step zbg_ hb); clear HO423 HO426 HO430 HO434 BK427 HB; obtain ⟨HO423, HO426, HO430, HO434, HO439, BK427, HB⟩ := n_; clear hb; (try clear ho0); obtain ⟨hcz31_0, hcz31_1, hcz31_2, hfz31_0, hfz31_1, hfz31_2⟩ := zk3 BK427.out) | ((with_reducible refine gate_callee (f := 36) rfl ?_); refine goesL_ (some 81) rfl rfl Try.func36 (by kernel_rfl) rfl #[.agg #[.int .i64 t420, .slice Ao15 t421.length co15, .slice Ao16 t424.length co16]] rfl zf_ ?_; (with_reducible refine (spec_GateDepths.calls k t420 _ _ t421 _ _ t424 t441 true _ ?side1 ?side2 ?side3 ?side4 A24.out).mono ?_); (case side1 => exact zie_); (case side2 => exact (Kd.R_reads' HO423.out).2.1); (case side3 => exact zif_); (case side4 => exact (Kd.R_reads' HO426.out).2.1); rintro e w32 ⟨v442, rfl, ho0, hb⟩; refine ⟨_, rfl, ?_⟩; have n_ := z (Kd.R_below (zr HO423.out) hb) <| z (Kd.R_elder' (zr HO426.out) (Kd.Q_base ho0) hb) <| z (Kd.N_elder' zgf_ (Kd.Q_base ho0) hb) <| z (Kd.N_elder' (by (with_reducible repeat (first | apply Kd.N_alloc | apply Kd.N_drewN | apply Kd.N_drew)); exact HO434.out) (Kd.Q_base ho0) hb) <| z (Kd.R_elder' (zr HO439.out) (Kd.Q_base ho0) hb) <| z (Kd.Q_lower (Kd.Q_new' (Kd.Q_new' ho0 (Kd.R_lt (zr HO426.out))) (Kd.R_lt (zr HO439.out))) (below_size zbg_)) <| z (blk_below (zb BK427.out) hb) <| z1 (below_step zbg_ hb); clear HO423 HO426 HO430 HO434 HO439 BK427 HB; obtain ⟨HO423, HO426, HO430, HO434, HO439, HO443, BK427, HB⟩ := n_; clear hb; (try clear ho0); obtain ⟨Ao33, co33, eo33⟩ := Kd.R_slice HO439.out; subst eo33; obtain ⟨Ao34, co34, eo34, _⟩ := Kd.Q_slice HO443.out; subst eo34) | (go_at_call 26; (with_reducible refine (laws_sameInts.calls k _ _ t437 _ _ t441 true _ ?side1 ?side2 ?side3 ?side4 A27.out).mono ?_); (case side1 => repeat (first | exact (Kd.R_reads' HO439.out).2.2 | (with_reducible refine cA ?_ _) | (with_reducible refine cN ?_ _) | (with_reducible refine cD ?_))); (case side2 => exact (Kd.R_reads' HO439.out).2.1); (case side3 => repeat (first | exact (Kd.Q_reads' HO443.out).2.2 | (with_reducible refine cA ?_ _) | (with_reducible refine cN ?_ _) | (with_reducible refine cD ?_))); (case side4 => exact (Kd.Q_reads' HO443.out).2.1); rintro e w' ⟨rfl, ⟨nd, rfl⟩⟩))
         go_loopg [14, 98] k (fun kq v14 v98 w' => ∃ (x14_1 : Int) (x98_1 : Int), v14 = .int .i64 x14_1 ∧ v98 = .int .i64 x98_1 ∧ Aside0 (laws_FnLevels.l0 kq l1 t441 x14_1 t432 (t432.length : Int) x98_1 t420 t421 t424 = some r) ∧ Aside0 (kq ≤ k) ∧ Aside0 (Kd.Q (Kd.int .i64) 3 w' w.heap.size (fun k_ => some k_ ≠ ((.slice Ao16 t424.length co16) : Value).ownBlock) (.slice Ao34 t441.length co34) t441) ∧ Aside0 (Kd.N (Kd.slice 3 (Kd.int .i64)) 39 w' w.heap.size (fun k_ => some k_ ≠ ((.slice Ao34 t441.length co34) : Value).ownBlock ∧ some k_ ≠ ((.slice Ao15 t421.length co15) : Value).ownBlock ∧ some k_ ≠ ((.slice Ao16 t424.length co16) : Value).ownBlock ∧ k_ ≠ gb427) (.slice Ao21 t432.length co21) t432) ∧ Aside0 (Kd.R k109 109 w' w.heap.size (fun _ => True) (.slice Ao15 t421.length co15) t421) ∧ Aside0 (Kd.R (Kd.int .i64) 3 w' w.heap.size (fun k_ => some k_ ≠ ((.slice Ao34 t441.length co34) : Value).ownBlock) (.slice Ao16 t424.length co16) t424) ∧ Aside0 (w'.heap[gb427]? = some (.cells #[.int .i64 t420, (.slice Ao15 t421.length co15), (.slice Ao16 t424.length co16)] 61 (0, 0))) ∧ Aside0 (Below w.heap.size w w'))
         case atStart => exact ⟨(0), (0), zc_, zc_, H', ⟨Nat.le_refl _⟩, ⟨by refine zq ?_; exact Kd.Q_mono HO443.out (fun _ hk => hk.1.2)⟩, ⟨by (with_reducible repeat (first | apply Kd.N_alloc | apply Kd.N_drewN | apply Kd.N_drew)); exact Kd.N_mono HO434.out (fun _ hk => ⟨hk.2, ⟨hk.1.1.1, ⟨hk.1.1.2.1, hk.1.1.2.2.2⟩⟩⟩)⟩, ⟨zr HO423.out⟩, ⟨by refine zr ?_; exact Kd.R_mono HO426.out (fun _ hk => hk.2)⟩, ⟨zb BK427.out⟩, ⟨zbg_⟩⟩
         case round =>
          as_aux_lemma =>
           clear H'; (try clear c1); (try clear c8b0); (try clear c8b1); (try clear c8b2); (try clear hcz14_0); (try clear hcz14_1); (try clear hcz14_2); (try clear hcz18_0); (try clear hcz18_1); (try clear hcz18_2); (try clear hcz29_0); (try clear hcz29_1); (try clear hcz29_2); (try clear hcz31_0); (try clear hcz31_1); (try clear hcz31_2); (try clear hfz14_0); (try clear hfz14_1); (try clear hfz14_2); (try clear hfz18_0); (try clear hfz18_1); (try clear hfz18_2); (try clear hfz29_0); (try clear hfz29_1); (try clear hfz29_2); (try clear hfz31_0); (try clear hfz31_1); (try clear hfz31_2); obtain ⟨x14_1, x98_1, rfl, rfl, HA, HK1, HO_12, HO_96, HO_428001, HO_428002, BK427, HB⟩ := hrel
           cases gk with
           | zero => exact absurd HA.out (by simp [laws_FnLevels.l0])
           | succ k1 =>
            have H := HA.out; clear HA
            simp only [laws_FnLevels.l0] at H
            by_cases c35 : x98_1 < (t432.length : Int)
            ·rw [if_pos c35] at H
             have c35b0 := decide_eq_true c35; clear c35; (first | rw [c35b0] | (simp only [i64_w, i32_w]; rw [c35b0]) | skip)
             by_cases c36 : 0 ≤ x98_1
             rotate_left
             ·rw [if_neg c36] at H
              exact q3n_ H
             rw [if_pos c36] at H; have c36b0 := decide_eq_true c36; clear c36
             by_cases c37 : x98_1 < (t432.length : Int)
             rotate_left
             ·rw [if_neg c37] at H
              exact q3n_ H
             rw [if_pos c37] at H; have c37b0 := decide_eq_true c37; clear c37; have H' := aM H; clear H; have p446 : 0 ≤ (x98_1 : Int) := of_decide_eq_true za_; have q446 : x98_1 < (t432.length : Int) := of_decide_eq_true za_; obtain ⟨ad446, A446_0, c446_0, e446, hx446_0, hl446_0, hi446_0⟩ := at_L4 (Kd.N_reads' HO_96.out).2.2 x98_1 p446 q446
             cases e446
             obtain ⟨ce446, hce446, hMe446, hcc446⟩ := Kd.N_get HO_96.out [] x98_1 p446 (by first | exact q446 | exact of_decide_eq_true za_ | (have e_ := (Kd.N_reads' HO_96.out).1; omega)); obtain ⟨ua446_0, uc446_0, rfl, ul446_0, ge446_0⟩ := Kd.FK_slice_open hMe446; have hv446_0 := hcc446 0 _ rfl; rw [Nat.add_zero, show ((Kd.slice 3 (Kd.int .i64))).sz = 1 from rfl, Nat.mul_one] at hv446_0; replace hv446_0 := Option.some.inj (hv446_0.symm.trans hx446_0)
             injection hv446_0 with hva_ hvn_ hvc_
             rw [hva_] at ge446_0; rw [hvc_] at ul446_0; have HL446_0 := aM (show Kd.V (Kd.int .i64) 3 _ w.heap.size _ _ (rd_L4 t432 x98_1) from Kd.V_mk ul446_0 ge446_0); clear hva_ hvn_ hvc_ ge446_0 ul446_0 hcc446 hce446; have HR446_0 := aM hi446_0; have HC446_0 := aM hl446_0; clear hi446_0 hl446_0; replace p446 := eq_true p446; replace q446 := eq_true q446
             go_wp2
             go_loopg [105] k1 (fun kq v105 w' => ∃ (x105_2 : Int), v105 = .int .i64 x105_2 ∧ Aside0 (laws_FnLevels.l1 kq l1 t441 x14_1 x98_1 (rd_L4 t432 x98_1) t432 (t432.length : Int) x98_1 (rd_L4 t432 x98_1) ((rd_L4 t432 x98_1).length : Int) x105_2 t420 t421 t424 = some r) ∧ Aside0 (kq ≤ k1) ∧ Aside0 (Kd.Q (Kd.int .i64) 3 w' w.heap.size (fun k_ => some k_ ≠ ((.slice Ao16 t424.length co16) : Value).ownBlock) (.slice Ao34 t441.length co34) t441) ∧ Aside0 (Kd.N (Kd.slice 3 (Kd.int .i64)) 39 w' w.heap.size (fun k_ => some k_ ≠ ((.slice Ao34 t441.length co34) : Value).ownBlock ∧ some k_ ≠ ((.slice Ao15 t421.length co15) : Value).ownBlock ∧ some k_ ≠ ((.slice Ao16 t424.length co16) : Value).ownBlock ∧ k_ ≠ gb427) (.slice (some ad446) t432.length co21) t432) ∧ Aside0 (Kd.R k109 109 w' w.heap.size (fun _ => True) (.slice Ao15 t421.length co15) t421) ∧ Aside0 (Kd.R (Kd.int .i64) 3 w' w.heap.size (fun k_ => some k_ ≠ ((.slice Ao34 t441.length co34) : Value).ownBlock) (.slice Ao16 t424.length co16) t424) ∧ Aside0 (w'.heap[gb427]? = some (.cells #[.int .i64 t420, (.slice Ao15 t421.length co15), (.slice Ao16 t424.length co16)] 61 (0, 0))) ∧ Aside0 (Kd.C (Kd.int .i64) w' A446_0 (rd_L4 t432 x98_1).length (rd_L4 t432 x98_1)) ∧ Aside0 (Below w.heap.size w w'))
             case atStart => exact ⟨(0), zc_, H', ⟨Nat.le_refl _⟩, ⟨zq HO_12.out⟩, ⟨zfc_⟩, ⟨zr HO_428001.out⟩, ⟨zr HO_428002.out⟩, ⟨zb BK427.out⟩, ⟨zfd_⟩, ⟨zbg_⟩⟩
             case round =>
              as_aux_lemma =>
               clear H'; (try clear c35b0); (try clear c36b0); (try clear c37b0); (try clear hx446_0); (try clear p446); (try clear q446); obtain ⟨x105_2, rfl, HA, HK2, HO_12, HO_96, HO_428001, HO_428002, BK427, HR446_0, HB⟩ := hrel
               cases gk with
               | zero => exact absurd HA.out (by simp [laws_FnLevels.l1])
               | succ k2 =>
                have H := HA.out; clear HA
                simp only [laws_FnLevels.l1] at H
                by_cases c38 : x105_2 < ((rd_L4 t432 x98_1).length : Int)
                ·rw [if_pos c38] at H
                 have c38b0 := decide_eq_true c38; clear c38
                 by_cases c39 : 0 ≤ x105_2
                 rotate_left
                 ·rw [if_neg c39] at H
                  exact q3n_ H
                 rw [if_pos c39] at H; have c39b0 := decide_eq_true c39; clear c39
                 by_cases c40 : x105_2 < ((rd_L4 t432 x98_1).length : Int)
                 rotate_left
                 ·rw [if_neg c40] at H
                  exact q3n_ H
                 rw [if_pos c40] at H; have c40b0 := decide_eq_true c40; clear c40
                 by_cases c41 : (rd (rd_L4 t432 x98_1) x105_2) ≥ t420
                 ·rw [if_pos c41] at H
                  have c41b0 : decide (t420 ≤ (rd (rd_L4 t432 x98_1) x105_2)) = true := decide_eq_true c41; clear c41; obtain ⟨ji42, hji42⟩ : ∃ j_ : Int, (wrap64 ((rd (rd_L4 t432 x98_1) x105_2) - t420)) = j_ := ⟨_, rfl⟩; replace H : (if 0 ≤ (ji42) then (if (ji42) < (t441.length : Int) then (if (rd t441 (ji42)) = x98_1 then (if (rd (rd_L4 t432 x98_1) x105_2) < t420 then (if x98_1 = 0 then (laws_FnLevels.l1 k2 l1 t441 x14_1 x98_1 (rd_L4 t432 x98_1) t432 (t432.length : Int) x98_1 (rd_L4 t432 x98_1) ((rd_L4 t432 x98_1).length : Int) (wrap64 (x105_2 + 1)) t420 t421 t424) else (none)) else (laws_FnLevels.l1 k2 l1 t441 x14_1 x98_1 (rd_L4 t432 x98_1) t432 (t432.length : Int) x98_1 (rd_L4 t432 x98_1) ((rd_L4 t432 x98_1).length : Int) (wrap64 (x105_2 + 1)) t420 t421 t424)) else (none)) else (none)) else (none)) = some r := by first | (rw [hji42] at H; exact H) | (simp only [hji42] at H ⊢; exact H)
                  have hji42w : (IntKind.i64.wrap ((rd (rd_L4 t432 x98_1) x105_2) - t420)) = ji42 := (i64_w _).trans hji42
                  by_cases c43 : 0 ≤ (ji42)
                  rotate_left
                  ·rw [if_neg c43] at H
                   exact q3n_ H
                  rw [if_pos c43] at H; have c43b0 := decide_eq_true c43; clear c43
                  by_cases c44 : (ji42) < (t441.length : Int)
                  rotate_left
                  ·rw [if_neg c44] at H
                   exact q3n_ H
                  rw [if_pos c44] at H; have c44b0 := decide_eq_true c44; clear c44
                  by_cases c45 : (rd t441 (ji42)) = x98_1
                  rotate_left
                  ·rw [if_neg c45] at H
                   exact q3n_ H
                  rw [if_pos c45] at H; have c45b0 := beq_iff_eq.mpr c45; have c45b1 := bne_eq_false_iff_eq.mpr c45; clear c45
                  by_cases c46 : (rd (rd_L4 t432 x98_1) x105_2) < t420
                  ·rw [if_pos c46] at H
                   have c46b0 := decide_eq_true c46; clear c46
                   by_cases c47 : x98_1 = 0
                   rotate_left
                   ·rw [if_neg c47] at H
                    exact q3n_ H
                   rw [if_pos c47] at H; have c47b0 := beq_iff_eq.mpr c47; have c47b1 := bne_eq_false_iff_eq.mpr c47; clear c47; have H' := aM H; clear H; have p447 : 0 ≤ (x105_2 : Int) := of_decide_eq_true za_; have q447 : x105_2 < ((rd_L4 t432 x98_1).length : Int) := of_decide_eq_true za_; obtain ⟨ad447, e447, hx447_0⟩ := Kd.at_int HR446_0.out x105_2 p447 q447
                   cases e447
                   (try (replace hx447_0 := q3h_ HB.out hx447_0)); replace p447 := eq_true p447; replace q447 := eq_true q447; obtain ⟨hcz48_0, hcz48_1, hcz48_2, hfz48_0, hfz48_1, hfz48_2⟩ := zk3 BK427.out; have p448 : 0 ≤ ((ji42) : Int) := of_decide_eq_true za_; have q448 : (ji42) < (t441.length : Int) := of_decide_eq_true za_; obtain ⟨ad448, e448, hx448_0⟩ := Kd.at_int (Kd.Q_reads' HO_12.out).2.2 (ji42) p448 q448
                   cases e448
                   replace p448 := eq_true p448; replace q448 := eq_true q448
                   go_wp2
                   go_roundg k2
                   case measure => have := HK1.out; have := HK2.out; omega
                   case rel => exact ⟨(wrap64 (x105_2 + 1)), zc_, H', ⟨zbh_⟩, ⟨zq HO_12.out⟩, ⟨zfc_⟩, ⟨zr HO_428001.out⟩, ⟨zr HO_428002.out⟩, ⟨zb BK427.out⟩, ⟨zfd_⟩, ⟨zbg_⟩⟩
                  ·rw [if_neg c46] at H
                   have c46b0 := decide_eq_false c46; clear c46; have H' := aM H; clear H; have p447 : 0 ≤ (x105_2 : Int) := of_decide_eq_true za_; have q447 : x105_2 < ((rd_L4 t432 x98_1).length : Int) := of_decide_eq_true za_; obtain ⟨ad447, e447, hx447_0⟩ := Kd.at_int HR446_0.out x105_2 p447 q447
                   cases e447
                   (try (replace hx447_0 := q3h_ HB.out hx447_0)); replace p447 := eq_true p447; replace q447 := eq_true q447; obtain ⟨hcz49_0, hcz49_1, hcz49_2, hfz49_0, hfz49_1, hfz49_2⟩ := zk3 BK427.out; have p448 : 0 ≤ ((ji42) : Int) := of_decide_eq_true za_; have q448 : (ji42) < (t441.length : Int) := of_decide_eq_true za_; obtain ⟨ad448, e448, hx448_0⟩ := Kd.at_int (Kd.Q_reads' HO_12.out).2.2 (ji42) p448 q448
                   cases e448
                   replace p448 := eq_true p448; replace q448 := eq_true q448
                   go_wp2
                   go_roundg k2
                   case measure => have := HK1.out; have := HK2.out; omega
                   case rel => exact ⟨(wrap64 (x105_2 + 1)), zc_, H', ⟨zbh_⟩, ⟨zq HO_12.out⟩, ⟨zfc_⟩, ⟨zr HO_428001.out⟩, ⟨zr HO_428002.out⟩, ⟨zb BK427.out⟩, ⟨zfd_⟩, ⟨zbg_⟩⟩
                 ·rw [if_neg c41] at H
                  have c41b0 : decide (t420 ≤ (rd (rd_L4 t432 x98_1) x105_2)) = false := decide_eq_false c41; clear c41
                  by_cases c50 : (rd (rd_L4 t432 x98_1) x105_2) < t420
                  ·rw [if_pos c50] at H
                   have c50b0 := decide_eq_true c50; clear c50
                   by_cases c51 : x98_1 = 0
                   rotate_left
                   ·rw [if_neg c51] at H
                    exact q3n_ H
                   rw [if_pos c51] at H; have c51b0 := beq_iff_eq.mpr c51; have c51b1 := bne_eq_false_iff_eq.mpr c51; clear c51; have H' := aM H; clear H; have p447 : 0 ≤ (x105_2 : Int) := of_decide_eq_true za_; have q447 : x105_2 < ((rd_L4 t432 x98_1).length : Int) := of_decide_eq_true za_; obtain ⟨ad447, e447, hx447_0⟩ := Kd.at_int HR446_0.out x105_2 p447 q447
                   cases e447
                   (try (replace hx447_0 := q3h_ HB.out hx447_0)); replace p447 := eq_true p447; replace q447 := eq_true q447; obtain ⟨hcz52_0, hcz52_1, hcz52_2, hfz52_0, hfz52_1, hfz52_2⟩ := zk3 BK427.out
                   go_wp2
                   go_roundg k2
                   case measure => have := HK1.out; have := HK2.out; omega
                   case rel => exact ⟨(wrap64 (x105_2 + 1)), zc_, H', ⟨zbh_⟩, ⟨zq HO_12.out⟩, ⟨zfc_⟩, ⟨zr HO_428001.out⟩, ⟨zr HO_428002.out⟩, ⟨zb BK427.out⟩, ⟨zfd_⟩, ⟨zbg_⟩⟩
                  ·rw [if_neg c50] at H
                   have c50b0 := decide_eq_false c50; clear c50; have H' := aM H; clear H; have p447 : 0 ≤ (x105_2 : Int) := of_decide_eq_true za_; have q447 : x105_2 < ((rd_L4 t432 x98_1).length : Int) := of_decide_eq_true za_; obtain ⟨ad447, e447, hx447_0⟩ := Kd.at_int HR446_0.out x105_2 p447 q447
                   cases e447
                   (try (replace hx447_0 := q3h_ HB.out hx447_0)); replace p447 := eq_true p447; replace q447 := eq_true q447; obtain ⟨hcz53_0, hcz53_1, hcz53_2, hfz53_0, hfz53_1, hfz53_2⟩ := zk3 BK427.out
                   go_wp2
                   go_roundg k2
                   case measure => have := HK1.out; have := HK2.out; omega
                   case rel => exact ⟨(wrap64 (x105_2 + 1)), zc_, H', ⟨zbh_⟩, ⟨zq HO_12.out⟩, ⟨zfc_⟩, ⟨zr HO_428001.out⟩, ⟨zr HO_428002.out⟩, ⟨zb BK427.out⟩, ⟨zfd_⟩, ⟨zbg_⟩⟩
                ·rw [if_neg c38] at H
                 have c38b0 := decide_eq_false c38; clear c38; have H' := aM H; clear H
                 go_wp2
                 go_roundg k2
                 case measure => have := HK1.out; have := HK2.out; omega
                 case rel => exact ⟨(wrap64 (x14_1 + ((rd_L4 t432 x98_1).length : Int))), (wrap64 (x98_1 + 1)), zc_, zc_, H', ⟨zbh_⟩, ⟨zq HO_12.out⟩, ⟨zfc_⟩, ⟨zr HO_428001.out⟩, ⟨zr HO_428002.out⟩, ⟨zb BK427.out⟩, ⟨zbg_⟩⟩
            ·rw [if_neg c35] at H
             have c35b0 := decide_eq_false c35; clear c35; (first | rw [c35b0] | (simp only [i64_w, i32_w]; rw [c35b0]) | skip)
             by_cases c54 : x14_1 = (wrap64 (t420 + (t421.length : Int)))
             rotate_left
             ·rw [if_neg c54] at H
              exact q3n_ H
             rw [if_pos c54] at H; have c54b0 := beq_iff_eq.mpr c54; have c54b1 := bne_eq_false_iff_eq.mpr c54; clear c54; have H' := aM H; clear H; obtain ⟨hcz55_0, hcz55_1, hcz55_2, hfz55_0, hfz55_1, hfz55_2⟩ := zk3 BK427.out
             go_wp2
             go_meet
             case rel => exact ⟨_, H', ⟨by have := HK1.out; first | omega | exact Nat.le_refl _⟩, ⟨zbg_⟩⟩
        ·replace c28 := Bool.eq_false_iff.mpr c28
         subst c28; rw [if_neg (show ¬ (false = true) by decide)] at H; exact q3n_ H
       ·replace c26 := Bool.eq_false_iff.mpr c26
        subst c26; rw [if_neg (show ¬ (false = true) by decide)] at H; exact q3n_ H
      ·replace c25 := Bool.eq_false_iff.mpr c25
       subst c25; rw [if_neg (show ¬ (false = true) by decide)] at H; exact q3n_ H
     ·replace c22 := Bool.eq_false_iff.mpr c22
      subst c22; rw [if_neg (show ¬ (false = true) by decide)] at H; have H' := aM H; clear H
      go_wp2
      go_meet
      case rel => exact ⟨_, H', ⟨zdb_⟩, ⟨zbg_⟩⟩
   case rest =>
    as_aux_lemma =>
     clear HC11; (try clear c1); (try clear c8b0); (try clear c8b1); (try clear c8b2); (try clear hcz14_0); (try clear hcz14_1); (try clear hcz14_2); (try clear hcz18_0); (try clear hcz18_1); (try clear hcz18_2); (try clear hfz14_0); (try clear hfz14_1); (try clear hfz14_2); (try clear hfz18_0); (try clear hfz18_1); (try clear hfz18_2); obtain ⟨kq, HA, HJ10, HB⟩ := hcut
     cases kq with
     | zero => exact absurd HA.out (by simp [laws_FnLevels.j2])
     | succ kj10 =>
      have H := HA.out; clear HA
      simp only [laws_FnLevels.j2] at H
      replace H := oB.mp H; obtain ⟨⟨t449, t450⟩, A560, H⟩ := H; (try dsimp only at H); have A56 := aM A560; clear A560; replace H := oB.mp H; obtain ⟨⟨t453, t454, t455⟩, A570, H⟩ := H; (try dsimp only at H); have A57 := aM A570; clear A570; replace H := oB.mp H; obtain ⟨⟨t458, t459, t460⟩, A580, H⟩ := H; (try dsimp only at H); have A58 := aM A580; clear A580; replace H := oB.mp H; obtain ⟨⟨t463, t464⟩, A590, H⟩ := H; (try dsimp only at H); have A59 := aM A590; clear A590; replace H := oB.mp H; obtain ⟨⟨t465, t466⟩, A600, H⟩ := H; (try dsimp only at H); have A60 := aM A600; clear A600; replace H := oB.mp H; obtain ⟨⟨t467, t468⟩, A610, H⟩ := H; (try dsimp only at H); have A61 := aM A610; clear A610; replace H := oB.mp H; obtain ⟨⟨t469, t470⟩, A620, H⟩ := H; (try dsimp only at H); have A62 := aM A620; clear A620; replace H := oB.mp H; obtain ⟨⟨t471, t472⟩, A630, H⟩ := H; (try dsimp only at H); have A63 := aM A630; clear A630; replace H := oB.mp H; obtain ⟨⟨t475, t476⟩, A640, H⟩ := H; (try dsimp only at H); have A64 := aM A640; clear A640; replace H := oB.mp H; obtain ⟨⟨t479, t480⟩, A650, H⟩ := H; (try dsimp only at H); have A65 := aM A650; clear A650; replace H := oB.mp H; obtain ⟨⟨t483, t484⟩, A660, H⟩ := H; (try dsimp only at H); have A66 := aM A660; clear A660
      by_cases c67 : (t455 != t460) = true
      ·rw [if_pos c67] at H
       exact q3n_ H
      rw [if_neg c67] at H; have c67b0 : (t455 != t460) = false := by simpa using c67
      (try (have c67b1 : decide (t455 = t460) = true := by simpa using c67)); (try (have c67b2 : (t455 == t460) = true := by simpa using c67)); clear c67; replace H := oB.mp H; obtain ⟨t487, A680, H⟩ := H; (try dsimp only at H); have A68 := aM A680; clear A680
      by_cases c69 : t487 = true
      ·subst c69
       rw [if_pos rfl] at H
       by_cases c70 : t454 = t459
       rotate_left
       ·rw [if_neg c70] at H
        exact q3n_ H
       rw [if_pos c70] at H; have c70b0 := beq_iff_eq.mpr c70; have c70b1 := bne_eq_false_iff_eq.mpr c70; clear c70
       by_cases c71 : (t464 != t466) = true
       ·rw [if_pos c71] at H
        exact q3n_ H
       rw [if_neg c71] at H; have c71b0 : (t464 != t466) = false := by simpa using c71
       (try (have c71b1 : decide (t464 = t466) = true := by simpa using c71)); (try (have c71b2 : (t464 == t466) = true := by simpa using c71)); clear c71
       by_cases c72 : t463 = t465
       rotate_left
       ·rw [if_neg c72] at H
        exact q3n_ H
       rw [if_pos c72] at H; have c72b0 := beq_iff_eq.mpr c72; have c72b1 := bne_eq_false_iff_eq.mpr c72; clear c72
       by_cases c73 : (t468 != t470) = true
       ·rw [if_pos c73] at H
        exact q3n_ H
       rw [if_neg c73] at H; have c73b0 : (t468 != t470) = false := by simpa using c73
       (try (have c73b1 : decide (t468 = t470) = true := by simpa using c73)); (try (have c73b2 : (t468 == t470) = true := by simpa using c73)); clear c73
       by_cases c74 : t467 = t469
       rotate_left
       ·rw [if_neg c74] at H
        exact q3n_ H
       rw [if_pos c74] at H; have c74b0 := beq_iff_eq.mpr c74; have c74b1 := bne_eq_false_iff_eq.mpr c74; clear c74
       by_cases c75 : (t472 != t476) = true
       ·rw [if_pos c75] at H
        exact q3n_ H
       rw [if_neg c75] at H; have c75b0 : (t472 != t476) = false := by simpa using c75
       (try (have c75b1 : decide (t472 = t476) = true := by simpa using c75)); (try (have c75b2 : (t472 == t476) = true := by simpa using c75)); clear c75; replace H := oB.mp H; obtain ⟨t488, A760, H⟩ := H; (try dsimp only at H); have A76 := aM A760; clear A760
       by_cases c77 : t488 = true
       ·subst c77
        rw [if_pos rfl] at H
        by_cases c78 : (t480 != t484) = true
        ·rw [if_pos c78] at H
         exact q3n_ H
        rw [if_neg c78] at H; have c78b0 : (t480 != t484) = false := by simpa using c78
        (try (have c78b1 : decide (t480 = t484) = true := by simpa using c78)); (try (have c78b2 : (t480 == t484) = true := by simpa using c78)); clear c78; replace H := oB.mp H; obtain ⟨t489, A790, H⟩ := H; (try dsimp only at H); have A79 := aM A790; clear A790
        by_cases c80 : t489 = true
        ·subst c80
         rw [if_pos rfl] at H
         by_cases c81 : (t464 != t455) = true
         ·rw [if_pos c81] at H
          exact q3n_ H
         rw [if_neg c81] at H; have c81b0 : (t464 != t455) = false := by simpa using c81
         (try (have c81b1 : decide (t464 = t455) = true := by simpa using c81)); (try (have c81b2 : (t464 == t455) = true := by simpa using c81)); clear c81
         by_cases c82 : (t468 != t455) = true
         ·rw [if_pos c82] at H
          exact q3n_ H
         rw [if_neg c82] at H; have c82b0 : (t468 != t455) = false := by simpa using c82
         (try (have c82b1 : decide (t468 = t455) = true := by simpa using c82)); (try (have c82b2 : (t468 == t455) = true := by simpa using c82)); clear c82
         by_cases c83 : (t472 != t455) = true
         ·rw [if_pos c83] at H
          exact q3n_ H
         rw [if_neg c83] at H; have c83b0 : (t472 != t455) = false := by simpa using c83
         (try (have c83b1 : decide (t472 = t455) = true := by simpa using c83)); (try (have c83b2 : (t472 == t455) = true := by simpa using c83)); clear c83
         by_cases c84 : (t480 != t455) = true
         ·rw [if_pos c84] at H
          exact q3n_ H
         rw [if_neg c84] at H; have c84b0 : (t480 != t455) = false := by simpa using c84
         (try (have c84b1 : decide (t480 = t455) = true := by simpa using c84)); (try (have c84b2 : (t480 == t455) = true := by simpa using c84)); clear c84; replace H := oB.mp H; obtain ⟨t490, A850, H⟩ := H; (try dsimp only at H); have A85 := aM A850; clear A850
         by_cases c86 : (t490 != t455) = true
         ·rw [if_pos c86] at H
          exact q3n_ H
         rw [if_neg c86] at H; have c86b0 : (t490 != t455) = false := by simpa using c86
         (try (have c86b1 : decide (t490 = t455) = true := by simpa using c86)); (try (have c86b2 : (t490 == t455) = true := by simpa using c86)); clear c86
         by_cases c87 : t455 = true
         ·subst c87
          rw [if_pos rfl] at H; obtain ⟨y491, hy491⟩ : ∃ y_ : List (List Int), y_ = (([t458, t475, t483] : List (List Int))) := ⟨_, rfl⟩; replace H : (laws_FnLevels.l2 kj10 t449 t450 t459 t465 t469 y491 (y491.length : Int) 0) = some r := q3y_ hy491 H
          have Ny491 := aM hy491; clear hy491; have H' := aM H; clear H
          go_upto_region 30 with (first | ((with_reducible refine gate_callee (f := 37) rfl ?_); refine goesL_ (some 150) rfl rfl Try.func37 (by kernel_rfl) rfl #[.slice A1 l1.length c1] rfl zf_ ?_; (with_reducible refine (spec_DrawFewestCrossings.calls _ _ l1 t449 t450 _ ?side1 ?side2 A56.out).mono ?_); (case side1 => repeat (first | exact (Kd.C_below HR1.out HB.out) | (with_reducible refine cA ?_ _) | (with_reducible refine cN ?_ _) | (with_reducible refine cD ?_))); (case side2 => exact HC1.out); rintro e w88 ⟨v451, rfl, ho0, hb⟩; refine ⟨_, rfl, ?_⟩; have n_ := z (Kd.N_lower (Kd.N_mono (ok' := fun k_ => True) (Kd.S_N (Kd.S_bound ho0)) (fun k_ hk_ => trivial)) (below_size zb_)) <| z1 (below_step zb_ hb); clear HB; obtain ⟨HO452, HB⟩ := n_; clear hb; (try clear ho0); obtain ⟨Ao89, co89, eo89⟩ := Kd.N_slice HO452.out; subst eo89) | ((with_reducible refine gate_callee (f := 38) rfl ?_); refine goesL_ (some 156) rfl rfl Try.func38 (by kernel_rfl) rfl #[.slice Ao89 t449.length co89, .int .i64 t450] rfl zf_ ?_; (with_reducible refine (impl_FewestCrossings.calls kj10 _ _ t449 t450 t453 t454 true _ ?side1 ?side2 A57.out).mono ?_); (case side1 => exact zbb_); (case side2 => exact zbc_); rintro e w90 ⟨v456, rfl, ho0, hb⟩; refine ⟨_, rfl, ?_⟩; have n_ := z (Kd.N_elder' zbf_ (Kd.R_base ho0) hb) <| z (Kd.R_lower ho0 (below_size zb_)) <| z1 (below_step zb_ hb); clear HO452 HB; obtain ⟨HO452, HO457, HB⟩ := n_; clear hb; (try clear ho0)) | ((with_reducible refine gate_callee (f := 39) rfl ?_); refine goesL_ (some 163) rfl rfl Try.func39 (by kernel_rfl) rfl #[.slice Ao89 t449.length co89, .int .i64 t450] rfl zf_ ?_; (with_reducible refine (spec_FewestCrossings.calls kj10 _ _ t449 t450 t458 t459 t460 _ ?side1 ?side2 A58.out).mono ?_); (case side1 => exact zbb_); (case side2 => exact zbc_); rintro e w91 ⟨v461, rfl, ho0, hb⟩; refine ⟨_, rfl, ?_⟩; have n_ := z (Kd.N_elder' zbf_ (Kd.R_base ho0) hb) <| z (Kd.R_elder' (zr HO457.out) (Kd.R_base ho0) hb) <| z (Kd.R_lower (Kd.R_new' ho0 (Kd.R_lt (zr HO457.out))) (below_size zb_)) <| z1 (below_step zb_ hb); clear HO452 HO457 HB; obtain ⟨HO452, HO457, HO462, HB⟩ := n_; clear hb; (try clear ho0)))
          as_aux_lemma =>
           go_upto_region 33 with (first | ((with_reducible refine gate_callee (f := 40) rfl ?_); refine goesL_ (some 170) rfl rfl Try.func40 (by kernel_rfl) rfl #[.slice Ao89 t449.length co89, .int .i64 t450] rfl zf_ ?_; (with_reducible refine (impl_CrossingBound.calls kj10 _ _ t449 t450 t463 t464 _ ?side1 ?side2 A59.out).mono ?_); (case side1 => exact zbb_); (case side2 => exact zbc_); rintro e w92 ⟨rfl, hb⟩; refine ⟨_, rfl, ?_⟩; have n_ := z (Kd.N_below zbf_ hb) <| z (Kd.R_below (zr HO457.out) hb) <| z (Kd.R_below (zr HO462.out) hb) <| z1 (below_step zb_ hb); clear HO452 HO457 HO462 HB; obtain ⟨HO452, HO457, HO462, HB⟩ := n_; clear hb) | ((with_reducible refine gate_callee (f := 41) rfl ?_); refine goesL_ (some 176) rfl rfl Try.func41 (by kernel_rfl) rfl #[.slice Ao89 t449.length co89, .int .i64 t450] rfl zf_ ?_; (with_reducible refine (spec_CrossingBound.calls kj10 _ _ t449 t450 t465 t466 _ ?side1 ?side2 A60.out).mono ?_); (case side1 => exact zbb_); (case side2 => exact zbc_); rintro e w93 ⟨rfl, hb⟩; refine ⟨_, rfl, ?_⟩; have n_ := z (Kd.N_below zbf_ hb) <| z (Kd.R_below (zr HO457.out) hb) <| z (Kd.R_below (zr HO462.out) hb) <| z1 (below_step zb_ hb); clear HO452 HO457 HO462 HB; obtain ⟨HO452, HO457, HO462, HB⟩ := n_; clear hb) | ((with_reducible refine gate_callee (f := 42) rfl ?_); refine goesL_ (some 182) rfl rfl Try.func42 (by kernel_rfl) rfl #[.slice Ao89 t449.length co89, .int .i64 t450] rfl zf_ ?_; (with_reducible refine (impl_CountCrossings.calls kj10 _ _ t449 t450 t467 t468 _ ?side1 ?side2 A61.out).mono ?_); (case side1 => exact zbb_); (case side2 => exact zbc_); rintro e w' ⟨rfl, ⟨nd, rfl⟩⟩; refine ⟨_, rfl, ?_⟩))
           as_aux_lemma =>
            go_upto_region 36 with (first | ((with_reducible refine gate_callee (f := 43) rfl ?_); refine goesL_ (some 188) rfl rfl Try.func43 (by kernel_rfl) rfl #[.slice Ao89 t449.length co89, .int .i64 t450] rfl zf_ ?_; (with_reducible refine (spec_CountCrossings.calls kj10 _ _ t449 t450 t469 t470 _ ?side1 ?side2 A62.out).mono ?_); (case side1 => exact zbb_); (case side2 => exact zbc_); rintro e w' ⟨rfl, ⟨nd, rfl⟩⟩; refine ⟨_, rfl, ?_⟩) | ((with_reducible refine gate_callee (f := 44) rfl ?_); refine goesL_ (some 194) rfl rfl Try.func44 (by kernel_rfl) rfl #[.slice Ao89 t449.length co89, .int .i64 t450] rfl zf_ ?_; (with_reducible refine (impl_SwappedOrder.calls kj10 _ _ t449 t450 t471 t472 _ ?side1 ?side2 A63.out).mono ?_); (case side1 => exact zbb_); (case side2 => exact zbc_); rintro e w94 ⟨v473, rfl, ho0, hb⟩; refine ⟨_, rfl, ?_⟩; have n_ := z (Kd.N_elder' zbf_ (Kd.R_base ho0) hb) <| z (Kd.R_elder' (zr HO457.out) (Kd.R_base ho0) hb) <| z (Kd.R_elder' (zr HO462.out) (Kd.R_base ho0) hb) <| z (Kd.R_lower (Kd.R_new' (Kd.R_new' ho0 (Kd.R_lt (zr HO457.out))) (Kd.R_lt (zr HO462.out))) (below_size zb_)) <| z1 (below_step zb_ hb); clear HO452 HO457 HO462 HB; obtain ⟨HO452, HO457, HO462, HO474, HB⟩ := n_; clear hb; (try clear ho0)) | ((with_reducible refine gate_callee (f := 45) rfl ?_); refine goesL_ (some 200) rfl rfl Try.func45 (by kernel_rfl) rfl #[.slice Ao89 t449.length co89, .int .i64 t450] rfl zf_ ?_; (with_reducible refine (spec_SwappedOrder.calls kj10 _ _ t449 t450 t475 t476 _ ?side1 ?side2 A64.out).mono ?_); (case side1 => exact zbb_); (case side2 => exact zbc_); rintro e w95 ⟨v477, rfl, ho0, hb⟩; refine ⟨_, rfl, ?_⟩; have n_ := z (Kd.N_elder' zbf_ (Kd.R_base ho0) hb) <| z (Kd.R_elder' (zr HO457.out) (Kd.R_base ho0) hb) <| z (Kd.R_elder' (zr HO462.out) (Kd.R_base ho0) hb) <| z (Kd.R_elder' (zr HO474.out) (Kd.R_base ho0) hb) <| z (Kd.R_lower (Kd.R_new' (Kd.R_new' (Kd.R_new' ho0 (Kd.R_lt (zr HO457.out))) (Kd.R_lt (zr HO462.out))) (Kd.R_lt (zr HO474.out))) (below_size zb_)) <| z1 (below_step zb_ hb); clear HO452 HO457 HO462 HO474 HB; obtain ⟨HO452, HO457, HO462, HO474, HO478, HB⟩ := n_; clear hb; (try clear ho0)))
            as_aux_lemma =>
             go_upto_region 41 with (first | ((with_reducible refine gate_callee (f := 46) rfl ?_); refine goesL_ (some 206) rfl rfl Try.func46 (by kernel_rfl) rfl #[.slice Ao89 t449.length co89, .int .i64 t450] rfl zf_ ?_; (with_reducible refine (impl_MiddleOrder.calls kj10 _ _ t449 t450 t479 t480 _ ?side1 ?side2 A65.out).mono ?_); (case side1 => exact zbb_); (case side2 => exact zbc_); rintro e w96 ⟨v481, rfl, ho0, hb⟩; refine ⟨_, rfl, ?_⟩; have n_ := z (Kd.N_elder' zbf_ (Kd.R_base ho0) hb) <| z (Kd.R_elder' (zr HO457.out) (Kd.R_base ho0) hb) <| z (Kd.R_elder' (zr HO462.out) (Kd.R_base ho0) hb) <| z (Kd.R_elder' (zr HO474.out) (Kd.R_base ho0) hb) <| z (Kd.R_elder' (zr HO478.out) (Kd.R_base ho0) hb) <| z (Kd.R_lower (Kd.R_new' (Kd.R_new' (Kd.R_new' (Kd.R_new' ho0 (Kd.R_lt (zr HO457.out))) (Kd.R_lt (zr HO462.out))) (Kd.R_lt (zr HO474.out))) (Kd.R_lt (zr HO478.out))) (below_size zb_)) <| z1 (below_step zb_ hb); clear HO452 HO457 HO462 HO474 HO478 HB; obtain ⟨HO452, HO457, HO462, HO474, HO478, HO482, HB⟩ := n_; clear hb; (try clear ho0)) | ((with_reducible refine gate_callee (f := 47) rfl ?_); refine goesL_ (some 212) rfl rfl Try.func47 (by kernel_rfl) rfl #[.slice Ao89 t449.length co89, .int .i64 t450] rfl zf_ ?_; (with_reducible refine (spec_MiddleOrder.calls kj10 _ _ t449 t450 t483 t484 _ ?side1 ?side2 A66.out).mono ?_); (case side1 => exact zbb_); (case side2 => exact zbc_); rintro e w97 ⟨v485, rfl, ho0, hb⟩; refine ⟨_, rfl, ?_⟩; have n_ := z (Kd.N_elder' zbf_ (Kd.R_base ho0) hb) <| z (Kd.R_elder' (zr HO457.out) (Kd.R_base ho0) hb) <| z (Kd.R_elder' (zr HO462.out) (Kd.R_base ho0) hb) <| z (Kd.R_elder' (zr HO474.out) (Kd.R_base ho0) hb) <| z (Kd.R_elder' (zr HO478.out) (Kd.R_base ho0) hb) <| z (Kd.R_elder' (zr HO482.out) (Kd.R_base ho0) hb) <| z (Kd.R_lower (Kd.R_new' (Kd.R_new' (Kd.R_new' (Kd.R_new' (Kd.R_new' ho0 (Kd.R_lt (zr HO457.out))) (Kd.R_lt (zr HO462.out))) (Kd.R_lt (zr HO474.out))) (Kd.R_lt (zr HO478.out))) (Kd.R_lt (zr HO482.out))) (below_size zb_)) <| z1 (below_step zb_ hb); clear HO452 HO457 HO462 HO474 HO478 HO482 HB; obtain ⟨HO452, HO457, HO462, HO474, HO478, HO482, HO486, HB⟩ := n_; clear hb; (try clear ho0); obtain ⟨Ao98, co98, eo98⟩ := Kd.R_slice HO457.out; subst eo98; obtain ⟨Ao99, co99, eo99⟩ := Kd.R_slice HO462.out; subst eo99) | (go_at_call 26; (with_reducible refine (laws_sameInts.calls kj10 _ _ t453 _ _ t458 true _ ?side1 ?side2 ?side3 ?side4 A68.out).mono ?_); (case side1 => repeat (first | exact (Kd.R_reads' HO457.out).2.2 | (with_reducible refine cA ?_ _) | (with_reducible refine cN ?_ _) | (with_reducible refine cD ?_))); (case side2 => exact (Kd.R_reads' HO457.out).2.1); (case side3 => repeat (first | exact (Kd.R_reads' HO462.out).2.2 | (with_reducible refine cA ?_ _) | (with_reducible refine cN ?_ _) | (with_reducible refine cD ?_))); (case side4 => exact (Kd.R_reads' HO462.out).2.1); rintro e w' ⟨rfl, ⟨nd, rfl⟩⟩; obtain ⟨Ao100, co100, eo100⟩ := Kd.R_slice HO474.out; subst eo100; obtain ⟨Ao101, co101, eo101⟩ := Kd.R_slice HO478.out; subst eo101) | (go_at_call 26; (with_reducible refine (laws_sameInts.calls kj10 _ _ t471 _ _ t475 true _ ?side1 ?side2 ?side3 ?side4 A76.out).mono ?_); (case side1 => repeat (first | exact (Kd.R_reads' HO474.out).2.2 | (with_reducible refine cA ?_ _) | (with_reducible refine cN ?_ _) | (with_reducible refine cD ?_))); (case side2 => exact (Kd.R_reads' HO474.out).2.1); (case side3 => repeat (first | exact (Kd.R_reads' HO478.out).2.2 | (with_reducible refine cA ?_ _) | (with_reducible refine cN ?_ _) | (with_reducible refine cD ?_))); (case side4 => exact (Kd.R_reads' HO478.out).2.1); rintro e w' ⟨rfl, ⟨nd, rfl⟩⟩; obtain ⟨Ao102, co102, eo102⟩ := Kd.R_slice HO482.out; subst eo102; obtain ⟨Ao103, co103, eo103⟩ := Kd.R_slice HO486.out; subst eo103) | (go_at_call 26; (with_reducible refine (laws_sameInts.calls kj10 _ _ t479 _ _ t483 true _ ?side1 ?side2 ?side3 ?side4 A79.out).mono ?_); (case side1 => repeat (first | exact (Kd.R_reads' HO482.out).2.2 | (with_reducible refine cA ?_ _) | (with_reducible refine cN ?_ _) | (with_reducible refine cD ?_))); (case side2 => exact (Kd.R_reads' HO482.out).2.1); (case side3 => repeat (first | exact (Kd.R_reads' HO486.out).2.2 | (with_reducible refine cA ?_ _) | (with_reducible refine cN ?_ _) | (with_reducible refine cD ?_))); (case side4 => exact (Kd.R_reads' HO486.out).2.1); rintro e w' ⟨rfl, ⟨nd, rfl⟩⟩) | (go_at_call 48; (with_reducible refine (impl_AreLevelWires.calls kj10 _ _ t449 t450 t490 _ ?side1 ?side2 A85.out).mono ?_); (case side1 => exact zbb_); (case side2 => exact zbc_); rintro e w' ⟨rfl, ⟨nd, rfl⟩⟩))
             as_aux_lemma =>
              go_wp2_with (first | ((with_reducible refine gate_dst (N := 302) rfl ?_); refine Kd.N_lit (Kd.slice 3 (Kd.int .i64)) _ 39 ?hg (N' := 302) ?hd (xs := ([t458, t475, t483] : List (List Int))) (inner := [.slice Ao99 t458.length co99, .slice Ao101 t475.length co101, .slice Ao103 t483.length co103]) (ok := (fun k_ => some k_ ≠ (.slice Ao89 t449.length co89 : Value).ownBlock ∧ some k_ ≠ (.slice Ao98 t453.length co98 : Value).ownBlock ∧ some k_ ≠ (.slice Ao100 t471.length co100 : Value).ownBlock ∧ some k_ ≠ (.slice Ao102 t479.length co102 : Value).ownBlock)) (okp := (fun k_ => some k_ ≠ (.slice Ao89 t449.length co89 : Value).ownBlock ∧ some k_ ≠ (.slice Ao98 t453.length co98 : Value).ownBlock ∧ some k_ ≠ (.slice Ao100 t471.length co100 : Value).ownBlock ∧ some k_ ≠ (.slice Ao102 t479.length co102 : Value).ownBlock)) ?hr ?hp (fun _ hk => hk) ((show ∀ k_, w97.heap.size ≤ k_ → (fun k_ => some k_ ≠ (.slice Ao89 t449.length co89 : Value).ownBlock ∧ some k_ ≠ (.slice Ao98 t453.length co98 : Value).ownBlock ∧ some k_ ≠ (.slice Ao100 t471.length co100 : Value).ownBlock ∧ some k_ ≠ (.slice Ao102 t479.length co102 : Value).ownBlock) k_ from fun k_ hk => ⟨Kd.fresh' (Kd.N_lt zbf_) k_ hk, Kd.fresh' (Kd.R_lt (zr HO457.out)) k_ hk, Kd.fresh' (Kd.R_lt (zr HO474.out)) k_ hk, Kd.fresh' (Kd.R_lt (zr HO482.out)) k_ hk⟩) _ (Nat.le_refl _)) (Below.refl _ _) (Nat.le_refl _) (by simp) ?_; (case hd => rfl); (case hg => rfl); (case hr => exact zd_); (case hp => exact (Reps.one (show Kd.FK (Kd.slice 3 (Kd.int .i64)) _ _ t458 [.slice Ao99 t458.length co99] from (Kd.FK_slice_mk (Kd.R_reads' (Kd.R_mono (ok' := (fun k_ => some k_ ≠ (.slice Ao89 t449.length co89 : Value).ownBlock ∧ some k_ ≠ (.slice Ao98 t453.length co98 : Value).ownBlock ∧ some k_ ≠ (.slice Ao100 t471.length co100 : Value).ownBlock ∧ some k_ ≠ (.slice Ao102 t479.length co102 : Value).ownBlock)) (Kd.R_apart' (HO462.out) (Kd.N_typed HO452.out) (by decide)) (fun k_ hk => ⟨hk.2, ⟨hk.1.1.1.1.1.2, ⟨hk.1.1.1.1.2, hk.1.1.2⟩⟩⟩))).2.1 (Kd.R_F (Kd.R_mono (ok' := (fun k_ => some k_ ≠ (.slice Ao89 t449.length co89 : Value).ownBlock ∧ some k_ ≠ (.slice Ao98 t453.length co98 : Value).ownBlock ∧ some k_ ≠ (.slice Ao100 t471.length co100 : Value).ownBlock ∧ some k_ ≠ (.slice Ao102 t479.length co102 : Value).ownBlock)) (Kd.R_apart' (HO462.out) (Kd.N_typed HO452.out) (by decide)) (fun k_ hk => ⟨hk.2, ⟨hk.1.1.1.1.1.2, ⟨hk.1.1.1.1.2, hk.1.1.2⟩⟩⟩))))) (Reps.one (show Kd.FK (Kd.slice 3 (Kd.int .i64)) _ _ t475 [.slice Ao101 t475.length co101] from (Kd.FK_slice_mk (Kd.R_reads' (Kd.R_mono (ok' := (fun k_ => some k_ ≠ (.slice Ao89 t449.length co89 : Value).ownBlock ∧ some k_ ≠ (.slice Ao98 t453.length co98 : Value).ownBlock ∧ some k_ ≠ (.slice Ao100 t471.length co100 : Value).ownBlock ∧ some k_ ≠ (.slice Ao102 t479.length co102 : Value).ownBlock)) (Kd.R_apart' (HO478.out) (Kd.N_typed HO452.out) (by decide)) (fun k_ hk => ⟨hk.2, ⟨hk.1.1.1.1.1.2, ⟨hk.1.1.1.2, hk.1.1.2⟩⟩⟩))).2.1 (Kd.R_F (Kd.R_mono (ok' := (fun k_ => some k_ ≠ (.slice Ao89 t449.length co89 : Value).ownBlock ∧ some k_ ≠ (.slice Ao98 t453.length co98 : Value).ownBlock ∧ some k_ ≠ (.slice Ao100 t471.length co100 : Value).ownBlock ∧ some k_ ≠ (.slice Ao102 t479.length co102 : Value).ownBlock)) (Kd.R_apart' (HO478.out) (Kd.N_typed HO452.out) (by decide)) (fun k_ hk => ⟨hk.2, ⟨hk.1.1.1.1.1.2, ⟨hk.1.1.1.2, hk.1.1.2⟩⟩⟩))))) (Reps.one (show Kd.FK (Kd.slice 3 (Kd.int .i64)) _ _ t483 [.slice Ao103 t483.length co103] from (Kd.FK_slice_mk (Kd.R_reads' (Kd.R_mono (ok' := (fun k_ => some k_ ≠ (.slice Ao89 t449.length co89 : Value).ownBlock ∧ some k_ ≠ (.slice Ao98 t453.length co98 : Value).ownBlock ∧ some k_ ≠ (.slice Ao100 t471.length co100 : Value).ownBlock ∧ some k_ ≠ (.slice Ao102 t479.length co102 : Value).ownBlock)) (Kd.R_apart' (HO486.out) (Kd.N_typed HO452.out) (by decide)) (fun k_ hk => ⟨hk.2, ⟨hk.1.1.1.1.1.2, ⟨hk.1.1.1.2, hk.1.2⟩⟩⟩))).2.1 (Kd.R_F (Kd.R_mono (ok' := (fun k_ => some k_ ≠ (.slice Ao89 t449.length co89 : Value).ownBlock ∧ some k_ ≠ (.slice Ao98 t453.length co98 : Value).ownBlock ∧ some k_ ≠ (.slice Ao100 t471.length co100 : Value).ownBlock ∧ some k_ ≠ (.slice Ao102 t479.length co102 : Value).ownBlock)) (Kd.R_apart' (HO486.out) (Kd.N_typed HO452.out) (by decide)) (fun k_ hk => ⟨hk.2, ⟨hk.1.1.1.1.1.2, ⟨hk.1.1.1.2, hk.1.2⟩⟩⟩))))) (Reps.none _ _))))); intro v492 w104 ho105 hb hg_ hnew_; clear hg_ hnew_; (first | rw [← Ny491.out] at ho105 | (simp only [Int.reduceToNat] at ho105; rw [← Ny491.out] at ho105)); have n_ := z (Kd.N_elder' zbf_ (by first | exact Kd.N_base ho105 | exact Kd.R_base ho105 | exact Kd.N_base (Kd.S_N ho105)) hb) <| z (Kd.R_below (zr HO457.out) hb) <| z (Kd.R_below (zr HO474.out) hb) <| z (Kd.R_below (zr HO482.out) hb) <| z (Kd.N_lower ho105 (below_size zb_)) <| z1 (below_step zb_ hb); clear HO452 HO457 HO474 HO482 HB HO462 HO478 HO486; obtain ⟨HO452, HO457, HO474, HO482, HO493, HB⟩ := n_; clear hb ho105; obtain ⟨Ao106, co106, eo106⟩ := Kd.N_slice HO493.out; subst eo106))
              go_loopg [304] kj10 (fun kq v304 w' => ∃ (x304_2 : Int), v304 = .int .i64 x304_2 ∧ Aside0 (laws_FnLevels.l2 kq t449 t450 t459 t465 t469 y491 (y491.length : Int) x304_2 = some r) ∧ Aside0 (kq ≤ kj10) ∧ Aside0 (Kd.N (Kd.slice 3 (Kd.int .i64)) 39 w' w.heap.size (fun k_ => some k_ ≠ ((.slice Ao106 y491.length co106) : Value).ownBlock) (.slice Ao89 t449.length co89) t449) ∧ Aside0 (Kd.N (Kd.slice 3 (Kd.int .i64)) 39 w' w.heap.size (fun k_ => some k_ ≠ ((.slice Ao89 t449.length co89) : Value).ownBlock) (.slice Ao106 y491.length co106) y491) ∧ Aside0 (Below w.heap.size w w'))
              case atStart => exact ⟨(0), zc_, H', ⟨Nat.le_refl _⟩, ⟨by (with_reducible repeat (first | apply Kd.N_alloc | apply Kd.N_drewN | apply Kd.N_drew)); exact Kd.N_mono HO452.out (fun _ hk => hk.2)⟩, ⟨by (with_reducible repeat (first | apply Kd.N_alloc | apply Kd.N_drewN | apply Kd.N_drew)); exact Kd.N_mono HO493.out (fun _ hk => hk.1)⟩, ⟨zb_⟩⟩
              case round =>
               as_aux_lemma =>
                clear H'; (try clear c1); (try clear c67b0); (try clear c67b1); (try clear c67b2); (try clear c70b0); (try clear c70b1); (try clear c71b0); (try clear c71b1); (try clear c71b2); (try clear c72b0); (try clear c72b1); (try clear c73b0); (try clear c73b1); (try clear c73b2); (try clear c74b0); (try clear c74b1); (try clear c75b0); (try clear c75b1); (try clear c75b2); (try clear c78b0); (try clear c78b1); (try clear c78b2); (try clear c81b0); (try clear c81b1); (try clear c81b2); (try clear c82b0); (try clear c82b1); (try clear c82b2); (try clear c83b0); (try clear c83b1); (try clear c83b2); (try clear c84b0); (try clear c84b1); (try clear c84b2); (try clear c86b0); (try clear c86b1); (try clear c86b2); obtain ⟨x304_2, rfl, HA, HK2, HO_19, HO_302, HB⟩ := hrel
                cases gk with
                | zero => exact absurd HA.out (by simp [laws_FnLevels.l2])
                | succ k2 =>
                 have H := HA.out; clear HA
                 simp only [laws_FnLevels.l2] at H
                 by_cases c107 : x304_2 < (y491.length : Int)
                 ·rw [if_pos c107] at H
                  have c107b0 := decide_eq_true c107; clear c107
                  by_cases c108 : 0 ≤ x304_2
                  rotate_left
                  ·rw [if_neg c108] at H
                   exact q3n_ H
                  rw [if_pos c108] at H; have c108b0 := decide_eq_true c108; clear c108
                  by_cases c109 : x304_2 < (y491.length : Int)
                  rotate_left
                  ·rw [if_neg c109] at H
                   exact q3n_ H
                  rw [if_pos c109] at H; have c109b0 := decide_eq_true c109; clear c109; replace H := oB.mp H; obtain ⟨⟨t495, t496⟩, A1100, H⟩ := H; (try dsimp only at H); have A110 := aM A1100; clear A1100; replace H := oB.mp H; obtain ⟨⟨t499, t500⟩, A1110, H⟩ := H; (try dsimp only at H); have A111 := aM A1110; clear A1110
                  by_cases c112 : t496 = true
                  ·subst c112
                   rw [if_pos rfl] at H
                   by_cases c113 : t500 = true
                   ·subst c113
                    rw [if_pos rfl] at H
                    by_cases c114 : t499 < t459
                    ·rw [if_pos c114] at H
                     exact q3n_ H
                    rw [if_neg c114] at H; have c114b0 := decide_eq_false c114; clear c114
                    by_cases c115 : x304_2 = 0
                    ·rw [if_pos c115] at H
                     have c115b0 := beq_iff_eq.mpr c115; have c115b1 := bne_eq_false_iff_eq.mpr c115; clear c115
                     by_cases c116 : t499 = t459
                     rotate_left
                     ·rw [if_neg c116] at H
                      exact q3n_ H
                     rw [if_pos c116] at H; have c116b0 := beq_iff_eq.mpr c116; have c116b1 := bne_eq_false_iff_eq.mpr c116; clear c116
                     by_cases c117 : x304_2 = 1
                     ·rw [if_pos c117] at H
                      have c117b0 := beq_iff_eq.mpr c117; have c117b1 := bne_eq_false_iff_eq.mpr c117; clear c117
                      by_cases c118 : t499 > t469
                      ·rw [if_pos c118] at H
                       exact q3n_ H
                      rw [if_neg c118] at H; have c118b0 : decide (t469 < t499) = false := decide_eq_false c118; clear c118; have H' := aM H; clear H; have p494 : 0 ≤ (x304_2 : Int) := of_decide_eq_true za_; have q494 : x304_2 < (y491.length : Int) := of_decide_eq_true za_; obtain ⟨ad494, A494_0, c494_0, e494, hx494_0, hl494_0, hi494_0⟩ := at_L4 (Kd.N_reads' HO_302.out).2.2 x304_2 p494 q494
                      cases e494
                      obtain ⟨ce494, hce494, hMe494, hcc494⟩ := Kd.N_get HO_302.out [] x304_2 p494 zgg_; obtain ⟨ua494_0, uc494_0, rfl, ul494_0, ge494_0⟩ := Kd.FK_slice_open hMe494; have hv494_0 := hcc494 0 _ rfl; rw [Nat.add_zero, show ((Kd.slice 3 (Kd.int .i64))).sz = 1 from rfl, Nat.mul_one] at hv494_0; replace hv494_0 := Option.some.inj (hv494_0.symm.trans hx494_0)
                      injection hv494_0 with hva_ hvn_ hvc_
                      rw [hva_] at ge494_0; rw [hvc_] at ul494_0; have HL494_0 := aM (show Kd.V (Kd.int .i64) 3 _ w.heap.size _ _ (rd_L4 y491 x304_2) from Kd.V_mk ul494_0 ge494_0); clear hva_ hvn_ hvc_ ge494_0 ul494_0 hcc494 hce494; have HR494_0 := aM hi494_0; have HC494_0 := aM hl494_0; clear hi494_0 hl494_0; replace p494 := eq_true p494; replace q494 := eq_true q494
                      go_wp2_with (first | ((with_reducible refine gate_callee (f := 49) rfl ?_); refine goesL_ (some 313) rfl rfl Try.func49 (by kernel_rfl) rfl #[.slice Ao89 t449.length co89, .int .i64 t450, .slice A494_0 (rd_L4 y491 x304_2).length c494_0] rfl zf_ ?_; (with_reducible refine (impl_MovePoints.calls k2 _ _ t449 t450 _ _ (rd_L4 y491 x304_2) t495 true _ ?side1 ?side2 ?side3 ?side4 A110.out).mono ?_); (case side1 => exact zgh_); (case side2 => exact (Kd.N_reads' HO_19.out).2.1); (case side3 => exact zgi_); (case side4 => exact HC494_0.out); rintro e w119 ⟨v497, rfl, ho0, hb⟩; refine ⟨_, rfl, ?_⟩; have n_ := z (Kd.N_elder' zea_ zch_ hb) <| z (Kd.N_elder' zeb_ zch_ hb) <| z (Kd.V_elder' zgj_ zch_ hb) <| z (Kd.N_lower (Kd.N_mono (ok' := fun k_ => some k_ ≠ (.slice Ao89 t449.length co89 : Value).ownBlock ∧ some k_ ≠ (.slice (some ad494) y491.length co106 : Value).ownBlock) (Kd.S_N (Kd.S_bound ho0)) (fun k_ hk_ => ⟨(Kd.fresh' (Kd.N_lt zea_) k_ hk_.2.1), (Kd.fresh' (Kd.N_lt zeb_) k_ hk_.2.1)⟩)) (below_size zb_)) <| z (Kd.C_below zha_ hb) <| z1 (below_step zb_ hb); clear HO_19 HO_302 HL494_0 HR494_0 HB; obtain ⟨HO_19, HO_302, HL494_0, HO498, HR494_0, HB⟩ := n_; clear hb; (try clear ho0); obtain ⟨Ao120, co120, eo120⟩ := Kd.N_slice HO498.out; subst eo120) | ((with_reducible refine gate_callee (f := 42) rfl ?_); refine goesL_ (some 319) rfl rfl Try.func42 (by kernel_rfl) rfl #[.slice Ao120 t495.length co120, .int .i64 t450] rfl zf_ ?_; (with_reducible refine (impl_CountCrossings.calls k2 _ _ t495 t450 t499 true _ ?side1 ?side2 A111.out).mono ?_); (case side1 => exact zhb_); (case side2 => exact (Kd.N_reads' HO498.out).2.1); rintro e w' ⟨rfl, ⟨nd, rfl⟩⟩; refine ⟨_, rfl, ?_⟩))
                      go_roundg k2
                      case measure => have := HJ10.out; have := HK2.out; omega
                      case rel => exact ⟨(wrap64 (x304_2 + 1)), zc_, H', ⟨by have := HJ10.out; have := HK2.out; omega⟩, ⟨zhc_⟩, ⟨zhd_⟩, ⟨zb_⟩⟩
                     ·rw [if_neg c117] at H
                      have c117b0 := beq_eq_false_iff_ne.mpr c117; have c117b1 := bne_iff_ne.mpr c117; have H' := aM H; clear H; have p494 : 0 ≤ (x304_2 : Int) := of_decide_eq_true za_; have q494 : x304_2 < (y491.length : Int) := of_decide_eq_true za_; obtain ⟨ad494, A494_0, c494_0, e494, hx494_0, hl494_0, hi494_0⟩ := at_L4 (Kd.N_reads' HO_302.out).2.2 x304_2 p494 q494
                      cases e494
                      obtain ⟨ce494, hce494, hMe494, hcc494⟩ := Kd.N_get HO_302.out [] x304_2 p494 zgg_; obtain ⟨ua494_0, uc494_0, rfl, ul494_0, ge494_0⟩ := Kd.FK_slice_open hMe494; have hv494_0 := hcc494 0 _ rfl; rw [Nat.add_zero, show ((Kd.slice 3 (Kd.int .i64))).sz = 1 from rfl, Nat.mul_one] at hv494_0; replace hv494_0 := Option.some.inj (hv494_0.symm.trans hx494_0)
                      injection hv494_0 with hva_ hvn_ hvc_
                      rw [hva_] at ge494_0; rw [hvc_] at ul494_0; have HL494_0 := aM (show Kd.V (Kd.int .i64) 3 _ w.heap.size _ _ (rd_L4 y491 x304_2) from Kd.V_mk ul494_0 ge494_0); clear hva_ hvn_ hvc_ ge494_0 ul494_0 hcc494 hce494; have HR494_0 := aM hi494_0; have HC494_0 := aM hl494_0; clear hi494_0 hl494_0; replace p494 := eq_true p494; replace q494 := eq_true q494
                      go_wp2_with (first | ((with_reducible refine gate_callee (f := 49) rfl ?_); refine goesL_ (some 313) rfl rfl Try.func49 (by kernel_rfl) rfl #[.slice Ao89 t449.length co89, .int .i64 t450, .slice A494_0 (rd_L4 y491 x304_2).length c494_0] rfl zf_ ?_; (with_reducible refine (impl_MovePoints.calls k2 _ _ t449 t450 _ _ (rd_L4 y491 x304_2) t495 true _ ?side1 ?side2 ?side3 ?side4 A110.out).mono ?_); (case side1 => exact zgh_); (case side2 => exact (Kd.N_reads' HO_19.out).2.1); (case side3 => exact zgi_); (case side4 => exact HC494_0.out); rintro e w121 ⟨v497, rfl, ho0, hb⟩; refine ⟨_, rfl, ?_⟩; have n_ := z (Kd.N_elder' zea_ zch_ hb) <| z (Kd.N_elder' zeb_ zch_ hb) <| z (Kd.V_elder' zgj_ zch_ hb) <| z (Kd.N_lower (Kd.N_mono (ok' := fun k_ => some k_ ≠ (.slice Ao89 t449.length co89 : Value).ownBlock ∧ some k_ ≠ (.slice (some ad494) y491.length co106 : Value).ownBlock) (Kd.S_N (Kd.S_bound ho0)) (fun k_ hk_ => ⟨(Kd.fresh' (Kd.N_lt zea_) k_ hk_.2.1), (Kd.fresh' (Kd.N_lt zeb_) k_ hk_.2.1)⟩)) (below_size zb_)) <| z (Kd.C_below zha_ hb) <| z1 (below_step zb_ hb); clear HO_19 HO_302 HL494_0 HR494_0 HB; obtain ⟨HO_19, HO_302, HL494_0, HO498, HR494_0, HB⟩ := n_; clear hb; (try clear ho0); obtain ⟨Ao122, co122, eo122⟩ := Kd.N_slice HO498.out; subst eo122) | ((with_reducible refine gate_callee (f := 42) rfl ?_); refine goesL_ (some 319) rfl rfl Try.func42 (by kernel_rfl) rfl #[.slice Ao122 t495.length co122, .int .i64 t450] rfl zf_ ?_; (with_reducible refine (impl_CountCrossings.calls k2 _ _ t495 t450 t499 true _ ?side1 ?side2 A111.out).mono ?_); (case side1 => exact zhb_); (case side2 => exact (Kd.N_reads' HO498.out).2.1); rintro e w' ⟨rfl, ⟨nd, rfl⟩⟩; refine ⟨_, rfl, ?_⟩))
                      go_roundg k2
                      case measure => have := HJ10.out; have := HK2.out; omega
                      case rel => exact ⟨(wrap64 (x304_2 + 1)), zc_, H', ⟨by have := HJ10.out; have := HK2.out; omega⟩, ⟨zhc_⟩, ⟨zhd_⟩, ⟨zb_⟩⟩
                    ·rw [if_neg c115] at H
                     have c115b0 := beq_eq_false_iff_ne.mpr c115; have c115b1 := bne_iff_ne.mpr c115
                     by_cases c123 : x304_2 = 1
                     ·rw [if_pos c123] at H
                      have c123b0 := beq_iff_eq.mpr c123; have c123b1 := bne_eq_false_iff_eq.mpr c123; clear c123
                      by_cases c124 : t499 > t469
                      ·rw [if_pos c124] at H
                       exact q3n_ H
                      rw [if_neg c124] at H; have c124b0 : decide (t469 < t499) = false := decide_eq_false c124; clear c124; have H' := aM H; clear H; have p494 : 0 ≤ (x304_2 : Int) := of_decide_eq_true za_; have q494 : x304_2 < (y491.length : Int) := of_decide_eq_true za_; obtain ⟨ad494, A494_0, c494_0, e494, hx494_0, hl494_0, hi494_0⟩ := at_L4 (Kd.N_reads' HO_302.out).2.2 x304_2 p494 q494
                      cases e494
                      obtain ⟨ce494, hce494, hMe494, hcc494⟩ := Kd.N_get HO_302.out [] x304_2 p494 zgg_; obtain ⟨ua494_0, uc494_0, rfl, ul494_0, ge494_0⟩ := Kd.FK_slice_open hMe494; have hv494_0 := hcc494 0 _ rfl; rw [Nat.add_zero, show ((Kd.slice 3 (Kd.int .i64))).sz = 1 from rfl, Nat.mul_one] at hv494_0; replace hv494_0 := Option.some.inj (hv494_0.symm.trans hx494_0)
                      injection hv494_0 with hva_ hvn_ hvc_
                      rw [hva_] at ge494_0; rw [hvc_] at ul494_0; have HL494_0 := aM (show Kd.V (Kd.int .i64) 3 _ w.heap.size _ _ (rd_L4 y491 x304_2) from Kd.V_mk ul494_0 ge494_0); clear hva_ hvn_ hvc_ ge494_0 ul494_0 hcc494 hce494; have HR494_0 := aM hi494_0; have HC494_0 := aM hl494_0; clear hi494_0 hl494_0; replace p494 := eq_true p494; replace q494 := eq_true q494
                      go_wp2_with (first | ((with_reducible refine gate_callee (f := 49) rfl ?_); refine goesL_ (some 313) rfl rfl Try.func49 (by kernel_rfl) rfl #[.slice Ao89 t449.length co89, .int .i64 t450, .slice A494_0 (rd_L4 y491 x304_2).length c494_0] rfl zf_ ?_; (with_reducible refine (impl_MovePoints.calls k2 _ _ t449 t450 _ _ (rd_L4 y491 x304_2) t495 true _ ?side1 ?side2 ?side3 ?side4 A110.out).mono ?_); (case side1 => exact zgh_); (case side2 => exact (Kd.N_reads' HO_19.out).2.1); (case side3 => exact zgi_); (case side4 => exact HC494_0.out); rintro e w125 ⟨v497, rfl, ho0, hb⟩; refine ⟨_, rfl, ?_⟩; have n_ := z (Kd.N_elder' zea_ zch_ hb) <| z (Kd.N_elder' zeb_ zch_ hb) <| z (Kd.V_elder' zgj_ zch_ hb) <| z (Kd.N_lower (Kd.N_mono (ok' := fun k_ => some k_ ≠ (.slice Ao89 t449.length co89 : Value).ownBlock ∧ some k_ ≠ (.slice (some ad494) y491.length co106 : Value).ownBlock) (Kd.S_N (Kd.S_bound ho0)) (fun k_ hk_ => ⟨(Kd.fresh' (Kd.N_lt zea_) k_ hk_.2.1), (Kd.fresh' (Kd.N_lt zeb_) k_ hk_.2.1)⟩)) (below_size zb_)) <| z (Kd.C_below zha_ hb) <| z1 (below_step zb_ hb); clear HO_19 HO_302 HL494_0 HR494_0 HB; obtain ⟨HO_19, HO_302, HL494_0, HO498, HR494_0, HB⟩ := n_; clear hb; (try clear ho0); obtain ⟨Ao126, co126, eo126⟩ := Kd.N_slice HO498.out; subst eo126) | ((with_reducible refine gate_callee (f := 42) rfl ?_); refine goesL_ (some 319) rfl rfl Try.func42 (by kernel_rfl) rfl #[.slice Ao126 t495.length co126, .int .i64 t450] rfl zf_ ?_; (with_reducible refine (impl_CountCrossings.calls k2 _ _ t495 t450 t499 true _ ?side1 ?side2 A111.out).mono ?_); (case side1 => exact zhb_); (case side2 => exact (Kd.N_reads' HO498.out).2.1); rintro e w' ⟨rfl, ⟨nd, rfl⟩⟩; refine ⟨_, rfl, ?_⟩))
                      go_roundg k2
                      case measure => have := HJ10.out; have := HK2.out; omega
                      case rel => exact ⟨(wrap64 (x304_2 + 1)), zc_, H', ⟨by have := HJ10.out; have := HK2.out; omega⟩, ⟨zhc_⟩, ⟨zhd_⟩, ⟨zb_⟩⟩
                     ·rw [if_neg c123] at H
                      have c123b0 := beq_eq_false_iff_ne.mpr c123; have c123b1 := bne_iff_ne.mpr c123; have H' := aM H; clear H; have p494 : 0 ≤ (x304_2 : Int) := of_decide_eq_true za_; have q494 : x304_2 < (y491.length : Int) := of_decide_eq_true za_; obtain ⟨ad494, A494_0, c494_0, e494, hx494_0, hl494_0, hi494_0⟩ := at_L4 (Kd.N_reads' HO_302.out).2.2 x304_2 p494 q494
                      cases e494
                      obtain ⟨ce494, hce494, hMe494, hcc494⟩ := Kd.N_get HO_302.out [] x304_2 p494 zgg_; obtain ⟨ua494_0, uc494_0, rfl, ul494_0, ge494_0⟩ := Kd.FK_slice_open hMe494; have hv494_0 := hcc494 0 _ rfl; rw [Nat.add_zero, show ((Kd.slice 3 (Kd.int .i64))).sz = 1 from rfl, Nat.mul_one] at hv494_0; replace hv494_0 := Option.some.inj (hv494_0.symm.trans hx494_0)
                      injection hv494_0 with hva_ hvn_ hvc_
                      rw [hva_] at ge494_0; rw [hvc_] at ul494_0; have HL494_0 := aM (show Kd.V (Kd.int .i64) 3 _ w.heap.size _ _ (rd_L4 y491 x304_2) from Kd.V_mk ul494_0 ge494_0); clear hva_ hvn_ hvc_ ge494_0 ul494_0 hcc494 hce494; have HR494_0 := aM hi494_0; have HC494_0 := aM hl494_0; clear hi494_0 hl494_0; replace p494 := eq_true p494; replace q494 := eq_true q494
                      go_wp2_with (first | ((with_reducible refine gate_callee (f := 49) rfl ?_); refine goesL_ (some 313) rfl rfl Try.func49 (by kernel_rfl) rfl #[.slice Ao89 t449.length co89, .int .i64 t450, .slice A494_0 (rd_L4 y491 x304_2).length c494_0] rfl zf_ ?_; (with_reducible refine (impl_MovePoints.calls k2 _ _ t449 t450 _ _ (rd_L4 y491 x304_2) t495 true _ ?side1 ?side2 ?side3 ?side4 A110.out).mono ?_); (case side1 => exact zgh_); (case side2 => exact (Kd.N_reads' HO_19.out).2.1); (case side3 => exact zgi_); (case side4 => exact HC494_0.out); rintro e w127 ⟨v497, rfl, ho0, hb⟩; refine ⟨_, rfl, ?_⟩; have n_ := z (Kd.N_elder' zea_ zch_ hb) <| z (Kd.N_elder' zeb_ zch_ hb) <| z (Kd.V_elder' zgj_ zch_ hb) <| z (Kd.N_lower (Kd.N_mono (ok' := fun k_ => some k_ ≠ (.slice Ao89 t449.length co89 : Value).ownBlock ∧ some k_ ≠ (.slice (some ad494) y491.length co106 : Value).ownBlock) (Kd.S_N (Kd.S_bound ho0)) (fun k_ hk_ => ⟨(Kd.fresh' (Kd.N_lt zea_) k_ hk_.2.1), (Kd.fresh' (Kd.N_lt zeb_) k_ hk_.2.1)⟩)) (below_size zb_)) <| z (Kd.C_below zha_ hb) <| z1 (below_step zb_ hb); clear HO_19 HO_302 HL494_0 HR494_0 HB; obtain ⟨HO_19, HO_302, HL494_0, HO498, HR494_0, HB⟩ := n_; clear hb; (try clear ho0); obtain ⟨Ao128, co128, eo128⟩ := Kd.N_slice HO498.out; subst eo128) | ((with_reducible refine gate_callee (f := 42) rfl ?_); refine goesL_ (some 319) rfl rfl Try.func42 (by kernel_rfl) rfl #[.slice Ao128 t495.length co128, .int .i64 t450] rfl zf_ ?_; (with_reducible refine (impl_CountCrossings.calls k2 _ _ t495 t450 t499 true _ ?side1 ?side2 A111.out).mono ?_); (case side1 => exact zhb_); (case side2 => exact (Kd.N_reads' HO498.out).2.1); rintro e w' ⟨rfl, ⟨nd, rfl⟩⟩; refine ⟨_, rfl, ?_⟩))
                      go_roundg k2
                      case measure => have := HJ10.out; have := HK2.out; omega
                      case rel => exact ⟨(wrap64 (x304_2 + 1)), zc_, H', ⟨by have := HJ10.out; have := HK2.out; omega⟩, ⟨zhc_⟩, ⟨zhd_⟩, ⟨zb_⟩⟩
                   ·replace c113 := Bool.eq_false_iff.mpr c113
                    subst c113; rw [if_neg (show ¬ (false = true) by decide)] at H; exact q3n_ H
                  ·replace c112 := Bool.eq_false_iff.mpr c112
                   subst c112; rw [if_neg (show ¬ (false = true) by decide)] at H; exact q3n_ H
                 ·rw [if_neg c107] at H
                  have c107b0 := decide_eq_false c107; clear c107
                  by_cases c129 : t465 > t459
                  ·rw [if_pos c129] at H
                   exact q3n_ H
                  rw [if_neg c129] at H; have c129b0 : decide (t459 < t465) = false := decide_eq_false c129; clear c129
                  by_cases c130 : t459 > t469
                  ·rw [if_pos c130] at H
                   exact q3n_ H
                  rw [if_neg c130] at H; have c130b0 : decide (t469 < t459) = false := decide_eq_false c130; clear c130; obtain rfl := Option.some.inj H
                  go_wp2
                  go_ret
                  exact ⟨zh_, zb_⟩
         ·replace c87 := Bool.eq_false_iff.mpr c87
          subst c87; rw [if_neg (show ¬ (false = true) by decide)] at H; obtain rfl := Option.some.inj H
          go_upto_region 30 with (first | ((with_reducible refine gate_callee (f := 37) rfl ?_); refine goesL_ (some 150) rfl rfl Try.func37 (by kernel_rfl) rfl #[.slice A1 l1.length c1] rfl zf_ ?_; (with_reducible refine (spec_DrawFewestCrossings.calls _ _ l1 t449 t450 _ ?side1 ?side2 A56.out).mono ?_); (case side1 => repeat (first | exact (Kd.C_below HR1.out HB.out) | (with_reducible refine cA ?_ _) | (with_reducible refine cN ?_ _) | (with_reducible refine cD ?_))); (case side2 => exact HC1.out); rintro e w131 ⟨v451, rfl, ho0, hb⟩; refine ⟨_, rfl, ?_⟩; have n_ := z (Kd.N_lower (Kd.N_mono (ok' := fun k_ => True) (Kd.S_N (Kd.S_bound ho0)) (fun k_ hk_ => trivial)) (below_size zb_)) <| z1 (below_step zb_ hb); clear HB; obtain ⟨HO452, HB⟩ := n_; clear hb; (try clear ho0); obtain ⟨Ao132, co132, eo132⟩ := Kd.N_slice HO452.out; subst eo132) | ((with_reducible refine gate_callee (f := 38) rfl ?_); refine goesL_ (some 156) rfl rfl Try.func38 (by kernel_rfl) rfl #[.slice Ao132 t449.length co132, .int .i64 t450] rfl zf_ ?_; (with_reducible refine (impl_FewestCrossings.calls kj10 _ _ t449 t450 t453 t454 false _ ?side1 ?side2 A57.out).mono ?_); (case side1 => exact zbb_); (case side2 => exact zbc_); rintro e w133 ⟨v456, rfl, ho0, hb⟩; refine ⟨_, rfl, ?_⟩; have n_ := z (Kd.N_elder' zbf_ (Kd.R_base ho0) hb) <| z (Kd.R_lower ho0 (below_size zb_)) <| z1 (below_step zb_ hb); clear HO452 HB; obtain ⟨HO452, HO457, HB⟩ := n_; clear hb; (try clear ho0)) | ((with_reducible refine gate_callee (f := 39) rfl ?_); refine goesL_ (some 163) rfl rfl Try.func39 (by kernel_rfl) rfl #[.slice Ao132 t449.length co132, .int .i64 t450] rfl zf_ ?_; (with_reducible refine (spec_FewestCrossings.calls kj10 _ _ t449 t450 t458 t459 t460 _ ?side1 ?side2 A58.out).mono ?_); (case side1 => exact zbb_); (case side2 => exact zbc_); rintro e w134 ⟨v461, rfl, ho0, hb⟩; refine ⟨_, rfl, ?_⟩; have n_ := z (Kd.N_elder' zbf_ (Kd.R_base ho0) hb) <| z (Kd.R_elder' (zr HO457.out) (Kd.R_base ho0) hb) <| z (Kd.R_lower (Kd.R_new' ho0 (Kd.R_lt (zr HO457.out))) (below_size zb_)) <| z1 (below_step zb_ hb); clear HO452 HO457 HB; obtain ⟨HO452, HO457, HO462, HB⟩ := n_; clear hb; (try clear ho0)))
          as_aux_lemma =>
           go_upto_region 33 with (first | ((with_reducible refine gate_callee (f := 40) rfl ?_); refine goesL_ (some 170) rfl rfl Try.func40 (by kernel_rfl) rfl #[.slice Ao132 t449.length co132, .int .i64 t450] rfl zf_ ?_; (with_reducible refine (impl_CrossingBound.calls kj10 _ _ t449 t450 t463 t464 _ ?side1 ?side2 A59.out).mono ?_); (case side1 => exact zbb_); (case side2 => exact zbc_); rintro e w135 ⟨rfl, hb⟩; refine ⟨_, rfl, ?_⟩; have n_ := z (Kd.N_below zbf_ hb) <| z (Kd.R_below (zr HO457.out) hb) <| z (Kd.R_below (zr HO462.out) hb) <| z1 (below_step zb_ hb); clear HO452 HO457 HO462 HB; obtain ⟨HO452, HO457, HO462, HB⟩ := n_; clear hb) | ((with_reducible refine gate_callee (f := 41) rfl ?_); refine goesL_ (some 176) rfl rfl Try.func41 (by kernel_rfl) rfl #[.slice Ao132 t449.length co132, .int .i64 t450] rfl zf_ ?_; (with_reducible refine (spec_CrossingBound.calls kj10 _ _ t449 t450 t465 t466 _ ?side1 ?side2 A60.out).mono ?_); (case side1 => exact zbb_); (case side2 => exact zbc_); rintro e w136 ⟨rfl, hb⟩; refine ⟨_, rfl, ?_⟩; have n_ := z (Kd.N_below zbf_ hb) <| z (Kd.R_below (zr HO457.out) hb) <| z (Kd.R_below (zr HO462.out) hb) <| z1 (below_step zb_ hb); clear HO452 HO457 HO462 HB; obtain ⟨HO452, HO457, HO462, HB⟩ := n_; clear hb) | ((with_reducible refine gate_callee (f := 42) rfl ?_); refine goesL_ (some 182) rfl rfl Try.func42 (by kernel_rfl) rfl #[.slice Ao132 t449.length co132, .int .i64 t450] rfl zf_ ?_; (with_reducible refine (impl_CountCrossings.calls kj10 _ _ t449 t450 t467 t468 _ ?side1 ?side2 A61.out).mono ?_); (case side1 => exact zbb_); (case side2 => exact zbc_); rintro e w' ⟨rfl, ⟨nd, rfl⟩⟩; refine ⟨_, rfl, ?_⟩))
           as_aux_lemma =>
            go_upto_region 36 with (first | ((with_reducible refine gate_callee (f := 43) rfl ?_); refine goesL_ (some 188) rfl rfl Try.func43 (by kernel_rfl) rfl #[.slice Ao132 t449.length co132, .int .i64 t450] rfl zf_ ?_; (with_reducible refine (spec_CountCrossings.calls kj10 _ _ t449 t450 t469 t470 _ ?side1 ?side2 A62.out).mono ?_); (case side1 => exact zbb_); (case side2 => exact zbc_); rintro e w' ⟨rfl, ⟨nd, rfl⟩⟩; refine ⟨_, rfl, ?_⟩) | ((with_reducible refine gate_callee (f := 44) rfl ?_); refine goesL_ (some 194) rfl rfl Try.func44 (by kernel_rfl) rfl #[.slice Ao132 t449.length co132, .int .i64 t450] rfl zf_ ?_; (with_reducible refine (impl_SwappedOrder.calls kj10 _ _ t449 t450 t471 t472 _ ?side1 ?side2 A63.out).mono ?_); (case side1 => exact zbb_); (case side2 => exact zbc_); rintro e w137 ⟨v473, rfl, ho0, hb⟩; refine ⟨_, rfl, ?_⟩; have n_ := z (Kd.N_elder' zbf_ (Kd.R_base ho0) hb) <| z (Kd.R_elder' (zr HO457.out) (Kd.R_base ho0) hb) <| z (Kd.R_elder' (zr HO462.out) (Kd.R_base ho0) hb) <| z (Kd.R_lower (Kd.R_new' (Kd.R_new' ho0 (Kd.R_lt (zr HO457.out))) (Kd.R_lt (zr HO462.out))) (below_size zb_)) <| z1 (below_step zb_ hb); clear HO452 HO457 HO462 HB; obtain ⟨HO452, HO457, HO462, HO474, HB⟩ := n_; clear hb; (try clear ho0)) | ((with_reducible refine gate_callee (f := 45) rfl ?_); refine goesL_ (some 200) rfl rfl Try.func45 (by kernel_rfl) rfl #[.slice Ao132 t449.length co132, .int .i64 t450] rfl zf_ ?_; (with_reducible refine (spec_SwappedOrder.calls kj10 _ _ t449 t450 t475 t476 _ ?side1 ?side2 A64.out).mono ?_); (case side1 => exact zbb_); (case side2 => exact zbc_); rintro e w138 ⟨v477, rfl, ho0, hb⟩; refine ⟨_, rfl, ?_⟩; have n_ := z (Kd.N_elder' zbf_ (Kd.R_base ho0) hb) <| z (Kd.R_elder' (zr HO457.out) (Kd.R_base ho0) hb) <| z (Kd.R_elder' (zr HO462.out) (Kd.R_base ho0) hb) <| z (Kd.R_elder' (zr HO474.out) (Kd.R_base ho0) hb) <| z (Kd.R_lower (Kd.R_new' (Kd.R_new' (Kd.R_new' ho0 (Kd.R_lt (zr HO457.out))) (Kd.R_lt (zr HO462.out))) (Kd.R_lt (zr HO474.out))) (below_size zb_)) <| z1 (below_step zb_ hb); clear HO452 HO457 HO462 HO474 HB; obtain ⟨HO452, HO457, HO462, HO474, HO478, HB⟩ := n_; clear hb; (try clear ho0)))
            as_aux_lemma =>
             go_wp2_with (first | ((with_reducible refine gate_callee (f := 46) rfl ?_); refine goesL_ (some 206) rfl rfl Try.func46 (by kernel_rfl) rfl #[.slice Ao132 t449.length co132, .int .i64 t450] rfl zf_ ?_; (with_reducible refine (impl_MiddleOrder.calls kj10 _ _ t449 t450 t479 t480 _ ?side1 ?side2 A65.out).mono ?_); (case side1 => exact zbb_); (case side2 => exact zbc_); rintro e w139 ⟨v481, rfl, ho0, hb⟩; refine ⟨_, rfl, ?_⟩; have n_ := z (Kd.N_elder' zbf_ (Kd.R_base ho0) hb) <| z (Kd.R_elder' (zr HO457.out) (Kd.R_base ho0) hb) <| z (Kd.R_elder' (zr HO462.out) (Kd.R_base ho0) hb) <| z (Kd.R_elder' (zr HO474.out) (Kd.R_base ho0) hb) <| z (Kd.R_elder' (zr HO478.out) (Kd.R_base ho0) hb) <| z (Kd.R_lower (Kd.R_new' (Kd.R_new' (Kd.R_new' (Kd.R_new' ho0 (Kd.R_lt (zr HO457.out))) (Kd.R_lt (zr HO462.out))) (Kd.R_lt (zr HO474.out))) (Kd.R_lt (zr HO478.out))) (below_size zb_)) <| z1 (below_step zb_ hb); clear HO452 HO457 HO462 HO474 HO478 HB; obtain ⟨HO452, HO457, HO462, HO474, HO478, HO482, HB⟩ := n_; clear hb; (try clear ho0)) | ((with_reducible refine gate_callee (f := 47) rfl ?_); refine goesL_ (some 212) rfl rfl Try.func47 (by kernel_rfl) rfl #[.slice Ao132 t449.length co132, .int .i64 t450] rfl zf_ ?_; (with_reducible refine (spec_MiddleOrder.calls kj10 _ _ t449 t450 t483 t484 _ ?side1 ?side2 A66.out).mono ?_); (case side1 => exact zbb_); (case side2 => exact zbc_); rintro e w140 ⟨v485, rfl, ho0, hb⟩; refine ⟨_, rfl, ?_⟩; have n_ := z (Kd.N_elder' zbf_ (Kd.R_base ho0) hb) <| z (Kd.R_elder' (zr HO457.out) (Kd.R_base ho0) hb) <| z (Kd.R_elder' (zr HO462.out) (Kd.R_base ho0) hb) <| z (Kd.R_elder' (zr HO474.out) (Kd.R_base ho0) hb) <| z (Kd.R_elder' (zr HO478.out) (Kd.R_base ho0) hb) <| z (Kd.R_elder' (zr HO482.out) (Kd.R_base ho0) hb) <| z (Kd.R_lower (Kd.R_new' (Kd.R_new' (Kd.R_new' (Kd.R_new' (Kd.R_new' ho0 (Kd.R_lt (zr HO457.out))) (Kd.R_lt (zr HO462.out))) (Kd.R_lt (zr HO474.out))) (Kd.R_lt (zr HO478.out))) (Kd.R_lt (zr HO482.out))) (below_size zb_)) <| z1 (below_step zb_ hb); clear HO452 HO457 HO462 HO474 HO478 HO482 HB; obtain ⟨HO452, HO457, HO462, HO474, HO478, HO482, HO486, HB⟩ := n_; clear hb; (try clear ho0); obtain ⟨Ao141, co141, eo141⟩ := Kd.R_slice HO457.out; subst eo141; obtain ⟨Ao142, co142, eo142⟩ := Kd.R_slice HO462.out; subst eo142) | (go_at_call 26; (with_reducible refine (laws_sameInts.calls kj10 _ _ t453 _ _ t458 true _ ?side1 ?side2 ?side3 ?side4 A68.out).mono ?_); (case side1 => repeat (first | exact (Kd.R_reads' HO457.out).2.2 | (with_reducible refine cA ?_ _) | (with_reducible refine cN ?_ _) | (with_reducible refine cD ?_))); (case side2 => exact (Kd.R_reads' HO457.out).2.1); (case side3 => repeat (first | exact (Kd.R_reads' HO462.out).2.2 | (with_reducible refine cA ?_ _) | (with_reducible refine cN ?_ _) | (with_reducible refine cD ?_))); (case side4 => exact (Kd.R_reads' HO462.out).2.1); rintro e w' ⟨rfl, ⟨nd, rfl⟩⟩; obtain ⟨Ao143, co143, eo143⟩ := Kd.R_slice HO474.out; subst eo143; obtain ⟨Ao144, co144, eo144⟩ := Kd.R_slice HO478.out; subst eo144) | (go_at_call 26; (with_reducible refine (laws_sameInts.calls kj10 _ _ t471 _ _ t475 true _ ?side1 ?side2 ?side3 ?side4 A76.out).mono ?_); (case side1 => repeat (first | exact (Kd.R_reads' HO474.out).2.2 | (with_reducible refine cA ?_ _) | (with_reducible refine cN ?_ _) | (with_reducible refine cD ?_))); (case side2 => exact (Kd.R_reads' HO474.out).2.1); (case side3 => repeat (first | exact (Kd.R_reads' HO478.out).2.2 | (with_reducible refine cA ?_ _) | (with_reducible refine cN ?_ _) | (with_reducible refine cD ?_))); (case side4 => exact (Kd.R_reads' HO478.out).2.1); rintro e w' ⟨rfl, ⟨nd, rfl⟩⟩; obtain ⟨Ao145, co145, eo145⟩ := Kd.R_slice HO482.out; subst eo145; obtain ⟨Ao146, co146, eo146⟩ := Kd.R_slice HO486.out; subst eo146) | (go_at_call 26; (with_reducible refine (laws_sameInts.calls kj10 _ _ t479 _ _ t483 true _ ?side1 ?side2 ?side3 ?side4 A79.out).mono ?_); (case side1 => repeat (first | exact (Kd.R_reads' HO482.out).2.2 | (with_reducible refine cA ?_ _) | (with_reducible refine cN ?_ _) | (with_reducible refine cD ?_))); (case side2 => exact (Kd.R_reads' HO482.out).2.1); (case side3 => repeat (first | exact (Kd.R_reads' HO486.out).2.2 | (with_reducible refine cA ?_ _) | (with_reducible refine cN ?_ _) | (with_reducible refine cD ?_))); (case side4 => exact (Kd.R_reads' HO486.out).2.1); rintro e w' ⟨rfl, ⟨nd, rfl⟩⟩) | (go_at_call 48; (with_reducible refine (impl_AreLevelWires.calls kj10 _ _ t449 t450 t490 _ ?side1 ?side2 A85.out).mono ?_); (case side1 => exact zbb_); (case side2 => exact zbc_); rintro e w' ⟨rfl, ⟨nd, rfl⟩⟩))
             go_ret
             exact ⟨zh_, zb_⟩
        ·replace c80 := Bool.eq_false_iff.mpr c80
         subst c80; rw [if_neg (show ¬ (false = true) by decide)] at H; exact q3n_ H
       ·replace c77 := Bool.eq_false_iff.mpr c77
        subst c77; rw [if_neg (show ¬ (false = true) by decide)] at H; exact q3n_ H
      ·replace c69 := Bool.eq_false_iff.mpr c69
       subst c69; rw [if_neg (show ¬ (false = true) by decide)] at H; exact q3n_ H
  ·replace c10 := Bool.eq_false_iff.mpr c10
   subst c10; rw [if_neg (show ¬ (false = true) by decide)] at H; exact q3n_ H

/-- THE ONE PURE STATEMENT of laws_FnLevels: yours. -/
def laws_FnLevels.Pure : Prop := ∀ (l0 : List Int) (l1 : List Int), l0.length ≤ maxLen → l0.length * 1 ≤ 140737488351232 → (∀ x ∈ l0, (Lit.int .u8 x).wf = true) → l1.length ≤ maxLen → l1.length * 1 ≤ 140737488351232 → (∀ x ∈ l1, (Lit.int .u8 x).wf = true) → ∃ k, laws_FnLevels.f k l0 l1 = some true
theorem laws_FnLevels.walk (P : laws_FnLevels.Pure) (a0 : Option Addr) (len0 cap0 : Nat) (z0 : List Int) (a1 : Option Addr) (len1 cap1 : Nat) (z1 : List Int) (w : World) (w0 : (a0 = none ∧ len0 = 0 ∧ cap0 = 0 ∧ z0 = []) ∨ ∃ x, a0 = some x ∧ len0 ≤ cap0 ∧ cap0 ≤ maxLen ∧ z0.length = cap0 ∧ (∀ i, i < z0.length → w.cell? (x.add i) = some (.int .u8 (z0.getD i 0))) ∧ ∀ n ∈ z0, (Lit.int .u8 n).wf = true) (y0 : len0 * 1 ≤ 140737488351232) (w1 : (a1 = none ∧ len1 = 0 ∧ cap1 = 0 ∧ z1 = []) ∨ ∃ x, a1 = some x ∧ len1 ≤ cap1 ∧ cap1 ≤ maxLen ∧ z1.length = cap1 ∧ (∀ i, i < z1.length → w.cell? (x.add i) = some (.int .u8 (z1.getD i 0))) ∧ ∀ n ∈ z1, (Lit.int .u8 n).wf = true) (y1 : len1 * 1 ≤ 140737488351232) :
  Calls Try.prog 5 #[.slice a0 len0 cap0, .slice a1 len1 cap1] w fun e w' => e = .returned (.bool true) ∧ Below w.heap.size w w' := by
 obtain ⟨l0, rfl, hr0, hm0, hw0, hc0⟩ := ReadsInt.ofRowC w0
 obtain ⟨l1, rfl, hr1, hm1, hw1, hc1⟩ := ReadsInt.ofRowC w1
 obtain ⟨k, h⟩ := P l0 l1 hm0 y0 hw0 hm1 y1 hw1
 refine (laws_FnLevels.calls k _ _ l0 _ _ l1 true w (Kd.C_of_reads (d := (0 : Int)) (h1 := fun _ => rfl) hr0) hc0 (Kd.C_of_reads (d := (0 : Int)) (h1 := fun _ => rfl) hr1) hc1 h).mono ?_
 rintro e w' ⟨rfl, hd⟩
 exact ⟨rfl, hd⟩

end Go.Proofs.Ytlnhpkjioppbiaa.QFnLevels
