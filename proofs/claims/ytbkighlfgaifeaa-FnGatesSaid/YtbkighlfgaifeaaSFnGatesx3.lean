/- Functions of FnGates, each as a Lean function, with the proof that the Go code comes to its answers. -/
import Derived.Test.YtbkighlfgaifeaaSFnGatesx0
import Derived.Test.YtbkighlfgaifeaaSFnGatesx1
import Derived.Test.YtbkighlfgaifeaaSFnGatesx2
namespace Go.Proofs.Ytbkighlfgaifeaa.QFnGates
open Go.RowKit Go.Proofs.YtbkighlfgaifeaaW.PrintWords Go.Proofs.YtbkighlfgaifeaaW.PrintLast Go.Proofs.YtbkighlfgaifeaaW.PrintMore
open Go.Proofs.YtbkighlfgaifeaaW.PrintWords renaming pw_below_drewN → pN, below_drew1 → p1, below_alloc → pA
open Go.Proofs.YtbkighlfgaifeaaW.PrintWords.Kd renaming R_alloc → kA, R_drewN → kN, R_drew → kD, Q_alloc → qA, Q_drewN → qN, Q_drew → qD, C_alloc → cA, C_drewN → cN, C_drew → cD
open Go.Proofs.YtbkighlfgaifeaaW.PrintWords.Aside0 renaming mk → aM
open List renaming setIfInBounds_toArray → sI, set_cons_zero → s0, set_cons_succ → sS, map_toArray → mT, length_take → lT, length_drop → lD, map_cons → mC, map_nil → mN
open Option renaming bind_eq_some_iff → oB
attribute [local go_sem] max2_int min2_int max_two min_two max_three min_three max_four min_four
set_option maxHeartbeats 8000000
set_option maxRecDepth 100000
set_option linter.unusedVariables false
set_option linter.unusedSimpArgs false
def spec_DrawIsCircuit.f (l0 : List Int) : Option (Int × (List (S57)) × List Int) := (spec_l1Cur_anyCircuit.f l0 0 0).bind fun bt117 => (some (bt117.1, bt117.2.1, bt117.2.2.1))
theorem spec_DrawIsCircuit.calls (A0 : Option Addr) (c0 : Nat) (l0 : List Int) (r1 : Int) (r2 : List (S57)) (r3 : List Int) (w : World) (hr0 : Kd.C (Kd.int .u8) w A0 l0.length l0) (hc0 : l0.length ≤ c0) (h : spec_DrawIsCircuit.f l0 = some (r1, r2, r3)) :
  Calls Try.prog 117 #[.slice A0 l0.length c0] w fun e w' => ∃ v1_ v2_ : Value, e = .returned (.agg #[.int .i64 r1, v1_, v2_]) ∧ Kd.R k57 57 w' w.heap.size (fun _ => True) v1_ r2 ∧ Kd.R (Kd.int .i64) 3 w' w.heap.size (fun _ => True) v2_ r3 ∧ Below w.heap.size w w' := by
 have hu49 := Try.underlying49
 have hu111 := Try.underlying111
 have HR0 := aM hr0
 have HC0 := aM hc0
 clear hr0 hc0
 have HB := aM (Below.refl w.heap.size w)
 have H : ((spec_l1Cur_anyCircuit.f l0 0 0).bind fun bt117 => (some (bt117.1, bt117.2.1, bt117.2.2.1))) = some (r1, r2, r3) := h
 clear h
 replace H := oB.mp H
 obtain ⟨⟨t117, t118, t121, t124, t125⟩, A20, H⟩ := H
 replace H : (some (t117, t118, t121)) = some (r1, r2, r3) := H
 have A2 := aM A20
 clear A20
 simp only [Option.some.injEq, Prod.mk.injEq] at H
 obtain ⟨rfl, rfl, rfl⟩ := H
 go_enter Try.func117, Try.ntmps117
 go_wp2_with (first | ((with_reducible refine gate_dst (N := 2) rfl ?_); refine box_event ?hg (N := 2) ?hd (cs := #[.int .i64 0, .slice none 0 0, .slice none 0 0]) (t := 49) ?hr ?_; (case hd => rfl); (case hg => rfl); (case hr => exact zc_); intro gb115 hg w3 hbox hb; have n_ := z (below_step zb_ hb) <| z (hbox) <| z ((by rw [hg]; exact (below_size zb_) : w.heap.size ≤ gb115)) <| z1 ((by rw [hg]; exact (below_size zb_) : w.heap.size ≤ gb115)); clear HB; obtain ⟨HB, BK115, GW115, GE115⟩ := n_; clear hb hbox hg) | ((with_reducible refine gate_dst (N := 6) rfl ?_); refine box_event ?hg (N := 6) ?hd (cs := #[.slice A0 l0.length c0, .int .i64 0, .int .u64 0]) (t := 111) ?hr ?_; (case hd => rfl); (case hg => rfl); (case hr => exact zc_); intro gb116 hg w4 hbox hb; have n_ := z (blk_below (zb BK115.out) hb) <| z (below_step zhg_ hb) <| z ((by rw [hg]; exact (below_size zhg_) : w.heap.size ≤ gb116)) <| z ((by rw [hg]; exact (below_size zhg_) : w.heap.size ≤ gb116)) <| z ((by rw [hg]; exact Nat.ne_of_lt (blk_lt (zb BK115.out)) : gb115 ≠ gb116)) <| z ((by rw [hg]; exact Nat.ne_of_gt (blk_lt (zb BK115.out)) : gb116 ≠ gb115)) <| z1 ((⟨_, _, hbox, (by rw [hg]; exact (below_size zhg_) : w.heap.size ≤ gb116), HR0.out⟩ : IsS111 w w4 gb116 l0 0 0)); clear BK115 HB; obtain ⟨BK115, HB, GW116, GE116, NB115_116, NB116_115, HI116⟩ := n_; clear hb hbox hg) | ((with_reducible refine gate_callee (f := 128) rfl ?_); refine goesL_ (some 8) rfl rfl Try.func128 (by kernel_rfl) rfl #[.pointer (some ⟨gb116, 0, none⟩)] rfl ze_ ?_; (with_reducible refine (spec_l1Cur_anyCircuit.calls gb116 l0 0 0 t117 t118 t121 t124 t125 w _ ?side1 ?side2 A2.out).mono ?_); (case side1 => repeat (first | (with_reducible first | exact HI116.out | apply IsS111.alloc | apply IsS111.drewN | apply IsS111.drew | apply IsS111.set_1 | apply IsS111.set_2 | refine IsS111.far ?_ NB116_115.out _) | exact HI116.out)); (case side2 => exact zhh_); rintro e w5 ⟨v119, v122, rfl, ho0, ho1, hi, hb, hk⟩; refine ⟨_, rfl, ?_⟩; have n_ := z (KeepBut.blk hk (zb BK115.out) NB115_116.out (by simp)) <| z (Kd.R_lower ho0 (below_size zhh_)) <| z (Kd.R_lower ho1 (below_size zhh_)) <| z (hb) <| z1 (hi); clear BK115 HB HI116; obtain ⟨BK115, HO120, HO123, HB, HI116⟩ := n_; clear hb hk hi; (try clear ho0); (try clear ho1); have hnb6 := NB115_116.out; have hnc6 := NB116_115.out; have hcz7_0 : w5.cell? ⟨gb115, 0, none⟩ = some (.int .i64 0) := (blk_cell BK115.out 0).trans rfl; have hcz7_1 : w5.cell? ⟨gb115, 1, none⟩ = some (.slice none 0 0) := (blk_cell BK115.out 1).trans rfl; have hcz7_2 : w5.cell? ⟨gb115, 2, none⟩ = some (.slice none 0 0) := (blk_cell BK115.out 2).trans rfl; have hfz7_0 := blk_frozen BK115.out 0; have hfz7_1 := blk_frozen BK115.out 1; have hfz7_2 := blk_frozen BK115.out 2; obtain ⟨Ao8, co8, eo8⟩ := Kd.R_slice HO120.out; subst eo8; obtain ⟨Ao9, co9, eo9⟩ := Kd.R_slice HO123.out; subst eo9))
 refine bodyPost_ret (results_cell_row rfl _ _ gb115 49 #[.int .i64 t117, .slice Ao8 t118.length co8, .slice Ao9 t121.length co9] (0, 0) _ rfl (by refine zb ?_; refine blk_put (cs := #[.int .i64 t117, .slice Ao8 t118.length co8, .slice none 0 0]) ?_ 2 _ rfl; refine zb ?_; refine blk_put (cs := #[.int .i64 t117, .slice none 0 0, .slice none 0 0]) ?_ 1 _ rfl; refine zb ?_; refine blk_put (cs := #[.int .i64 0, .slice none 0 0, .slice none 0 0]) ?_ 0 _ rfl; refine zb ?_; exact BK115.out) Try.underlying49 rfl (by kernel_rfl)) rfl ?_
 exact ⟨_, _, zf_, by refine zr ?_; exact Kd.R_mono (Kd.R_far (p := ⟨gb115, 2, none⟩) (Kd.R_far (p := ⟨gb115, 1, none⟩) (Kd.R_far (p := ⟨gb115, 0, none⟩) (Kd.R_types HO120.out BK115.out (by decide)) (fun _ hk => hk.2) (.int .i64 t117)) (fun _ hk => hk.2) (.slice Ao8 t118.length co8)) (fun _ hk => hk.2) (.slice Ao9 t121.length co9)) (fun _ hk => trivial), by refine zr ?_; exact Kd.R_mono (Kd.R_far (p := ⟨gb115, 2, none⟩) (Kd.R_far (p := ⟨gb115, 1, none⟩) (Kd.R_far (p := ⟨gb115, 0, none⟩) (Kd.R_types HO123.out BK115.out (by decide)) (fun _ hk => hk.2) (.int .i64 t117)) (fun _ hk => hk.2) (.slice Ao8 t118.length co8)) (fun _ hk => hk.2) (.slice Ao9 t121.length co9)) (fun _ hk => trivial), zhh_⟩
def spec_DrawGateDepths.f (l0 : List Int) : Option (Int × (List (S57)) × List Int) := (spec_DrawIsCircuit.f l0).bind fun bt127 => (some (bt127.1, bt127.2.1, bt127.2.2))
theorem spec_DrawGateDepths.calls (A0 : Option Addr) (c0 : Nat) (l0 : List Int) (r1 : Int) (r2 : List (S57)) (r3 : List Int) (w : World) (hr0 : Kd.C (Kd.int .u8) w A0 l0.length l0) (hc0 : l0.length ≤ c0) (h : spec_DrawGateDepths.f l0 = some (r1, r2, r3)) :
  Calls Try.prog 26 #[.slice A0 l0.length c0] w fun e w' => ∃ v1_ v2_ : Value, e = .returned (.agg #[.int .i64 r1, v1_, v2_]) ∧ Kd.R k57 57 w' w.heap.size (fun _ => True) v1_ r2 ∧ Kd.R (Kd.int .i64) 3 w' w.heap.size (fun _ => True) v2_ r3 ∧ Below w.heap.size w w' := by
 have hu49 := Try.underlying49
 have HR0 := aM hr0
 have HC0 := aM hc0
 clear hr0 hc0
 have HB := aM (Below.refl w.heap.size w)
 have H : ((spec_DrawIsCircuit.f l0).bind fun bt127 => (some (bt127.1, bt127.2.1, bt127.2.2))) = some (r1, r2, r3) := h
 clear h
 replace H := oB.mp H
 obtain ⟨⟨t127, t128, t131⟩, A20, H⟩ := H
 replace H : (some (t127, t128, t131)) = some (r1, r2, r3) := H
 have A2 := aM A20
 clear A20
 simp only [Option.some.injEq, Prod.mk.injEq] at H
 obtain ⟨rfl, rfl, rfl⟩ := H
 go_enter Try.func26, Try.ntmps26
 go_wp2_with (first | ((with_reducible refine gate_dst (N := 2) rfl ?_); refine box_event ?hg (N := 2) ?hd (cs := #[.int .i64 0, .slice none 0 0, .slice none 0 0]) (t := 49) ?hr ?_; (case hd => rfl); (case hg => rfl); (case hr => exact zc_); intro gb126 hg w3 hbox hb; have n_ := z (below_step zb_ hb) <| z (hbox) <| z ((by rw [hg]; exact (below_size zb_) : w.heap.size ≤ gb126)) <| z1 ((by rw [hg]; exact (below_size zb_) : w.heap.size ≤ gb126)); clear HB; obtain ⟨HB, BK126, GW126, GE126⟩ := n_; clear hb hbox hg) | ((with_reducible refine gate_callee (f := 117) rfl ?_); refine goesL_ (some 4) rfl rfl Try.func117 (by kernel_rfl) rfl #[.slice A0 l0.length c0] rfl ze_ ?_; (with_reducible refine (spec_DrawIsCircuit.calls _ _ l0 t127 t128 t131 _ ?side1 ?side2 A2.out).mono ?_); (case side1 => repeat (first | exact (Kd.C_below HR0.out HB.out) | (with_reducible refine cA ?_ _) | (with_reducible refine cN ?_ _) | (with_reducible refine cD ?_))); (case side2 => exact HC0.out); rintro e w4 ⟨v129, v132, rfl, ho0, ho1, hb⟩; refine ⟨_, rfl, ?_⟩; have n_ := z (Kd.R_lower ho0 (below_size zhi_)) <| z (Kd.R_lower ho1 (below_size zhi_)) <| z (blk_below (zb BK126.out) hb) <| z1 (below_step zhi_ hb); clear BK126 HB; obtain ⟨HO130, HO133, BK126, HB⟩ := n_; clear hb; (try clear ho0); (try clear ho1); have hcz5_0 : w4.cell? ⟨gb126, 0, none⟩ = some (.int .i64 0) := (blk_cell BK126.out 0).trans rfl; have hcz5_1 : w4.cell? ⟨gb126, 1, none⟩ = some (.slice none 0 0) := (blk_cell BK126.out 1).trans rfl; have hcz5_2 : w4.cell? ⟨gb126, 2, none⟩ = some (.slice none 0 0) := (blk_cell BK126.out 2).trans rfl; have hfz5_0 := blk_frozen BK126.out 0; have hfz5_1 := blk_frozen BK126.out 1; have hfz5_2 := blk_frozen BK126.out 2; obtain ⟨Ao6, co6, eo6⟩ := Kd.R_slice HO130.out; subst eo6; obtain ⟨Ao7, co7, eo7⟩ := Kd.R_slice HO133.out; subst eo7))
 refine bodyPost_ret (results_cell_row rfl _ _ gb126 49 #[.int .i64 t127, .slice Ao6 t128.length co6, .slice Ao7 t131.length co7] (0, 0) _ rfl (by refine zb ?_; refine blk_put (cs := #[.int .i64 t127, .slice Ao6 t128.length co6, .slice none 0 0]) ?_ 2 _ rfl; refine zb ?_; refine blk_put (cs := #[.int .i64 t127, .slice none 0 0, .slice none 0 0]) ?_ 1 _ rfl; refine zb ?_; refine blk_put (cs := #[.int .i64 0, .slice none 0 0, .slice none 0 0]) ?_ 0 _ rfl; refine zb ?_; exact BK126.out) Try.underlying49 rfl (by kernel_rfl)) rfl ?_
 exact ⟨_, _, zf_, by refine zr ?_; exact Kd.R_mono (Kd.R_far (p := ⟨gb126, 2, none⟩) (Kd.R_far (p := ⟨gb126, 1, none⟩) (Kd.R_far (p := ⟨gb126, 0, none⟩) (Kd.R_types HO130.out BK126.out (by decide)) (fun _ hk => hk.2) (.int .i64 t127)) (fun _ hk => hk.2) (.slice Ao6 t128.length co6)) (fun _ hk => hk.2) (.slice Ao7 t131.length co7)) (fun _ hk => trivial), by refine zr ?_; exact Kd.R_mono (Kd.R_far (p := ⟨gb126, 2, none⟩) (Kd.R_far (p := ⟨gb126, 1, none⟩) (Kd.R_far (p := ⟨gb126, 0, none⟩) (Kd.R_types HO133.out BK126.out (by decide)) (fun _ hk => hk.2) (.int .i64 t127)) (fun _ hk => hk.2) (.slice Ao6 t128.length co6)) (fun _ hk => hk.2) (.slice Ao7 t131.length co7)) (fun _ hk => trivial), zhi_⟩
mutual
def impl_IsCircuit.j0 : Nat → Bool → Int → List (S57) → List Int → Option (Bool)
 | 0, _, _, _, _ => none
 | k + 1, x32, x135000, x135001, x135002 => if x32 = true then (some false) else (impl_IsCircuit.l0 k x135001 (x135001.length : Int) 0 x135000 x135001 x135002)
def impl_IsCircuit.l0 : Nat → List (S57) → Int → Int → Int → List (S57) → List Int → Option (Bool)
 | 0, _, _, _, _, _, _ => none
 | k + 1, x34, x35, x36, x135000, x135001, x135002 => if x36 < x35 then (if 0 ≤ x36 then (if x36 < (x34.length : Int) then (if ((rd_T57 x34 x36).f0) < 1 then (some false) else (if ((rd_T57 x34 x36).f0) > 4 then (some false) else (if ((rd_T57 x34 x36).f1) < 0 then (some false) else (if ((rd_T57 x34 x36).f1) ≥ (wrap64 (x135000 + x36)) then (some false) else (if ((rd_T57 x34 x36).f2) < 0 then (some false) else (if ((rd_T57 x34 x36).f2) ≥ (wrap64 (x135000 + x36)) then (some false) else (if ((rd_T57 x34 x36).f0) = 4 then (if ((rd_T57 x34 x36).f1) = ((rd_T57 x34 x36).f2) then (impl_IsCircuit.l0 k x34 x35 (wrap64 (x36 + 1)) x135000 x135001 x135002) else (some false)) else (impl_IsCircuit.l0 k x34 x35 (wrap64 (x36 + 1)) x135000 x135001 x135002)))))))) else (none)) else (none)) else (impl_IsCircuit.l1 k x135002 (x135002.length : Int) 0 x135000 x135001 x135002)
def impl_IsCircuit.l1 : Nat → List Int → Int → Int → Int → List (S57) → List Int → Option (Bool)
 | 0, _, _, _, _, _, _ => none
 | k + 1, x91, x92, x93, x135000, x135001, x135002 => if x93 < x92 then (if 0 ≤ x93 then (if x93 < (x91.length : Int) then (if (rd x91 x93) < 0 then (some false) else (if (rd x91 x93) ≥ (wrap64 (x135000 + (x135001.length : Int))) then (some false) else (impl_IsCircuit.l1 k x91 x92 (wrap64 (x93 + 1)) x135000 x135001 x135002))) else (none)) else (none)) else (some true)
end
def impl_IsCircuit.f (k : Nat) (a0_0 : Int) (l0_1 : List (S57)) (l0_2 : List Int) : Option (Bool) := if a0_0 < 0 then (impl_IsCircuit.j0 k true a0_0 l0_1 l0_2) else (if a0_0 > 4 then (impl_IsCircuit.j0 k true a0_0 l0_1 l0_2) else (if (l0_1.length : Int) > 16 then (impl_IsCircuit.j0 k true a0_0 l0_1 l0_2) else (if (l0_2.length : Int) < 1 then (impl_IsCircuit.j0 k true a0_0 l0_1 l0_2) else (impl_IsCircuit.j0 k (decide ((l0_2.length : Int) > 4)) a0_0 l0_1 l0_2))))
theorem impl_IsCircuit.calls (k : Nat) (a0_0 : Int) (A0_1 : Option Addr) (c0_1 : Nat) (l0_1 : List (S57)) (A0_2 : Option Addr) (c0_2 : Nat) (l0_2 : List Int) (r : Bool) (w : World) (hr0_1 : Kd.C k57 w A0_1 l0_1.length l0_1) (hc0_1 : l0_1.length ≤ c0_1) (hr0_2 : Kd.C (Kd.int .i64) w A0_2 l0_2.length l0_2) (hc0_2 : l0_2.length ≤ c0_2) (h : impl_IsCircuit.f k a0_0 l0_1 l0_2 = some r) :
  Calls Try.prog 118 #[.agg #[.int .i64 a0_0, .slice A0_1 l0_1.length c0_1, .slice A0_2 l0_2.length c0_2]] w fun e w' => e = .returned (.bool r) ∧ Below w.heap.size w w' := by
 have hu49 := Try.underlying49
 have hu57 := Try.underlying57
 have HR0_1 := aM hr0_1
 have HC0_1 := aM hc0_1
 clear hr0_1 hc0_1
 have HR0_2 := aM hr0_2
 have HC0_2 := aM hc0_2
 clear hr0_2 hc0_2
 have HB := aM (Below.refl w.heap.size w)
 have H : (if a0_0 < 0 then (impl_IsCircuit.j0 k true a0_0 l0_1 l0_2) else (if a0_0 > 4 then (impl_IsCircuit.j0 k true a0_0 l0_1 l0_2) else (if (l0_1.length : Int) > 16 then (impl_IsCircuit.j0 k true a0_0 l0_1 l0_2) else (if (l0_2.length : Int) < 1 then (impl_IsCircuit.j0 k true a0_0 l0_1 l0_2) else (impl_IsCircuit.j0 k (decide ((l0_2.length : Int) > 4)) a0_0 l0_1 l0_2))))) = some r := h
 clear h
 have HC2 := aM H
 clear H
 go_enter Try.func118, Try.ntmps118
 go_upto_region 1 with (first | ((with_reducible refine gate_dst (N := 1) rfl ?_); (try (refine gate_guard (by rfl) ?_; dsimp only)); refine box_event ?hg (N := 1) ?hd (cs := #[.int .i64 a0_0, .slice A0_1 l0_1.length c0_1, .slice A0_2 l0_2.length c0_2]) (t := 49) ?hr ?_; (case hd => rfl); (case hg => rfl); (case hr => exact zc_); intro gb134 hg w3 hbox hb; have n_ := z (below_step zb_ hb) <| z (hbox) <| z ((by rw [hg]; exact (below_size zb_) : w.heap.size ≤ gb134)) <| z1 ((by rw [hg]; exact (below_size zb_) : w.heap.size ≤ gb134)); clear HB; obtain ⟨HB, BK134, GW134, GE134⟩ := n_; clear hb hbox hg))
 (try simp only [Act.put, sI, s0, sS])
 go_cut [32] (fun v32 wc => ∃ (kq : Nat) (x32_1 : Bool), v32 = .bool x32_1 ∧ Aside0 (impl_IsCircuit.j0 kq x32_1 a0_0 l0_1 l0_2 = some r) ∧ Aside0 (kq ≤ k) ∧ Aside0 (wc.heap[gb134]? = some (.cells #[.int .i64 a0_0, (.slice A0_1 l0_1.length c0_1), (.slice A0_2 l0_2.length c0_2)] 49 (0, 0))) ∧ Aside0 (Below w.heap.size w wc))
 case first =>
  have H := HC2.out; clear HC2
  by_cases c4 : a0_0 < 0
  ·rw [if_pos c4] at H
   have c4b0 := decide_eq_true c4; clear c4; (first | rw [c4b0] | (simp only [i64_w, i32_w]; rw [c4b0]) | skip); have H' := aM H; clear H; have hcz5_0 : w3.cell? ⟨gb134, 0, none⟩ = some (.int .i64 a0_0) := (blk_cell BK134.out 0).trans rfl; have hcz5_1 : w3.cell? ⟨gb134, 1, none⟩ = some (.slice A0_1 l0_1.length c0_1) := (blk_cell BK134.out 1).trans rfl; have hcz5_2 : w3.cell? ⟨gb134, 2, none⟩ = some (.slice A0_2 l0_2.length c0_2) := (blk_cell BK134.out 2).trans rfl; have hfz5_0 := blk_frozen BK134.out 0; have hfz5_1 := blk_frozen BK134.out 1; have hfz5_2 := blk_frozen BK134.out 2
   go_wp2
   go_meet
   case rel => exact ⟨_, (true), zd_, H', ⟨zge_⟩, ⟨zb BK134.out⟩, ⟨zbb_⟩⟩
  ·rw [if_neg c4] at H
   have c4b0 := decide_eq_false c4; clear c4; (first | rw [c4b0] | (simp only [i64_w, i32_w]; rw [c4b0]) | skip)
   by_cases c6 : a0_0 > 4
   ·rw [if_pos c6] at H
    have c6b0 : decide (4 < a0_0) = true := decide_eq_true c6; clear c6; have H' := aM H; clear H; have hcz7_0 : w3.cell? ⟨gb134, 0, none⟩ = some (.int .i64 a0_0) := (blk_cell BK134.out 0).trans rfl; have hcz7_1 : w3.cell? ⟨gb134, 1, none⟩ = some (.slice A0_1 l0_1.length c0_1) := (blk_cell BK134.out 1).trans rfl; have hcz7_2 : w3.cell? ⟨gb134, 2, none⟩ = some (.slice A0_2 l0_2.length c0_2) := (blk_cell BK134.out 2).trans rfl; have hfz7_0 := blk_frozen BK134.out 0; have hfz7_1 := blk_frozen BK134.out 1; have hfz7_2 := blk_frozen BK134.out 2
    go_wp2
    go_meet
    case rel => exact ⟨_, (true), zd_, H', ⟨zge_⟩, ⟨zb BK134.out⟩, ⟨zbb_⟩⟩
   ·rw [if_neg c6] at H
    have c6b0 : decide (4 < a0_0) = false := decide_eq_false c6; clear c6
    by_cases c8 : (l0_1.length : Int) > 16
    ·rw [if_pos c8] at H
     have c8b0 : decide (16 < (l0_1.length : Int)) = true := decide_eq_true c8; have c8b1 : decide (16 < l0_1.length) = true := decide_eq_true (by omega); clear c8; have H' := aM H; clear H; have hcz9_0 : w3.cell? ⟨gb134, 0, none⟩ = some (.int .i64 a0_0) := (blk_cell BK134.out 0).trans rfl; have hcz9_1 : w3.cell? ⟨gb134, 1, none⟩ = some (.slice A0_1 l0_1.length c0_1) := (blk_cell BK134.out 1).trans rfl; have hcz9_2 : w3.cell? ⟨gb134, 2, none⟩ = some (.slice A0_2 l0_2.length c0_2) := (blk_cell BK134.out 2).trans rfl; have hfz9_0 := blk_frozen BK134.out 0; have hfz9_1 := blk_frozen BK134.out 1; have hfz9_2 := blk_frozen BK134.out 2
     go_wp2
     go_meet
     case rel => exact ⟨_, (true), zd_, H', ⟨zge_⟩, ⟨zb BK134.out⟩, ⟨zbb_⟩⟩
    ·rw [if_neg c8] at H
     have c8b0 : decide (16 < (l0_1.length : Int)) = false := decide_eq_false c8; have c8b1 : decide (16 < l0_1.length) = false := decide_eq_false (by omega); clear c8
     by_cases c10 : (l0_2.length : Int) < 1
     ·rw [if_pos c10] at H
      have c10b0 := decide_eq_true c10; have c10b1 : decide (l0_2.length < 1) = true := decide_eq_true (by omega); clear c10; have H' := aM H; clear H; have hcz11_0 : w3.cell? ⟨gb134, 0, none⟩ = some (.int .i64 a0_0) := (blk_cell BK134.out 0).trans rfl; have hcz11_1 : w3.cell? ⟨gb134, 1, none⟩ = some (.slice A0_1 l0_1.length c0_1) := (blk_cell BK134.out 1).trans rfl; have hcz11_2 : w3.cell? ⟨gb134, 2, none⟩ = some (.slice A0_2 l0_2.length c0_2) := (blk_cell BK134.out 2).trans rfl; have hfz11_0 := blk_frozen BK134.out 0; have hfz11_1 := blk_frozen BK134.out 1; have hfz11_2 := blk_frozen BK134.out 2
      go_wp2
      go_meet
      case rel => exact ⟨_, (true), zd_, H', ⟨zge_⟩, ⟨zb BK134.out⟩, ⟨zbb_⟩⟩
     ·rw [if_neg c10] at H
      have c10b0 := decide_eq_false c10; have c10b1 : decide (l0_2.length < 1) = false := decide_eq_false (by omega); clear c10; have H' := aM H; clear H; have hcz12_0 : w3.cell? ⟨gb134, 0, none⟩ = some (.int .i64 a0_0) := (blk_cell BK134.out 0).trans rfl; have hcz12_1 : w3.cell? ⟨gb134, 1, none⟩ = some (.slice A0_1 l0_1.length c0_1) := (blk_cell BK134.out 1).trans rfl; have hcz12_2 : w3.cell? ⟨gb134, 2, none⟩ = some (.slice A0_2 l0_2.length c0_2) := (blk_cell BK134.out 2).trans rfl; have hfz12_0 := blk_frozen BK134.out 0; have hfz12_1 := blk_frozen BK134.out 1; have hfz12_2 := blk_frozen BK134.out 2
      go_wp2
      go_meet
      case rel => exact ⟨_, (decide ((l0_2.length : Int) > 4)), zd_, H', ⟨zge_⟩, ⟨zb BK134.out⟩, ⟨zbb_⟩⟩
 case rest =>
  clear HC2; obtain ⟨kq, x32_1, rfl, HA, HJ1, BK134, HB⟩ := hcut
  cases kq with
  | zero => exact absurd HA.out (by simp [impl_IsCircuit.j0])
  | succ kj1 =>
   have H := HA.out; clear HA
   simp only [impl_IsCircuit.j0] at H
   by_cases c13 : x32_1 = true
   ·subst c13
    have H1 : (some false) = some r := by rw [if_pos rfl] at H; exact H
    clear H; have H := H1; clear H1; obtain rfl := Option.some.inj H
    go_wp2
    go_ret
    exact ⟨zf_, zbb_⟩
   ·replace c13 := Bool.eq_false_iff.mpr c13
    subst c13; have H1 : (impl_IsCircuit.l0 kj1 l0_1 (l0_1.length : Int) 0 a0_0 l0_1 l0_2) = some r := by rw [if_neg (show ¬ (false = true) by decide)] at H; exact H
    clear H; have H := H1; clear H1; have H' := aM H; clear H; have hcz14_0 : wc.cell? ⟨gb134, 0, none⟩ = some (.int .i64 a0_0) := (blk_cell BK134.out 0).trans rfl; have hcz14_1 : wc.cell? ⟨gb134, 1, none⟩ = some (.slice A0_1 l0_1.length c0_1) := (blk_cell BK134.out 1).trans rfl; have hcz14_2 : wc.cell? ⟨gb134, 2, none⟩ = some (.slice A0_2 l0_2.length c0_2) := (blk_cell BK134.out 2).trans rfl; have hfz14_0 := blk_frozen BK134.out 0; have hfz14_1 := blk_frozen BK134.out 1; have hfz14_2 := blk_frozen BK134.out 2
    go_wp2
    go_loopg [36] kj1 (fun kq v36 w' => ∃ (x36_2 : Int), v36 = .int .i64 x36_2 ∧ Aside0 (impl_IsCircuit.l0 kq l0_1 (l0_1.length : Int) x36_2 a0_0 l0_1 l0_2 = some r) ∧ Aside0 (kq ≤ kj1) ∧ Aside0 (w'.heap[gb134]? = some (.cells #[.int .i64 a0_0, (.slice A0_1 l0_1.length c0_1), (.slice A0_2 l0_2.length c0_2)] 49 (0, 0))) ∧ Aside0 (Below w.heap.size w w'))
    case atStart => exact ⟨(0), zd_, H', ⟨Nat.le_refl _⟩, ⟨zb BK134.out⟩, ⟨zbb_⟩⟩
    case round =>
     clear H'; (try clear hcz14_0); (try clear hcz14_1); (try clear hcz14_2); (try clear hfz14_0); (try clear hfz14_1); (try clear hfz14_2); obtain ⟨x36_2, rfl, HA, HK2, BK134, HB⟩ := hrel
     cases gk with
     | zero => exact absurd HA.out (by simp [impl_IsCircuit.l0])
     | succ k2 =>
      have H := HA.out; clear HA
      simp only [impl_IsCircuit.l0] at H
      by_cases c15 : x36_2 < (l0_1.length : Int)
      ·rw [if_pos c15] at H
       have c15b0 := decide_eq_true c15; clear c15
       by_cases c16 : 0 ≤ x36_2
       ·rw [if_pos c16] at H
        have c16b0 := decide_eq_true c16; clear c16
        by_cases c17 : x36_2 < (l0_1.length : Int)
        ·rw [if_pos c17] at H
         have c17b0 := decide_eq_true c17; clear c17
         by_cases c18 : ((rd_T57 l0_1 x36_2).f0) < 1
         ·rw [if_pos c18] at H
          have c18b0 := decide_eq_true c18; clear c18; obtain rfl := Option.some.inj H; have p135 : 0 ≤ (x36_2 : Int) := of_decide_eq_true za_; have q135 : x36_2 < (l0_1.length : Int) := of_decide_eq_true za_; obtain ⟨ad135, e135, hx135_0, hx135_1, hx135_2⟩ := at_T57 HR0_1.out x36_2 p135 q135
          cases e135
          (try (replace hx135_0 := (HB.out.cell (World.block_lt_of_cell? w _ hx135_0)).trans hx135_0)); (try (replace hx135_1 := (HB.out.cell (World.block_lt_of_cell? w _ hx135_1)).trans hx135_1)); (try (replace hx135_2 := (HB.out.cell (World.block_lt_of_cell? w _ hx135_2)).trans hx135_2)); replace p135 := eq_true p135; replace q135 := eq_true q135
          go_wp2_with (first | ((with_reducible refine gate_dst (N := 4) rfl ?_); (try (refine gate_guard (by rfl) ?_; dsimp only)); refine box_event ?hg (N := 4) ?hd (cs := #[.int .i64 0, .int .i64 0, .int .i64 0]) (t := 57) ?hr ?_; (case hd => rfl); (case hg => rfl); (case hr => exact zc_); intro gb136 hg w19 hbox hb; have n_ := z (blk_below (zb BK134.out) hb) <| z (below_step zbb_ hb) <| z (hbox) <| z ((by rw [hg]; exact (below_size zbb_) : w.heap.size ≤ gb136)) <| z ((by rw [hg]; exact (below_size zbb_) : w.heap.size ≤ gb136)) <| z ((by rw [hg]; exact Nat.ne_of_lt (blk_lt (zb BK134.out)) : gb134 ≠ gb136)) <| z1 ((by rw [hg]; exact Nat.ne_of_gt (blk_lt (zb BK134.out)) : gb136 ≠ gb134)); clear BK134 HB; obtain ⟨BK134, HB, BK136, GW136, GE136, NB134_136, NB136_134⟩ := n_; clear hb hbox hg; have hnb20 := NB136_134.out; have hnc20 := NB134_136.out; have hcz21_0 : w19.cell? ⟨gb136, 0, none⟩ = some (.int .i64 0) := (blk_cell BK136.out 0).trans rfl; have hcz21_1 : w19.cell? ⟨gb136, 1, none⟩ = some (.int .i64 0) := (blk_cell BK136.out 1).trans rfl; have hcz21_2 : w19.cell? ⟨gb136, 2, none⟩ = some (.int .i64 0) := (blk_cell BK136.out 2).trans rfl; have hfz21_0 := blk_frozen BK136.out 0; have hfz21_1 := blk_frozen BK136.out 1; have hfz21_2 := blk_frozen BK136.out 2))
          go_ret
          exact ⟨zf_, zei_⟩
         ·rw [if_neg c18] at H
          have c18b0 := decide_eq_false c18; clear c18
          by_cases c22 : ((rd_T57 l0_1 x36_2).f0) > 4
          ·rw [if_pos c22] at H
           have c22b0 : decide (4 < ((rd_T57 l0_1 x36_2).f0)) = true := decide_eq_true c22; clear c22; obtain rfl := Option.some.inj H; have p135 : 0 ≤ (x36_2 : Int) := of_decide_eq_true za_; have q135 : x36_2 < (l0_1.length : Int) := of_decide_eq_true za_; obtain ⟨ad135, e135, hx135_0, hx135_1, hx135_2⟩ := at_T57 HR0_1.out x36_2 p135 q135
           cases e135
           (try (replace hx135_0 := (HB.out.cell (World.block_lt_of_cell? w _ hx135_0)).trans hx135_0)); (try (replace hx135_1 := (HB.out.cell (World.block_lt_of_cell? w _ hx135_1)).trans hx135_1)); (try (replace hx135_2 := (HB.out.cell (World.block_lt_of_cell? w _ hx135_2)).trans hx135_2)); replace p135 := eq_true p135; replace q135 := eq_true q135
           go_wp2_with (first | ((with_reducible refine gate_dst (N := 4) rfl ?_); (try (refine gate_guard (by rfl) ?_; dsimp only)); refine box_event ?hg (N := 4) ?hd (cs := #[.int .i64 0, .int .i64 0, .int .i64 0]) (t := 57) ?hr ?_; (case hd => rfl); (case hg => rfl); (case hr => exact zc_); intro gb136 hg w23 hbox hb; have n_ := z (blk_below (zb BK134.out) hb) <| z (below_step zbb_ hb) <| z (hbox) <| z ((by rw [hg]; exact (below_size zbb_) : w.heap.size ≤ gb136)) <| z ((by rw [hg]; exact (below_size zbb_) : w.heap.size ≤ gb136)) <| z ((by rw [hg]; exact Nat.ne_of_lt (blk_lt (zb BK134.out)) : gb134 ≠ gb136)) <| z1 ((by rw [hg]; exact Nat.ne_of_gt (blk_lt (zb BK134.out)) : gb136 ≠ gb134)); clear BK134 HB; obtain ⟨BK134, HB, BK136, GW136, GE136, NB134_136, NB136_134⟩ := n_; clear hb hbox hg; have hnb24 := NB136_134.out; have hnc24 := NB134_136.out; have hcz25_0 : w23.cell? ⟨gb136, 0, none⟩ = some (.int .i64 0) := (blk_cell BK136.out 0).trans rfl; have hcz25_1 : w23.cell? ⟨gb136, 1, none⟩ = some (.int .i64 0) := (blk_cell BK136.out 1).trans rfl; have hcz25_2 : w23.cell? ⟨gb136, 2, none⟩ = some (.int .i64 0) := (blk_cell BK136.out 2).trans rfl; have hfz25_0 := blk_frozen BK136.out 0; have hfz25_1 := blk_frozen BK136.out 1; have hfz25_2 := blk_frozen BK136.out 2))
           go_ret
           exact ⟨zf_, zei_⟩
          ·rw [if_neg c22] at H
           have c22b0 : decide (4 < ((rd_T57 l0_1 x36_2).f0)) = false := decide_eq_false c22; clear c22
           by_cases c26 : ((rd_T57 l0_1 x36_2).f1) < 0
           ·rw [if_pos c26] at H
            have c26b0 := decide_eq_true c26; clear c26; obtain rfl := Option.some.inj H; have p135 : 0 ≤ (x36_2 : Int) := of_decide_eq_true za_; have q135 : x36_2 < (l0_1.length : Int) := of_decide_eq_true za_; obtain ⟨ad135, e135, hx135_0, hx135_1, hx135_2⟩ := at_T57 HR0_1.out x36_2 p135 q135
            cases e135
            (try (replace hx135_0 := (HB.out.cell (World.block_lt_of_cell? w _ hx135_0)).trans hx135_0)); (try (replace hx135_1 := (HB.out.cell (World.block_lt_of_cell? w _ hx135_1)).trans hx135_1)); (try (replace hx135_2 := (HB.out.cell (World.block_lt_of_cell? w _ hx135_2)).trans hx135_2)); replace p135 := eq_true p135; replace q135 := eq_true q135
            go_wp2_with (first | ((with_reducible refine gate_dst (N := 4) rfl ?_); (try (refine gate_guard (by rfl) ?_; dsimp only)); refine box_event ?hg (N := 4) ?hd (cs := #[.int .i64 0, .int .i64 0, .int .i64 0]) (t := 57) ?hr ?_; (case hd => rfl); (case hg => rfl); (case hr => exact zc_); intro gb136 hg w27 hbox hb; have n_ := z (blk_below (zb BK134.out) hb) <| z (below_step zbb_ hb) <| z (hbox) <| z ((by rw [hg]; exact (below_size zbb_) : w.heap.size ≤ gb136)) <| z ((by rw [hg]; exact (below_size zbb_) : w.heap.size ≤ gb136)) <| z ((by rw [hg]; exact Nat.ne_of_lt (blk_lt (zb BK134.out)) : gb134 ≠ gb136)) <| z1 ((by rw [hg]; exact Nat.ne_of_gt (blk_lt (zb BK134.out)) : gb136 ≠ gb134)); clear BK134 HB; obtain ⟨BK134, HB, BK136, GW136, GE136, NB134_136, NB136_134⟩ := n_; clear hb hbox hg; have hnb28 := NB136_134.out; have hnc28 := NB134_136.out; have hcz29_0 : w27.cell? ⟨gb136, 0, none⟩ = some (.int .i64 0) := (blk_cell BK136.out 0).trans rfl; have hcz29_1 : w27.cell? ⟨gb136, 1, none⟩ = some (.int .i64 0) := (blk_cell BK136.out 1).trans rfl; have hcz29_2 : w27.cell? ⟨gb136, 2, none⟩ = some (.int .i64 0) := (blk_cell BK136.out 2).trans rfl; have hfz29_0 := blk_frozen BK136.out 0; have hfz29_1 := blk_frozen BK136.out 1; have hfz29_2 := blk_frozen BK136.out 2))
            go_ret
            exact ⟨zf_, zei_⟩
           ·rw [if_neg c26] at H
            have c26b0 := decide_eq_false c26; clear c26
            by_cases c30 : ((rd_T57 l0_1 x36_2).f1) ≥ (wrap64 (a0_0 + x36_2))
            ·rw [if_pos c30] at H
             have c30b0 : decide ((wrap64 (a0_0 + x36_2)) ≤ ((rd_T57 l0_1 x36_2).f1)) = true := decide_eq_true c30; clear c30; obtain rfl := Option.some.inj H; have p135 : 0 ≤ (x36_2 : Int) := of_decide_eq_true za_; have q135 : x36_2 < (l0_1.length : Int) := of_decide_eq_true za_; obtain ⟨ad135, e135, hx135_0, hx135_1, hx135_2⟩ := at_T57 HR0_1.out x36_2 p135 q135
             cases e135
             (try (replace hx135_0 := (HB.out.cell (World.block_lt_of_cell? w _ hx135_0)).trans hx135_0)); (try (replace hx135_1 := (HB.out.cell (World.block_lt_of_cell? w _ hx135_1)).trans hx135_1)); (try (replace hx135_2 := (HB.out.cell (World.block_lt_of_cell? w _ hx135_2)).trans hx135_2)); replace p135 := eq_true p135; replace q135 := eq_true q135
             go_wp2_with (first | ((with_reducible refine gate_dst (N := 4) rfl ?_); (try (refine gate_guard (by rfl) ?_; dsimp only)); refine box_event ?hg (N := 4) ?hd (cs := #[.int .i64 0, .int .i64 0, .int .i64 0]) (t := 57) ?hr ?_; (case hd => rfl); (case hg => rfl); (case hr => exact zc_); intro gb136 hg w31 hbox hb; have n_ := z (blk_below (zb BK134.out) hb) <| z (below_step zbb_ hb) <| z (hbox) <| z ((by rw [hg]; exact (below_size zbb_) : w.heap.size ≤ gb136)) <| z ((by rw [hg]; exact (below_size zbb_) : w.heap.size ≤ gb136)) <| z ((by rw [hg]; exact Nat.ne_of_lt (blk_lt (zb BK134.out)) : gb134 ≠ gb136)) <| z1 ((by rw [hg]; exact Nat.ne_of_gt (blk_lt (zb BK134.out)) : gb136 ≠ gb134)); clear BK134 HB; obtain ⟨BK134, HB, BK136, GW136, GE136, NB134_136, NB136_134⟩ := n_; clear hb hbox hg; have hnb32 := NB136_134.out; have hnc32 := NB134_136.out; have hcz33_0 : w31.cell? ⟨gb136, 0, none⟩ = some (.int .i64 0) := (blk_cell BK136.out 0).trans rfl; have hcz33_1 : w31.cell? ⟨gb136, 1, none⟩ = some (.int .i64 0) := (blk_cell BK136.out 1).trans rfl; have hcz33_2 : w31.cell? ⟨gb136, 2, none⟩ = some (.int .i64 0) := (blk_cell BK136.out 2).trans rfl; have hfz33_0 := blk_frozen BK136.out 0; have hfz33_1 := blk_frozen BK136.out 1; have hfz33_2 := blk_frozen BK136.out 2; have hcz34_0 : w31.cell? ⟨gb134, 0, none⟩ = some (.int .i64 a0_0) := (blk_cell BK134.out 0).trans rfl; have hcz34_1 : w31.cell? ⟨gb134, 1, none⟩ = some (.slice (some ad135) l0_1.length c0_1) := (blk_cell BK134.out 1).trans rfl; have hcz34_2 : w31.cell? ⟨gb134, 2, none⟩ = some (.slice A0_2 l0_2.length c0_2) := (blk_cell BK134.out 2).trans rfl; have hfz34_0 := blk_frozen BK134.out 0; have hfz34_1 := blk_frozen BK134.out 1; have hfz34_2 := blk_frozen BK134.out 2))
             go_ret
             exact ⟨zf_, zei_⟩
            ·rw [if_neg c30] at H
             have c30b0 : decide ((wrap64 (a0_0 + x36_2)) ≤ ((rd_T57 l0_1 x36_2).f1)) = false := decide_eq_false c30; clear c30
             by_cases c35 : ((rd_T57 l0_1 x36_2).f2) < 0
             ·rw [if_pos c35] at H
              have c35b0 := decide_eq_true c35; clear c35; obtain rfl := Option.some.inj H; have p135 : 0 ≤ (x36_2 : Int) := of_decide_eq_true za_; have q135 : x36_2 < (l0_1.length : Int) := of_decide_eq_true za_; obtain ⟨ad135, e135, hx135_0, hx135_1, hx135_2⟩ := at_T57 HR0_1.out x36_2 p135 q135
              cases e135
              (try (replace hx135_0 := (HB.out.cell (World.block_lt_of_cell? w _ hx135_0)).trans hx135_0)); (try (replace hx135_1 := (HB.out.cell (World.block_lt_of_cell? w _ hx135_1)).trans hx135_1)); (try (replace hx135_2 := (HB.out.cell (World.block_lt_of_cell? w _ hx135_2)).trans hx135_2)); replace p135 := eq_true p135; replace q135 := eq_true q135
              go_wp2_with (first | ((with_reducible refine gate_dst (N := 4) rfl ?_); (try (refine gate_guard (by rfl) ?_; dsimp only)); refine box_event ?hg (N := 4) ?hd (cs := #[.int .i64 0, .int .i64 0, .int .i64 0]) (t := 57) ?hr ?_; (case hd => rfl); (case hg => rfl); (case hr => exact zc_); intro gb136 hg w36 hbox hb; have n_ := z (blk_below (zb BK134.out) hb) <| z (below_step zbb_ hb) <| z (hbox) <| z ((by rw [hg]; exact (below_size zbb_) : w.heap.size ≤ gb136)) <| z ((by rw [hg]; exact (below_size zbb_) : w.heap.size ≤ gb136)) <| z ((by rw [hg]; exact Nat.ne_of_lt (blk_lt (zb BK134.out)) : gb134 ≠ gb136)) <| z1 ((by rw [hg]; exact Nat.ne_of_gt (blk_lt (zb BK134.out)) : gb136 ≠ gb134)); clear BK134 HB; obtain ⟨BK134, HB, BK136, GW136, GE136, NB134_136, NB136_134⟩ := n_; clear hb hbox hg; have hnb37 := NB136_134.out; have hnc37 := NB134_136.out; have hcz38_0 : w36.cell? ⟨gb136, 0, none⟩ = some (.int .i64 0) := (blk_cell BK136.out 0).trans rfl; have hcz38_1 : w36.cell? ⟨gb136, 1, none⟩ = some (.int .i64 0) := (blk_cell BK136.out 1).trans rfl; have hcz38_2 : w36.cell? ⟨gb136, 2, none⟩ = some (.int .i64 0) := (blk_cell BK136.out 2).trans rfl; have hfz38_0 := blk_frozen BK136.out 0; have hfz38_1 := blk_frozen BK136.out 1; have hfz38_2 := blk_frozen BK136.out 2; have hcz39_0 : w36.cell? ⟨gb134, 0, none⟩ = some (.int .i64 a0_0) := (blk_cell BK134.out 0).trans rfl; have hcz39_1 : w36.cell? ⟨gb134, 1, none⟩ = some (.slice (some ad135) l0_1.length c0_1) := (blk_cell BK134.out 1).trans rfl; have hcz39_2 : w36.cell? ⟨gb134, 2, none⟩ = some (.slice A0_2 l0_2.length c0_2) := (blk_cell BK134.out 2).trans rfl; have hfz39_0 := blk_frozen BK134.out 0; have hfz39_1 := blk_frozen BK134.out 1; have hfz39_2 := blk_frozen BK134.out 2))
              go_ret
              exact ⟨zf_, zei_⟩
             ·rw [if_neg c35] at H
              have c35b0 := decide_eq_false c35; clear c35
              by_cases c40 : ((rd_T57 l0_1 x36_2).f2) ≥ (wrap64 (a0_0 + x36_2))
              ·rw [if_pos c40] at H
               have c40b0 : decide ((wrap64 (a0_0 + x36_2)) ≤ ((rd_T57 l0_1 x36_2).f2)) = true := decide_eq_true c40; clear c40; obtain rfl := Option.some.inj H; have p135 : 0 ≤ (x36_2 : Int) := of_decide_eq_true za_; have q135 : x36_2 < (l0_1.length : Int) := of_decide_eq_true za_; obtain ⟨ad135, e135, hx135_0, hx135_1, hx135_2⟩ := at_T57 HR0_1.out x36_2 p135 q135
               cases e135
               (try (replace hx135_0 := (HB.out.cell (World.block_lt_of_cell? w _ hx135_0)).trans hx135_0)); (try (replace hx135_1 := (HB.out.cell (World.block_lt_of_cell? w _ hx135_1)).trans hx135_1)); (try (replace hx135_2 := (HB.out.cell (World.block_lt_of_cell? w _ hx135_2)).trans hx135_2)); replace p135 := eq_true p135; replace q135 := eq_true q135
               go_wp2_with (first | ((with_reducible refine gate_dst (N := 4) rfl ?_); (try (refine gate_guard (by rfl) ?_; dsimp only)); refine box_event ?hg (N := 4) ?hd (cs := #[.int .i64 0, .int .i64 0, .int .i64 0]) (t := 57) ?hr ?_; (case hd => rfl); (case hg => rfl); (case hr => exact zc_); intro gb136 hg w41 hbox hb; have n_ := z (blk_below (zb BK134.out) hb) <| z (below_step zbb_ hb) <| z (hbox) <| z ((by rw [hg]; exact (below_size zbb_) : w.heap.size ≤ gb136)) <| z ((by rw [hg]; exact (below_size zbb_) : w.heap.size ≤ gb136)) <| z ((by rw [hg]; exact Nat.ne_of_lt (blk_lt (zb BK134.out)) : gb134 ≠ gb136)) <| z1 ((by rw [hg]; exact Nat.ne_of_gt (blk_lt (zb BK134.out)) : gb136 ≠ gb134)); clear BK134 HB; obtain ⟨BK134, HB, BK136, GW136, GE136, NB134_136, NB136_134⟩ := n_; clear hb hbox hg; have hnb42 := NB136_134.out; have hnc42 := NB134_136.out; have hcz43_0 : w41.cell? ⟨gb136, 0, none⟩ = some (.int .i64 0) := (blk_cell BK136.out 0).trans rfl; have hcz43_1 : w41.cell? ⟨gb136, 1, none⟩ = some (.int .i64 0) := (blk_cell BK136.out 1).trans rfl; have hcz43_2 : w41.cell? ⟨gb136, 2, none⟩ = some (.int .i64 0) := (blk_cell BK136.out 2).trans rfl; have hfz43_0 := blk_frozen BK136.out 0; have hfz43_1 := blk_frozen BK136.out 1; have hfz43_2 := blk_frozen BK136.out 2; have hcz44_0 : w41.cell? ⟨gb134, 0, none⟩ = some (.int .i64 a0_0) := (blk_cell BK134.out 0).trans rfl; have hcz44_1 : w41.cell? ⟨gb134, 1, none⟩ = some (.slice (some ad135) l0_1.length c0_1) := (blk_cell BK134.out 1).trans rfl; have hcz44_2 : w41.cell? ⟨gb134, 2, none⟩ = some (.slice A0_2 l0_2.length c0_2) := (blk_cell BK134.out 2).trans rfl; have hfz44_0 := blk_frozen BK134.out 0; have hfz44_1 := blk_frozen BK134.out 1; have hfz44_2 := blk_frozen BK134.out 2))
               go_ret
               exact ⟨zf_, zei_⟩
              ·rw [if_neg c40] at H
               have c40b0 : decide ((wrap64 (a0_0 + x36_2)) ≤ ((rd_T57 l0_1 x36_2).f2)) = false := decide_eq_false c40; clear c40
               by_cases c45 : ((rd_T57 l0_1 x36_2).f0) = 4
               ·rw [if_pos c45] at H
                have c45b0 := beq_iff_eq.mpr c45; have c45b1 := bne_eq_false_iff_eq.mpr c45; clear c45
                by_cases c46 : ((rd_T57 l0_1 x36_2).f1) = ((rd_T57 l0_1 x36_2).f2)
                ·rw [if_pos c46] at H
                 have c46b0 := beq_iff_eq.mpr c46; have c46b1 := bne_eq_false_iff_eq.mpr c46; clear c46; have H' := aM H; clear H; have p135 : 0 ≤ (x36_2 : Int) := of_decide_eq_true za_; have q135 : x36_2 < (l0_1.length : Int) := of_decide_eq_true za_; obtain ⟨ad135, e135, hx135_0, hx135_1, hx135_2⟩ := at_T57 HR0_1.out x36_2 p135 q135
                 cases e135
                 (try (replace hx135_0 := (HB.out.cell (World.block_lt_of_cell? w _ hx135_0)).trans hx135_0)); (try (replace hx135_1 := (HB.out.cell (World.block_lt_of_cell? w _ hx135_1)).trans hx135_1)); (try (replace hx135_2 := (HB.out.cell (World.block_lt_of_cell? w _ hx135_2)).trans hx135_2)); replace p135 := eq_true p135; replace q135 := eq_true q135
                 go_wp2_with (first | ((with_reducible refine gate_dst (N := 4) rfl ?_); (try (refine gate_guard (by rfl) ?_; dsimp only)); refine box_event ?hg (N := 4) ?hd (cs := #[.int .i64 0, .int .i64 0, .int .i64 0]) (t := 57) ?hr ?_; (case hd => rfl); (case hg => rfl); (case hr => exact zc_); intro gb136 hg w47 hbox hb; have n_ := z (blk_below (zb BK134.out) hb) <| z (below_step zbb_ hb) <| z (hbox) <| z ((by rw [hg]; exact (below_size zbb_) : w.heap.size ≤ gb136)) <| z ((by rw [hg]; exact (below_size zbb_) : w.heap.size ≤ gb136)) <| z ((by rw [hg]; exact Nat.ne_of_lt (blk_lt (zb BK134.out)) : gb134 ≠ gb136)) <| z1 ((by rw [hg]; exact Nat.ne_of_gt (blk_lt (zb BK134.out)) : gb136 ≠ gb134)); clear BK134 HB; obtain ⟨BK134, HB, BK136, GW136, GE136, NB134_136, NB136_134⟩ := n_; clear hb hbox hg; have hnb48 := NB136_134.out; have hnc48 := NB134_136.out; have hcz49_0 : w47.cell? ⟨gb136, 0, none⟩ = some (.int .i64 0) := (blk_cell BK136.out 0).trans rfl; have hcz49_1 : w47.cell? ⟨gb136, 1, none⟩ = some (.int .i64 0) := (blk_cell BK136.out 1).trans rfl; have hcz49_2 : w47.cell? ⟨gb136, 2, none⟩ = some (.int .i64 0) := (blk_cell BK136.out 2).trans rfl; have hfz49_0 := blk_frozen BK136.out 0; have hfz49_1 := blk_frozen BK136.out 1; have hfz49_2 := blk_frozen BK136.out 2; have hcz50_0 : w47.cell? ⟨gb134, 0, none⟩ = some (.int .i64 a0_0) := (blk_cell BK134.out 0).trans rfl; have hcz50_1 : w47.cell? ⟨gb134, 1, none⟩ = some (.slice (some ad135) l0_1.length c0_1) := (blk_cell BK134.out 1).trans rfl; have hcz50_2 : w47.cell? ⟨gb134, 2, none⟩ = some (.slice A0_2 l0_2.length c0_2) := (blk_cell BK134.out 2).trans rfl; have hfz50_0 := blk_frozen BK134.out 0; have hfz50_1 := blk_frozen BK134.out 1; have hfz50_2 := blk_frozen BK134.out 2))
                 go_roundg k2
                 case measure => have := HJ1.out; have := HK2.out; omega
                 case rel => exact ⟨(wrap64 (x36_2 + 1)), zd_, H', ⟨by have := HJ1.out; have := HK2.out; omega⟩, ⟨by refine zb ?_; refine blk_far ?_ NB134_136.out _; refine zb ?_; refine blk_far ?_ NB134_136.out _; refine zb ?_; refine blk_far ?_ NB134_136.out _; refine zb ?_; exact BK134.out⟩, ⟨zei_⟩⟩
                ·rw [if_neg c46] at H
                 have c46b0 := beq_eq_false_iff_ne.mpr c46; have c46b1 := bne_iff_ne.mpr c46; obtain rfl := Option.some.inj H; have p135 : 0 ≤ (x36_2 : Int) := of_decide_eq_true za_; have q135 : x36_2 < (l0_1.length : Int) := of_decide_eq_true za_; obtain ⟨ad135, e135, hx135_0, hx135_1, hx135_2⟩ := at_T57 HR0_1.out x36_2 p135 q135
                 cases e135
                 (try (replace hx135_0 := (HB.out.cell (World.block_lt_of_cell? w _ hx135_0)).trans hx135_0)); (try (replace hx135_1 := (HB.out.cell (World.block_lt_of_cell? w _ hx135_1)).trans hx135_1)); (try (replace hx135_2 := (HB.out.cell (World.block_lt_of_cell? w _ hx135_2)).trans hx135_2)); replace p135 := eq_true p135; replace q135 := eq_true q135
                 go_wp2_with (first | ((with_reducible refine gate_dst (N := 4) rfl ?_); (try (refine gate_guard (by rfl) ?_; dsimp only)); refine box_event ?hg (N := 4) ?hd (cs := #[.int .i64 0, .int .i64 0, .int .i64 0]) (t := 57) ?hr ?_; (case hd => rfl); (case hg => rfl); (case hr => exact zc_); intro gb136 hg w51 hbox hb; have n_ := z (blk_below (zb BK134.out) hb) <| z (below_step zbb_ hb) <| z (hbox) <| z ((by rw [hg]; exact (below_size zbb_) : w.heap.size ≤ gb136)) <| z ((by rw [hg]; exact (below_size zbb_) : w.heap.size ≤ gb136)) <| z ((by rw [hg]; exact Nat.ne_of_lt (blk_lt (zb BK134.out)) : gb134 ≠ gb136)) <| z1 ((by rw [hg]; exact Nat.ne_of_gt (blk_lt (zb BK134.out)) : gb136 ≠ gb134)); clear BK134 HB; obtain ⟨BK134, HB, BK136, GW136, GE136, NB134_136, NB136_134⟩ := n_; clear hb hbox hg; have hnb52 := NB136_134.out; have hnc52 := NB134_136.out; have hcz53_0 : w51.cell? ⟨gb136, 0, none⟩ = some (.int .i64 0) := (blk_cell BK136.out 0).trans rfl; have hcz53_1 : w51.cell? ⟨gb136, 1, none⟩ = some (.int .i64 0) := (blk_cell BK136.out 1).trans rfl; have hcz53_2 : w51.cell? ⟨gb136, 2, none⟩ = some (.int .i64 0) := (blk_cell BK136.out 2).trans rfl; have hfz53_0 := blk_frozen BK136.out 0; have hfz53_1 := blk_frozen BK136.out 1; have hfz53_2 := blk_frozen BK136.out 2; have hcz54_0 : w51.cell? ⟨gb134, 0, none⟩ = some (.int .i64 a0_0) := (blk_cell BK134.out 0).trans rfl; have hcz54_1 : w51.cell? ⟨gb134, 1, none⟩ = some (.slice (some ad135) l0_1.length c0_1) := (blk_cell BK134.out 1).trans rfl; have hcz54_2 : w51.cell? ⟨gb134, 2, none⟩ = some (.slice A0_2 l0_2.length c0_2) := (blk_cell BK134.out 2).trans rfl; have hfz54_0 := blk_frozen BK134.out 0; have hfz54_1 := blk_frozen BK134.out 1; have hfz54_2 := blk_frozen BK134.out 2))
                 go_ret
                 exact ⟨zf_, zei_⟩
               ·rw [if_neg c45] at H
                have c45b0 := beq_eq_false_iff_ne.mpr c45; have c45b1 := bne_iff_ne.mpr c45; have H' := aM H; clear H; have p135 : 0 ≤ (x36_2 : Int) := of_decide_eq_true za_; have q135 : x36_2 < (l0_1.length : Int) := of_decide_eq_true za_; obtain ⟨ad135, e135, hx135_0, hx135_1, hx135_2⟩ := at_T57 HR0_1.out x36_2 p135 q135
                cases e135
                (try (replace hx135_0 := (HB.out.cell (World.block_lt_of_cell? w _ hx135_0)).trans hx135_0)); (try (replace hx135_1 := (HB.out.cell (World.block_lt_of_cell? w _ hx135_1)).trans hx135_1)); (try (replace hx135_2 := (HB.out.cell (World.block_lt_of_cell? w _ hx135_2)).trans hx135_2)); replace p135 := eq_true p135; replace q135 := eq_true q135
                go_wp2_with (first | ((with_reducible refine gate_dst (N := 4) rfl ?_); (try (refine gate_guard (by rfl) ?_; dsimp only)); refine box_event ?hg (N := 4) ?hd (cs := #[.int .i64 0, .int .i64 0, .int .i64 0]) (t := 57) ?hr ?_; (case hd => rfl); (case hg => rfl); (case hr => exact zc_); intro gb136 hg w55 hbox hb; have n_ := z (blk_below (zb BK134.out) hb) <| z (below_step zbb_ hb) <| z (hbox) <| z ((by rw [hg]; exact (below_size zbb_) : w.heap.size ≤ gb136)) <| z ((by rw [hg]; exact (below_size zbb_) : w.heap.size ≤ gb136)) <| z ((by rw [hg]; exact Nat.ne_of_lt (blk_lt (zb BK134.out)) : gb134 ≠ gb136)) <| z1 ((by rw [hg]; exact Nat.ne_of_gt (blk_lt (zb BK134.out)) : gb136 ≠ gb134)); clear BK134 HB; obtain ⟨BK134, HB, BK136, GW136, GE136, NB134_136, NB136_134⟩ := n_; clear hb hbox hg; have hnb56 := NB136_134.out; have hnc56 := NB134_136.out; have hcz57_0 : w55.cell? ⟨gb136, 0, none⟩ = some (.int .i64 0) := (blk_cell BK136.out 0).trans rfl; have hcz57_1 : w55.cell? ⟨gb136, 1, none⟩ = some (.int .i64 0) := (blk_cell BK136.out 1).trans rfl; have hcz57_2 : w55.cell? ⟨gb136, 2, none⟩ = some (.int .i64 0) := (blk_cell BK136.out 2).trans rfl; have hfz57_0 := blk_frozen BK136.out 0; have hfz57_1 := blk_frozen BK136.out 1; have hfz57_2 := blk_frozen BK136.out 2; have hcz58_0 : w55.cell? ⟨gb134, 0, none⟩ = some (.int .i64 a0_0) := (blk_cell BK134.out 0).trans rfl; have hcz58_1 : w55.cell? ⟨gb134, 1, none⟩ = some (.slice (some ad135) l0_1.length c0_1) := (blk_cell BK134.out 1).trans rfl; have hcz58_2 : w55.cell? ⟨gb134, 2, none⟩ = some (.slice A0_2 l0_2.length c0_2) := (blk_cell BK134.out 2).trans rfl; have hfz58_0 := blk_frozen BK134.out 0; have hfz58_1 := blk_frozen BK134.out 1; have hfz58_2 := blk_frozen BK134.out 2))
                go_roundg k2
                case measure => have := HJ1.out; have := HK2.out; omega
                case rel => exact ⟨(wrap64 (x36_2 + 1)), zd_, H', ⟨by have := HJ1.out; have := HK2.out; omega⟩, ⟨by refine zb ?_; refine blk_far ?_ NB134_136.out _; refine zb ?_; refine blk_far ?_ NB134_136.out _; refine zb ?_; refine blk_far ?_ NB134_136.out _; refine zb ?_; exact BK134.out⟩, ⟨zei_⟩⟩
        ·rw [if_neg c17] at H
         exact absurd H (by simp)
       ·rw [if_neg c16] at H
        exact absurd H (by simp)
      ·rw [if_neg c15] at H
       have c15b0 := decide_eq_false c15; clear c15; have H' := aM H; clear H; have hcz59_0 : wr.cell? ⟨gb134, 0, none⟩ = some (.int .i64 a0_0) := (blk_cell BK134.out 0).trans rfl; have hcz59_1 : wr.cell? ⟨gb134, 1, none⟩ = some (.slice A0_1 l0_1.length c0_1) := (blk_cell BK134.out 1).trans rfl; have hcz59_2 : wr.cell? ⟨gb134, 2, none⟩ = some (.slice A0_2 l0_2.length c0_2) := (blk_cell BK134.out 2).trans rfl; have hfz59_0 := blk_frozen BK134.out 0; have hfz59_1 := blk_frozen BK134.out 1; have hfz59_2 := blk_frozen BK134.out 2
       go_wp2
       go_loopg [93] k2 (fun kq v93 w' => ∃ (x93_3 : Int), v93 = .int .i64 x93_3 ∧ Aside0 (impl_IsCircuit.l1 kq l0_2 (l0_2.length : Int) x93_3 a0_0 l0_1 l0_2 = some r) ∧ Aside0 (kq ≤ k2) ∧ Aside0 (w'.heap[gb134]? = some (.cells #[.int .i64 a0_0, (.slice A0_1 l0_1.length c0_1), (.slice A0_2 l0_2.length c0_2)] 49 (0, 0))) ∧ Aside0 (Below w.heap.size w w'))
       case atStart => exact ⟨(0), zd_, H', ⟨Nat.le_refl _⟩, ⟨zb BK134.out⟩, ⟨zbb_⟩⟩
       case round =>
        clear H'; (try clear c15b0); (try clear hcz59_0); (try clear hcz59_1); (try clear hcz59_2); (try clear hfz59_0); (try clear hfz59_1); (try clear hfz59_2); obtain ⟨x93_3, rfl, HA, HK3, BK134, HB⟩ := hrel
        cases gk with
        | zero => exact absurd HA.out (by simp [impl_IsCircuit.l1])
        | succ k3 =>
         have H := HA.out; clear HA
         simp only [impl_IsCircuit.l1] at H
         by_cases c60 : x93_3 < (l0_2.length : Int)
         ·rw [if_pos c60] at H
          have c60b0 := decide_eq_true c60; clear c60
          by_cases c61 : 0 ≤ x93_3
          ·rw [if_pos c61] at H
           have c61b0 := decide_eq_true c61; clear c61
           by_cases c62 : x93_3 < (l0_2.length : Int)
           ·rw [if_pos c62] at H
            have c62b0 := decide_eq_true c62; clear c62
            by_cases c63 : (rd l0_2 x93_3) < 0
            ·rw [if_pos c63] at H
             have c63b0 := decide_eq_true c63; clear c63; obtain rfl := Option.some.inj H; have p137 : 0 ≤ (x93_3 : Int) := of_decide_eq_true za_; have q137 : x93_3 < (l0_2.length : Int) := of_decide_eq_true za_; obtain ⟨ad137, e137, hx137_0⟩ := Kd.at_int HR0_2.out x93_3 p137 q137
             cases e137
             (try (replace hx137_0 := (HB.out.cell (World.block_lt_of_cell? w _ hx137_0)).trans hx137_0)); replace p137 := eq_true p137; replace q137 := eq_true q137
             go_wp2
             go_ret
             exact ⟨zf_, zbb_⟩
            ·rw [if_neg c63] at H
             have c63b0 := decide_eq_false c63; clear c63
             by_cases c64 : (rd l0_2 x93_3) ≥ (wrap64 (a0_0 + (l0_1.length : Int)))
             ·rw [if_pos c64] at H
              have c64b0 : decide ((wrap64 (a0_0 + (l0_1.length : Int))) ≤ (rd l0_2 x93_3)) = true := decide_eq_true c64; clear c64; obtain rfl := Option.some.inj H; have p137 : 0 ≤ (x93_3 : Int) := of_decide_eq_true za_; have q137 : x93_3 < (l0_2.length : Int) := of_decide_eq_true za_; obtain ⟨ad137, e137, hx137_0⟩ := Kd.at_int HR0_2.out x93_3 p137 q137
              cases e137
              (try (replace hx137_0 := (HB.out.cell (World.block_lt_of_cell? w _ hx137_0)).trans hx137_0)); replace p137 := eq_true p137; replace q137 := eq_true q137; have hcz65_0 : wr.cell? ⟨gb134, 0, none⟩ = some (.int .i64 a0_0) := (blk_cell BK134.out 0).trans rfl; have hcz65_1 : wr.cell? ⟨gb134, 1, none⟩ = some (.slice A0_1 l0_1.length c0_1) := (blk_cell BK134.out 1).trans rfl; have hcz65_2 : wr.cell? ⟨gb134, 2, none⟩ = some (.slice (some ad137) l0_2.length c0_2) := (blk_cell BK134.out 2).trans rfl; have hfz65_0 := blk_frozen BK134.out 0; have hfz65_1 := blk_frozen BK134.out 1; have hfz65_2 := blk_frozen BK134.out 2
              go_wp2
              go_ret
              exact ⟨zf_, zbb_⟩
             ·rw [if_neg c64] at H
              have c64b0 : decide ((wrap64 (a0_0 + (l0_1.length : Int))) ≤ (rd l0_2 x93_3)) = false := decide_eq_false c64; clear c64; have H' := aM H; clear H; have p137 : 0 ≤ (x93_3 : Int) := of_decide_eq_true za_; have q137 : x93_3 < (l0_2.length : Int) := of_decide_eq_true za_; obtain ⟨ad137, e137, hx137_0⟩ := Kd.at_int HR0_2.out x93_3 p137 q137
              cases e137
              (try (replace hx137_0 := (HB.out.cell (World.block_lt_of_cell? w _ hx137_0)).trans hx137_0)); replace p137 := eq_true p137; replace q137 := eq_true q137; have hcz66_0 : wr.cell? ⟨gb134, 0, none⟩ = some (.int .i64 a0_0) := (blk_cell BK134.out 0).trans rfl; have hcz66_1 : wr.cell? ⟨gb134, 1, none⟩ = some (.slice A0_1 l0_1.length c0_1) := (blk_cell BK134.out 1).trans rfl; have hcz66_2 : wr.cell? ⟨gb134, 2, none⟩ = some (.slice (some ad137) l0_2.length c0_2) := (blk_cell BK134.out 2).trans rfl; have hfz66_0 := blk_frozen BK134.out 0; have hfz66_1 := blk_frozen BK134.out 1; have hfz66_2 := blk_frozen BK134.out 2
              go_wp2
              go_roundg k3
              case measure => have := HJ1.out; have := HK2.out; have := HK3.out; omega
              case rel => exact ⟨(wrap64 (x93_3 + 1)), zd_, H', ⟨by have := HJ1.out; have := HK2.out; have := HK3.out; omega⟩, ⟨zb BK134.out⟩, ⟨zbb_⟩⟩
           ·rw [if_neg c62] at H
            exact absurd H (by simp)
          ·rw [if_neg c61] at H
           exact absurd H (by simp)
         ·rw [if_neg c60] at H
          have c60b0 := decide_eq_false c60; clear c60; obtain rfl := Option.some.inj H
          go_wp2
          go_ret
          exact ⟨zf_, zbb_⟩
end Go.Proofs.Ytbkighlfgaifeaa.QFnGates
