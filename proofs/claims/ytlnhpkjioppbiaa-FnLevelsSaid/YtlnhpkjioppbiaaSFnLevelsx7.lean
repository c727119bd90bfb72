/- Functions of FnLevels, each as a Lean function, with the proof that the Go code comes to its answers. -/
import Derived.Test.YtlnhpkjioppbiaaSFnLevelsx1
import Derived.Test.YtlnhpkjioppbiaaSFnLevelsx5
namespace Go.Proofs.Ytlnhpkjioppbiaa.QFnLevels
open Go.RowKit Go.Proofs.YtlnhpkjioppbiaaW.PrintWords Go.Proofs.YtlnhpkjioppbiaaW.PrintLast Go.Proofs.YtlnhpkjioppbiaaW.PrintMore
open Go.Proofs.YtlnhpkjioppbiaaW.PrintWords renaming pw_below_drewN → pN, below_drew1 → p1, below_alloc → pA
open Go.Proofs.YtlnhpkjioppbiaaW.PrintWords.Kd renaming R_alloc → kA, R_drewN → kN, R_drew → kD, Q_alloc → qA, Q_drewN → qN, Q_drew → qD, C_alloc → cA, C_drewN → cN, C_drew → cD
open Go.Proofs.YtlnhpkjioppbiaaW.PrintWords.Aside0 renaming mk → aM
open List renaming setIfInBounds_toArray → sI, set_cons_zero → s0, set_cons_succ → sS, map_toArray → mT, length_take → lT, length_drop → lD, map_cons → mC, map_nil → mN
open Option renaming bind_eq_some_iff → oB, bind_some → oS
attribute [local go_sem] max2_int min2_int max_two min_two max_three min_three max_four min_four
set_option maxHeartbeats 8000000
set_option maxRecDepth 100000
set_option linter.unusedVariables false
set_option linter.unusedSimpArgs false
mutual
def impl_levelsOf.l0 : Nat → List Int → List (List Int) → Int → Int → List (S109) → List Int → Option ((List (List Int)))
 | 0, _, _, _, _, _, _ => none
 | k + 1, x3, x5, x6, x155000, x155001, x155002 => if x6 < x155000 then (if 0 < (x5.length : Int) then (if (rd_L4 x5 0).length < 17592186044416 then (impl_levelsOf.l0 k x3 (x5.set (0 : Int).toNat ((rd_L4 x5 0) ++ [x6])) (wrap64 (x6 + 1)) x155000 x155001 x155002) else (none)) else (none)) else (impl_levelsOf.l1 k x5 x3 (x3.length : Int) 0 x155000 x155001 x155002)
def impl_levelsOf.l1 : Nat → List (List Int) → List Int → Int → Int → Int → List (S109) → List Int → Option ((List (List Int)))
 | 0, _, _, _, _, _, _, _ => none
 | k + 1, x5, x30, x31, x32, x155000, x155001, x155002 => if x32 < x31 then (if 0 ≤ x32 then (if x32 < (x30.length : Int) then (impl_levelsOf.l2 k x5 x32 (rd x30 x32) x30 x31 x32 x155000 x155001 x155002) else (none)) else (none)) else (some x5)
def impl_levelsOf.l2 : Nat → List (List Int) → Int → Int → List Int → Int → Int → Int → List (S109) → List Int → Option ((List (List Int)))
 | 0, _, _, _, _, _, _, _, _, _ => none
 | k + 1, x5, x7, x8, x30, x31, x32, x155000, x155001, x155002 => if x8 ≥ (x5.length : Int) then (if x5.length < 5864062014805 then (impl_levelsOf.l2 k (x5 ++ [[]]) x7 x8 x30 x31 x32 x155000 x155001 x155002) else (none)) else (if 0 ≤ x8 then (if x8 < (x5.length : Int) then (if (rd_L4 x5 x8).length < 17592186044416 then (impl_levelsOf.l1 k (x5.set (x8 : Int).toNat ((rd_L4 x5 x8) ++ [wrap64 (x155000 + x7)])) x30 x31 (wrap64 (x32 + 1)) x155000 x155001 x155002) else (none)) else (none)) else (none))
end
def impl_levelsOf.f (k : Nat) (a0_0 : Int) (l0_1 : List (S109)) (l0_2 : List Int) : Option ((List (List Int))) := (impl_GateDepths.f k a0_0 l0_1 l0_2).bind fun bt155 => (impl_levelsOf.l0 k bt155.1 (([(([] : List Int))] : List (List Int))) 0 a0_0 l0_1 l0_2)
def impl_levelsOf.T12 : Bool × List (List Nat × List Nat) := (true, [([], []), ([], []), ([], []), ([], []), ([2, 3], [2, 3]), ([4], [4]), ([], []), ([6], [6]), ([], []), ([7, 8], [7, 8]), ([9], [9]), ([5, 10], [5, 10]), ([0, 1, 0, 1, 2, 3, 4, 5, 6, 7, 8, 9, 10, 11], [0, 1]), ([12, 11, 11, 0, 1, 2, 3, 4, 5, 6, 7, 8, 9, 10, 11], [11, 12])])
def impl_levelsOf.B12 : List Nat := [0, 0, 0, 0, 12, 28, 0, 64, 0, 448, 960, 2044, 4095, 8191]
theorem impl_levelsOf.tab12 : rtab .any (opsOf Try.f85 12) = impl_levelsOf.T12 := by kernel_rfl
theorem impl_levelsOf.bits12 : waitsOk impl_levelsOf.T12.2 impl_levelsOf.B12 = true := by kernel_rfl
theorem impl_levelsOf.calls (k : Nat) (a0_0 : Int) (A0_1 : Option Addr) (c0_1 : Nat) (l0_1 : List (S109)) (A0_2 : Option Addr) (c0_2 : Nat) (l0_2 : List Int) (r : List (List Int)) (w : World) (hr0_1 : Kd.C k109 w A0_1 l0_1.length l0_1) (hc0_1 : l0_1.length ≤ c0_1) (hr0_2 : Kd.C (Kd.int .i64) w A0_2 l0_2.length l0_2) (hc0_2 : l0_2.length ≤ c0_2) (h : impl_levelsOf.f k a0_0 l0_1 l0_2 = some r) :
  Calls Try.prog 85 #[.agg #[.int .i64 a0_0, .slice A0_1 l0_1.length c0_1, .slice A0_2 l0_2.length c0_2]] w fun e w' => ∃ v0_ : Value, e = .returned (v0_) ∧ Kd.S (Kd.slice 3 (Kd.int .i64)) 39 w' w.heap.size (fun _ => True) v0_ r ∧ Below w.heap.size w w' := by
 have hu61 := Try.underlying61
 have HR0_1 := aM hr0_1
 have HC0_1 := aM hc0_1
 clear hr0_1 hc0_1
 have HR0_2 := aM hr0_2
 have HC0_2 := aM hc0_2
 clear hr0_2 hc0_2
 have HB := aM (Below.refl w.heap.size w)
 have H : ((impl_GateDepths.f k a0_0 l0_1 l0_2).bind fun bt155 => (impl_levelsOf.l0 k bt155.1 (([(([] : List Int))] : List (List Int))) 0 a0_0 l0_1 l0_2)) = some r := h
 clear h
 replace H := oB.mp H
 obtain ⟨⟨t155, t158⟩, A20, H⟩ := H
 replace H : (impl_levelsOf.l0 k t155 (([(([] : List Int))] : List (List Int))) 0 a0_0 l0_1 l0_2) = some r := H
 have A2 := aM A20
 clear A20
 obtain ⟨y159, hy159⟩ : ∃ y_ : List Int, y_ = (([] : List Int)) := ⟨_, rfl⟩
 replace H : (impl_levelsOf.l0 k t155 (([y159] : List (List Int))) 0 a0_0 l0_1 l0_2) = some r := q3y_ hy159 H
 have Ny159 := aM hy159
 clear hy159
 obtain ⟨y162, hy162⟩ : ∃ y_ : List (List Int), y_ = (([y159] : List (List Int))) := ⟨_, rfl⟩
 replace H : (impl_levelsOf.l0 k t155 y162 0 a0_0 l0_1 l0_2) = some r := q3y_ hy162 H
 have Ny162 := aM hy162
 clear hy162
 have H' := aM H
 clear H
 go_enter Try.func85, Try.ntmps85
 go_wp2_with (first | ((with_reducible refine gate_dst (N := 1) rfl ?_); refine box_event ?hg (N := 1) ?hd (cs := #[.int .i64 a0_0, .slice A0_1 l0_1.length c0_1, .slice A0_2 l0_2.length c0_2]) (t := 61) ?hr ?_; (case hd => rfl); (case hg => rfl); (case hr => exact zd_); intro gb154 hg w3 hbox hb; have n_ := z (below_step zb_ hb) <| z (hbox) <| z ((by rw [hg]; exact (below_size zb_) : w.heap.size ≤ gb154)) <| z1 ((by rw [hg]; exact (below_size zb_) : w.heap.size ≤ gb154)); clear HB; obtain ⟨HB, BK154, GW154, GE154⟩ := n_; clear hb hbox hg; obtain ⟨hcz4_0, hcz4_1, hcz4_2, hfz4_0, hfz4_1, hfz4_2⟩ := zk3 BK154.out) | ((with_reducible refine gate_callee (f := 35) rfl ?_); refine goesL_ (some 11) rfl rfl Try.func35 (by kernel_rfl) rfl #[.agg #[.int .i64 a0_0, .slice A0_1 l0_1.length c0_1, .slice A0_2 l0_2.length c0_2]] rfl zf_ ?_; (with_reducible refine (impl_GateDepths.calls k a0_0 _ _ l0_1 _ _ l0_2 t155 t158 _ ?side1 ?side2 ?side3 ?side4 A2.out).mono ?_); (case side1 => exact zce_); (case side2 => exact HC0_1.out); (case side3 => exact zcf_); (case side4 => exact HC0_2.out); rintro e w5 ⟨v156, rfl, ho0, hb⟩; refine ⟨_, rfl, ?_⟩; have n_ := z (Kd.R_lower ho0 (below_size zcg_)) <| z (blk_below (zb BK154.out) hb) <| z1 (below_step zcg_ hb); clear BK154 HB; obtain ⟨HO157, BK154, HB⟩ := n_; clear hb; (try clear ho0)) | ((with_reducible refine gate_dst (N := 14) rfl ?_); refine Kd.R_lit (Kd.int .i64) _ 3 ?hg (N := 14) ?hd (xs := ([] : List Int)) (inner := []) (ok := fun _ => True) (okp := fun _ => True) ?hr ?hp (fun _ hk => hk) trivial (Below.refl _ _) (Nat.le_refl _) (by simp) ?_; (case hd => rfl); (case hg => rfl); (case hr => exact zd_); (case hp => exact (Reps.none _ _)); intro v160 w6 ho7 hb hg_ hnew_; clear hg_ hnew_; (first | rw [← Ny159.out] at ho7 | (simp only [Int.reduceToNat] at ho7; rw [← Ny159.out] at ho7)); have n_ := z (Kd.R_elder' (zr HO157.out) (Kd.R_base ho7) hb) <| z (Kd.R_lower (Kd.R_new' ho7 (Kd.R_lt (zr HO157.out))) (below_size zcg_)) <| z (blk_below (zb BK154.out) hb) <| z1 (below_step zcg_ hb); clear HO157 BK154 HB; obtain ⟨HO157, HO161, BK154, HB⟩ := n_; clear hb ho7; obtain ⟨Ao8, co8, eo8⟩ := Kd.R_slice HO161.out; subst eo8) | ((with_reducible refine gate_dst (N := 15) rfl ?_); refine S_lit1_ (Kd.slice 3 (Kd.int .i64)) _ 39 ?hg (N := 15) ?hd (x := y159) (inner := [.slice Ao8 y159.length co8]) ?hr ⟨_, rfl, (HO161.out)⟩ zcg_ (below_size zcg_) ?_; (case hd => rfl); (case hg => rfl); (case hr => exact zd_); intro v163 w9 ho10 hb hg_ hnew_; clear hg_ hnew_; (first | rw [← Ny162.out] at ho10 | (simp only [Int.reduceToNat] at ho10; rw [← Ny162.out] at ho10)); have n_ := z (Kd.R_below (zr HO157.out) hb) <| z (ho10 (fun k_ => True ∧ some k_ ≠ (v156 : Value).ownBlock) (fun k_ hk_ => hk_) ⟨trivial, Kd.fresh' (Kd.R_lt (zr HO157.out)) _ (Nat.le_refl _)⟩) <| z (blk_below (zb BK154.out) hb) <| z1 (below_step zcg_ hb); clear HO157 BK154 HB HO161; obtain ⟨HO157, HO164, BK154, HB⟩ := n_; clear hb ho10))
 go_loopg [6] k (fun kq v6 w' => ∃ (x5_1 : List (List Int)) (x6_1 : Int), v6 = .int .i64 x6_1 ∧ Aside0 (impl_levelsOf.l0 kq t155 x5_1 x6_1 a0_0 l0_1 l0_2 = some r) ∧ Aside0 (kq ≤ k) ∧ Aside0 (Kd.R (Kd.int .i64) 3 w' w.heap.size (fun _ => True) v156 t155) ∧ Aside0 (Kd.S (Kd.slice 3 (Kd.int .i64)) 39 w' w.heap.size (fun k_ => some k_ ≠ (v156 : Value).ownBlock) v163 x5_1) ∧ Aside0 (w'.heap[gb154]? = some (.cells #[.int .i64 a0_0, (.slice A0_1 l0_1.length c0_1), (.slice A0_2 l0_2.length c0_2)] 61 (0, 0))) ∧ Aside0 (Below w.heap.size w w'))
 case atStart => exact ⟨(y162), (0), zc_, H', ⟨Nat.le_refl _⟩, ⟨by refine zr ?_; exact Kd.R_mono HO157.out (fun _ hk => trivial)⟩, ⟨by refine zs ?_; exact Kd.S_mono HO164.out (fun _ hk => hk.2)⟩, ⟨zb BK154.out⟩, ⟨zcg_⟩⟩
 case round =>
  clear H'; (try clear hcz4_0); (try clear hcz4_1); (try clear hcz4_2); (try clear hfz4_0); (try clear hfz4_1); (try clear hfz4_2); obtain ⟨x5_1, x6_1, rfl, HA, HK1, HO_3, HO_5, BK154, HB⟩ := hrel
  cases gk with
  | zero => exact absurd HA.out (by simp [impl_levelsOf.l0])
  | succ k1 =>
   have H := HA.out; clear HA
   simp only [impl_levelsOf.l0] at H
   by_cases c11 : x6_1 < a0_0
   ·rw [if_pos c11] at H
    have c11b0 := decide_eq_true c11; clear c11
    by_cases c12 : 0 < (x5_1.length : Int)
    ·rw [if_pos c12] at H
     have c12b0 := decide_eq_true c12; have c12b1 : decide (0 < x5_1.length) = true := decide_eq_true (by omega); clear c12
     by_cases c13 : (rd_L4 x5_1 0).length < 17592186044416
     ·rw [if_pos c13] at H
      have LMc13 := aM c13; clear c13; obtain ⟨y166, hy166⟩ : ∃ y_ : List Int, y_ = ((rd_L4 x5_1 0) ++ [x6_1]) := ⟨_, rfl⟩; replace H : (impl_levelsOf.l0 k1 t155 (x5_1.set (0 : Int).toNat y166) (wrap64 (x6_1 + 1)) a0_0 l0_1 l0_2) = some r := q3y_ hy166 H
      have Ny166 := aM hy166; clear hy166; obtain ⟨y169, hy169⟩ : ∃ y_ : List (List Int), y_ = (x5_1.set (0 : Int).toNat y166) := ⟨_, rfl⟩; replace H : (impl_levelsOf.l0 k1 t155 y169 (wrap64 (x6_1 + 1)) a0_0 l0_1 l0_2) = some r := q3y_ hy169 H
      have Ny169 := aM hy169; clear hy169; have H' := aM H; clear H; obtain ⟨hcz15_0, hcz15_1, hcz15_2, hfz15_0, hfz15_1, hfz15_2⟩ := zk3 BK154.out; obtain ⟨Ao16, co16, eo16⟩ := Kd.S_slice HO_5.out; subst eo16; have p165 : 0 ≤ (0 : Int) := (by omega); have q165 : 0 < (x5_1.length : Int) := of_decide_eq_true za_; obtain ⟨ad165, A165_0, c165_0, e165, hx165_0, hl165_0, hi165_0⟩ := at_L4 (Kd.S_reads' HO_5.out).2.2 0 p165 q165
      cases e165
      obtain ⟨ce165, hce165, hMe165, hcc165⟩ := Kd.S_get HO_5.out [] 0 p165 (by first | exact q165 | exact of_decide_eq_true za_ | (have e_ := (Kd.S_reads' HO_5.out).1; omega)); obtain ⟨ve165_0, rfl, ge165_0⟩ := hMe165; have hv165_0 := hcc165 0 _ rfl; rw [Nat.add_zero, show ((Kd.slice 3 (Kd.int .i64))).sz = 1 from rfl, Nat.mul_one] at hv165_0; replace hv165_0 := Option.some.inj (hv165_0.symm.trans hx165_0); rw [hv165_0] at ge165_0; have HL165_0 := aM (show Kd.R (Kd.int .i64) 3 _ _ _ _ (rd_L4 x5_1 0) from ge165_0); clear hv165_0 ge165_0; have HX165_0 := aM hx165_0; clear hcc165 hce165; have qi165 : (0 < x5_1.length) = True := eq_true (by omega); (try rw [show ((0 : Int)).toNat = 0 from rfl] at hx165_0); (try rw [Addr.add_zero'] at hx165_0); have HR165_0 := aM hi165_0; have HC165_0 := aM hl165_0; clear hi165_0 hl165_0; replace p165 := eq_true p165; replace q165 := eq_true q165; obtain ⟨go17, co17, eo17, gb17, gl17, cl17, HG17⟩ := Kd.S_form HO_5.out (by have h_ : (0 : Int) < ((x5_1.length : Int) : Int) := of_decide_eq_true za_; have h2_ : 0 ≤ (0 : Int) := (by omega); omega); (first | cases eo17 | (injection eo17 with ea_ en_ ec_; (first | subst ea_ | (injection ea_ with ea_; subst ea_)); subst ec_; clear en_)); have GB17 := aM gb17; have GG17 := aM HG17; clear gb17 gl17 HG17; (first | simp only [add_plain] at hx165_0 | skip); obtain ⟨oki17, ce17, hcl17, hM17, hcc17, _, _, hH17⟩ := Kd.S_elem HO_5.out [] (0 : Int) (by omega) (by have h_ : (0 : Int) < ((x5_1.length : Int) : Int) := of_decide_eq_true za_; first | exact h_ | (have e_ := (Kd.S_reads' HO_5.out).1; omega) | simpa using h_); obtain ⟨ve17_0, rfl, ge17_0⟩ := hM17; have hv17 := hcc17 0 _ rfl; have hX17 := HX165_0.out; (try simp only [add_plain] at hX17); (try simp only [Nat.add_zero] at hv17); (try rw [show ((Kd.slice 3 (Kd.int .i64))).sz = 1 from rfl, Nat.mul_one] at hv17); replace hv17 := Option.some.inj (hv17.symm.trans hX17); subst hv17; clear hX17 hcc17 hcl17; have UU17 := aM (show Kd.R (Kd.int .i64) 3 _ w.heap.size oki17 (.slice A165_0 (rd_L4 x5_1 0).length c165_0) (rd_L4 x5_1 0) from ge17_0); have HH17 := aM hH17; have HN17 := aM (Kd.S_reads' HO_5.out).1; clear hH17 ge17_0
      go_wp2_with (first | ((with_reducible refine gate_builtin (b := .append) (xs := #[.tmp 25, .tmp 27]) rfl ?_); at_builtin; refine Kd.R_append (Kd.int .i64) (w0 := w) w.heap.size rfl (.tmp 25) (.tmp 27) 39 3 (.int .i64 0) 8 rfl Try.underlying39 info3 rfl (by decide) (by omega) (.slice A165_0 (rd_L4 x5_1 0).length c165_0) (rd_L4 x5_1 0) x6_1 [.int .i64 x6_1] (fun k_ => oki17 k_ ∨ ((fun k_ => some k_ ≠ (v156 : Value).ownBlock)) k_ ∧ wr.heap.size ≤ k_) (fun _ => False) rfl rfl ?aP (fun _ hk => hk.elim) ?aF ?aO ?aB ?aS ?aL ?_; (case aP => exact rfl); (case aB => exact zhe_); (case aF => exact (fun k_ hk => .inr ⟨Kd.fresh' (Kd.R_lt (zr HO_3.out)) k_ hk, hk⟩)); (case aO => exact (by refine zr ?_; exact Kd.R_mono UU17.out (fun _ hk => .inl hk))); (case aS => exact zhf_); (case aL => have := LMc13.out; omega); intro v167 w18 ho hb hg hat; rw [← Ny166.out] at ho; have n_ := z (Kd.R_grown2 (zr HO_3.out) rfl hg (fun k_ e_ => (HL165_0.out.1 k_ e_).1)) <| z (blk_grown (g := gb154) (o := .cells #[.int .i64 a0_0, .slice A0_1 l0_1.length c0_1, .slice A0_2 l0_2.length c0_2] 61 (0, 0)) (zb BK154.out) hg (Kd.R_ne HL165_0.out BK154.out (by decide))) <| z (hb) <| z (Kd.H_grown (Kd.H_widen (by repeat (first | exact HH17.out | refine Kd.H_alloc ?_ _ | refine Kd.H_drewN ?_ _ | refine Kd.H_drew ?_))) hg (fun k_ e_ => .inl (UU17.out.1 k_ e_))) <| z1 (ho); clear HO_3 BK154 HB HH17 HO_5 UU17 HL165_0; obtain ⟨HO_3, BK154, HB, HH17, HO168⟩ := n_; clear ho hb hg hat; have p14 : 0 ≤ (0 : Int) := (by omega); have q14 : (0 : Int) < ((x5_1.length : Int) : Int) := of_decide_eq_true za_; replace p14 := eq_true p14; replace q14 := eq_true q14; obtain ⟨Ao21, co21, eo21⟩ := Kd.R_slice HO168.out; subst eo21; obtain ⟨_, _, hraw19, _, _, hcc19, _⟩ := Kd.H_raw HH17.out (by omega) (by have h_ : (0 : Int) < ((x5_1.length : Int) : Int) := of_decide_eq_true za_; first | exact h_ | (have e_ := (HN17.out); omega) | simpa using h_); obtain ⟨_, hfr19⟩ := Kd.H_at HH17.out (by omega) (by have h_ : (0 : Int) < ((x5_1.length : Int) : Int) := of_decide_eq_true za_; first | exact h_ | (have e_ := (HN17.out); omega) | simpa using h_); have hx19_0 := hcc19 0 _ rfl; have hf19_0 := hfr19 0; (try simp only [Nat.add_zero] at hx19_0 hf19_0); (try rw [show ((Kd.slice 3 (Kd.int .i64))).sz = 1 from rfl, Nat.mul_one] at hx19_0); (try rw [show ((Kd.slice 3 (Kd.int .i64))).sz = 1 from rfl, Nat.mul_one] at hf19_0); (try rw [show ((0 : Int)).toNat = 0 from rfl] at hx19_0); (try simp only [Nat.reduceMul, Nat.zero_mul, Nat.zero_add, Nat.reduceAdd] at hx19_0); (try rw [show ((0 : Int)).toNat = 0 from rfl] at hf19_0); (try simp only [Nat.reduceMul, Nat.zero_mul, Nat.zero_add, Nat.reduceAdd] at hf19_0); have HP19 := Kd.S_seg0 HH17.out (by omega) (by have h_ : (0 : Int) < ((x5_1.length : Int) : Int) := of_decide_eq_true za_; first | exact h_ | (have e_ := (HN17.out); omega) | simpa using h_) (seg := [.slice Ao21 y166.length co21]) (j := 0) (show 1 ≤ 1 from by decide) (x' := y166) (Kd.M_row HO168.out) (fun _ hk => hk); (try simp only [show ((Kd.slice 3 (Kd.int .i64))).sz = 1 from rfl, Nat.mul_one, Nat.add_zero] at HP19); clear hcc19 hfr19) | ((with_reducible refine gate_store (t := 39) (p := 29) rfl ?_); refine store_event (t := 39) (p := 29) (v := ?vo_w20) (w1 := (w18.setCell ⟨go17, (0 : Int).toNat, none⟩ (.slice Ao21 y166.length co21))) ?hg ?ho ?hn ?hr ?_; (case ho => rfl); (case hg => rfl); (case hn => rfl); (case hr => exact zd_); intro w20 hw; have hg : w18.grownBy w20 (some go17) := (by rw [hw]; exact HP19.2); have hp_ : Kd.S (Kd.slice 3 (Kd.int .i64)) 39 w20 w.heap.size (fun k_ => some k_ ≠ (v156 : Value).ownBlock) (.slice (some ⟨go17, 0, none⟩) x5_1.length co16) y169 := (by rw [hw, Ny169.out]; exact HP19.1); clear HP19; have n_ := z (Kd.R_over' (v := (.slice (some ⟨go17, 0, none⟩) x5_1.length co16)) (zr HO_3.out) (Kd.R_typed hraw19) (by decide) hg) <| z (blk_grown (g := gb154) (o := .cells #[.int .i64 a0_0, .slice A0_1 l0_1.length c0_1, .slice A0_2 l0_2.length c0_2] 61 (0, 0)) (zb BK154.out) hg (Kd.R_ne hraw19 BK154.out (by decide))) <| z ((by rw [hw]; exact below_set HB.out GB17.out : Below w.heap.size w w20)) <| z1 (hp_); clear HO_3 BK154 HB HO168 HH17; obtain ⟨HO_3, BK154, HB, HO_5⟩ := n_; clear hg hw hp_ hraw19))
      go_roundg k1
      case measure => have := HK1.out; omega
      case rel => exact ⟨(y169), (wrap64 (x6_1 + 1)), zc_, H', ⟨zbe_⟩, ⟨zr HO_3.out⟩, ⟨zs HO_5.out⟩, ⟨zb BK154.out⟩, ⟨zcg_⟩⟩
     ·rw [if_neg c13] at H
      exact q3n_ H
    ·rw [if_neg c12] at H
     exact q3n_ H
   ·rw [if_neg c11] at H
    have c11b0 := decide_eq_false c11; clear c11; have H' := aM H; clear H; obtain ⟨hcz22_0, hcz22_1, hcz22_2, hfz22_0, hfz22_1, hfz22_2⟩ := zk3 BK154.out; obtain ⟨Ao23, co23, eo23⟩ := Kd.R_slice HO_3.out; subst eo23
    go_wp2
    go_loopg [5, 32] k1 (fun kq v5 v32 w' => ∃ (x5_2 : List (List Int)) (x32_2 : Int), v32 = .int .i64 x32_2 ∧ Aside0 (impl_levelsOf.l1 kq x5_2 t155 (t155.length : Int) x32_2 a0_0 l0_1 l0_2 = some r) ∧ Aside0 (kq ≤ k1) ∧ Aside0 (Kd.S (Kd.slice 3 (Kd.int .i64)) 39 w' w.heap.size (fun k_ => some k_ ≠ ((.slice Ao23 t155.length co23) : Value).ownBlock) v5 x5_2) ∧ Aside0 (Kd.R (Kd.int .i64) 3 w' w.heap.size (fun _ => True) (.slice Ao23 t155.length co23) t155) ∧ Aside0 (w'.heap[gb154]? = some (.cells #[.int .i64 a0_0, (.slice A0_1 l0_1.length c0_1), (.slice A0_2 l0_2.length c0_2)] 61 (0, 0))) ∧ Aside0 (Below w.heap.size w w'))
    case atStart => exact ⟨(x5_1), (0), zc_, H', ⟨Nat.le_refl _⟩, ⟨zs HO_5.out⟩, ⟨zr HO_3.out⟩, ⟨zb BK154.out⟩, ⟨zcg_⟩⟩
    case round =>
     clear H'; (try clear c11b0); (try clear hcz22_0); (try clear hcz22_1); (try clear hcz22_2); (try clear hfz22_0); (try clear hfz22_1); (try clear hfz22_2); obtain ⟨x5_2, x32_2, rfl, HA, HK2, HO_5, HO_30, BK154, HB⟩ := hrel
     cases gk with
     | zero => exact absurd HA.out (by simp [impl_levelsOf.l1])
     | succ k2 =>
      have H := HA.out; clear HA
      simp only [impl_levelsOf.l1] at H
      by_cases c24 : x32_2 < (t155.length : Int)
      ·rw [if_pos c24] at H
       have c24b0 := decide_eq_true c24; clear c24
       by_cases c25 : 0 ≤ x32_2
       ·rw [if_pos c25] at H
        have c25b0 := decide_eq_true c25; clear c25
        by_cases c26 : x32_2 < (t155.length : Int)
        ·rw [if_pos c26] at H
         have c26b0 := decide_eq_true c26; clear c26; have H' := aM H; clear H; have p170 : 0 ≤ (x32_2 : Int) := of_decide_eq_true za_; have q170 : x32_2 < (t155.length : Int) := of_decide_eq_true za_; obtain ⟨ad170, e170, hx170_0⟩ := Kd.at_int (Kd.R_reads' HO_30.out).2.2 x32_2 p170 q170
         cases e170
         replace p170 := eq_true p170; replace q170 := eq_true q170
         go_wp2
         go_loopg [5] k2 (fun kq v5 w' => ∃ (x5_3 : List (List Int)), Aside0 (impl_levelsOf.l2 kq x5_3 x32_2 (rd t155 x32_2) t155 (t155.length : Int) x32_2 a0_0 l0_1 l0_2 = some r) ∧ Aside0 (kq ≤ k2) ∧ Aside0 (Kd.S (Kd.slice 3 (Kd.int .i64)) 39 w' w.heap.size (fun k_ => some k_ ≠ ((.slice (some ad170) t155.length co23) : Value).ownBlock) v5 x5_3) ∧ Aside0 (Kd.R (Kd.int .i64) 3 w' w.heap.size (fun _ => True) (.slice (some ad170) t155.length co23) t155) ∧ Aside0 (w'.heap[gb154]? = some (.cells #[.int .i64 a0_0, (.slice A0_1 l0_1.length c0_1), (.slice A0_2 l0_2.length c0_2)] 61 (0, 0))) ∧ Aside0 (Below w.heap.size w w'))
         case atStart => exact ⟨(x5_2), H', ⟨Nat.le_refl _⟩, ⟨zs HO_5.out⟩, ⟨zr HO_30.out⟩, ⟨zb BK154.out⟩, ⟨zcg_⟩⟩
         case round =>
          clear H'; (try clear c24b0); (try clear c25b0); (try clear c26b0); (try clear hx170_0); (try clear p170); (try clear q170); obtain ⟨x5_3, HA, HK3, HO_5, HO_30, BK154, HB⟩ := hrel
          cases gk with
          | zero => exact absurd HA.out (by simp [impl_levelsOf.l2])
          | succ k3 =>
           have H := HA.out; clear HA
           simp only [impl_levelsOf.l2] at H
           by_cases c27 : (rd t155 x32_2) ≥ (x5_3.length : Int)
           ·rw [if_pos c27] at H
            have c27b0 : decide ((x5_3.length : Int) ≤ (rd t155 x32_2)) = true := decide_eq_true c27; clear c27
            by_cases c28 : x5_3.length < 5864062014805
            ·rw [if_pos c28] at H
             have LMc28 := aM c28; clear c28; obtain ⟨y171, hy171⟩ : ∃ y_ : List (List Int), y_ = (x5_3 ++ [[]]) := ⟨_, rfl⟩; replace H : (impl_levelsOf.l2 k3 y171 x32_2 (rd t155 x32_2) t155 (t155.length : Int) x32_2 a0_0 l0_1 l0_2) = some r := q3y_ hy171 H
             have Ny171 := aM hy171; clear hy171; have H' := aM H; clear H; obtain ⟨Ao29, co29, eo29⟩ := Kd.S_slice HO_5.out; subst eo29
             go_wp2_with (first | ((with_reducible refine gate_builtin (b := .append) (xs := #[.tmp 41, .tmp 42]) rfl ?_); at_builtin; refine Kd.S_append (Kd.slice 3 (Kd.int .i64)) (w0 := w) w.heap.size rfl (.tmp 41) (.tmp 42) 63 39 (.slice none 0 0) 24 rfl Try.underlying63 info39 rfl (by decide) (by omega) (.slice Ao29 x5_3.length co29) x5_3 [] [.slice none 0 0] (fun k_ => some k_ ≠ (.slice (some ad170) t155.length co23 : Value).ownBlock) (fun _ => False) rfl rfl ?aP (fun _ hk => hk.elim) ?aF ?aO ?aB ?aS ?aL ?_; (case aP => exact ⟨_, rfl, Kd.R_nil _ _ _ _ _⟩); (case aB => exact zhe_); (case aF => exact (fun k_ hk => Kd.fresh' (Kd.R_lt (zr HO_30.out)) k_ hk)); (case aO => exact (by refine zs ?_; exact Kd.S_mono HO_5.out (fun k_ hk => ⟨hk, fun e_ => e_⟩))); (case aS => exact zhf_); (case aL => have := LMc28.out; omega); intro v172 w30 ho hb hg hat; rw [← Ny171.out] at ho; have n_ := z (Kd.R_over' (zr HO_30.out) (Kd.S_typed (zs HO_5.out)) (by decide) hg) <| z (blk_grown (g := gb154) (o := .cells #[.int .i64 a0_0, .slice A0_1 l0_1.length c0_1, .slice A0_2 l0_2.length c0_2] 61 (0, 0)) (zb BK154.out) hg (Kd.S_ne HO_5.out BK154.out (by decide))) <| z (hb) <| z1 (ho); clear HO_30 BK154 HB HO_5; obtain ⟨HO_30, BK154, HB, HO173⟩ := n_; clear ho hb hg hat))
             go_roundg k3
             case measure => have := HK1.out; have := HK2.out; have := HK3.out; omega
             case rel => exact ⟨(y171), H', ⟨zbd_⟩, ⟨zs HO173.out⟩, ⟨zr HO_30.out⟩, ⟨zb BK154.out⟩, ⟨zcg_⟩⟩
            ·rw [if_neg c28] at H
             exact q3n_ H
           ·rw [if_neg c27] at H
            have c27b0 : decide ((x5_3.length : Int) ≤ (rd t155 x32_2)) = false := decide_eq_false c27; clear c27
            by_cases c31 : 0 ≤ (rd t155 x32_2)
            ·rw [if_pos c31] at H
             have c31b0 := decide_eq_true c31; clear c31
             by_cases c32 : (rd t155 x32_2) < (x5_3.length : Int)
             ·rw [if_pos c32] at H
              have c32b0 := decide_eq_true c32; clear c32
              by_cases c33 : (rd_L4 x5_3 (rd t155 x32_2)).length < 17592186044416
              ·rw [if_pos c33] at H
               have LMc33 := aM c33; clear c33; obtain ⟨y175, hy175⟩ : ∃ y_ : List Int, y_ = ((rd_L4 x5_3 (rd t155 x32_2)) ++ [wrap64 (a0_0 + x32_2)]) := ⟨_, rfl⟩; replace H : (impl_levelsOf.l1 k3 (x5_3.set ((rd t155 x32_2) : Int).toNat y175) t155 (t155.length : Int) (wrap64 (x32_2 + 1)) a0_0 l0_1 l0_2) = some r := q3y_ hy175 H
               have Ny175 := aM hy175; clear hy175; obtain ⟨y178, hy178⟩ : ∃ y_ : List (List Int), y_ = (x5_3.set ((rd t155 x32_2) : Int).toNat y175) := ⟨_, rfl⟩; replace H : (impl_levelsOf.l1 k3 y178 t155 (t155.length : Int) (wrap64 (x32_2 + 1)) a0_0 l0_1 l0_2) = some r := q3y_ hy178 H
               have Ny178 := aM hy178; clear hy178; have H' := aM H; clear H; obtain ⟨Ao35, co35, eo35⟩ := Kd.S_slice HO_5.out; subst eo35; (try go_wp2); have n_ := z (Kd.S_drew HO_5.out) <| z (kD HO_30.out) <| z (blk_drew BK154.out) <| z1 (p1 HB.out)
               clear HO_5 HO_30 BK154 HB; obtain ⟨HO_5, HO_30, BK154, HB⟩ := n_; have p174 : 0 ≤ ((rd t155 x32_2) : Int) := of_decide_eq_true za_; have q174 : (rd t155 x32_2) < (x5_3.length : Int) := of_decide_eq_true za_; obtain ⟨ad174, A174_0, c174_0, e174, hx174_0, hl174_0, hi174_0⟩ := at_L4 (Kd.S_reads' HO_5.out).2.2 (rd t155 x32_2) p174 q174
               cases e174
               obtain ⟨ce174, hce174, hMe174, hcc174⟩ := Kd.S_get HO_5.out [] (rd t155 x32_2) p174 (by first | exact q174 | exact of_decide_eq_true za_ | (have e_ := (Kd.S_reads' HO_5.out).1; omega)); obtain ⟨ve174_0, rfl, ge174_0⟩ := hMe174; have hv174_0 := hcc174 0 _ rfl; rw [Nat.add_zero, show ((Kd.slice 3 (Kd.int .i64))).sz = 1 from rfl, Nat.mul_one] at hv174_0; replace hv174_0 := Option.some.inj (hv174_0.symm.trans hx174_0); rw [hv174_0] at ge174_0; have HL174_0 := aM (show Kd.R (Kd.int .i64) 3 _ _ _ _ (rd_L4 x5_3 (rd t155 x32_2)) from ge174_0); clear hv174_0 ge174_0; have HX174_0 := aM hx174_0; clear hcc174 hce174; have HR174_0 := aM hi174_0; have HC174_0 := aM hl174_0; clear hi174_0 hl174_0; replace p174 := eq_true p174; replace q174 := eq_true q174; obtain ⟨go37, co37, eo37, gb37, gl37, cl37, HG37⟩ := Kd.S_form HO_5.out (by have h_ : ((rd t155 x32_2) : Int) < ((x5_3.length : Int) : Int) := of_decide_eq_true za_; have h2_ : 0 ≤ ((rd t155 x32_2) : Int) := (of_decide_eq_true za_); omega); (first | cases eo37 | (injection eo37 with ea_ en_ ec_; (first | subst ea_ | (injection ea_ with ea_; subst ea_)); subst ec_; clear en_)); have GB37 := aM gb37; have GG37 := aM HG37; clear gb37 gl37 HG37; (first | simp only [add_plain] at hx174_0 | skip); obtain ⟨oki37, ce37, hcl37, hM37, hcc37, _, _, hH37⟩ := Kd.S_elem HO_5.out [] ((rd t155 x32_2) : Int) (of_decide_eq_true za_) (by have h_ : ((rd t155 x32_2) : Int) < ((x5_3.length : Int) : Int) := of_decide_eq_true za_; first | exact h_ | (have e_ := (Kd.S_reads' HO_5.out).1; omega) | simpa using h_); obtain ⟨ve37_0, rfl, ge37_0⟩ := hM37; have hv37 := hcc37 0 _ rfl; have hX37 := HX174_0.out; (try simp only [add_plain] at hX37); (try simp only [Nat.add_zero] at hv37); (try rw [show ((Kd.slice 3 (Kd.int .i64))).sz = 1 from rfl, Nat.mul_one] at hv37); replace hv37 := Option.some.inj (hv37.symm.trans hX37); subst hv37; clear hX37 hcc37 hcl37; have UU37 := aM (show Kd.R (Kd.int .i64) 3 _ w.heap.size oki37 (.slice A174_0 (rd_L4 x5_3 (rd t155 x32_2)).length c174_0) (rd_L4 x5_3 (rd t155 x32_2)) from ge37_0); have HH37 := aM hH37; have HN37 := aM (Kd.S_reads' HO_5.out).1; clear hH37 ge37_0
               refine start_ (n := 14) (S := fun w' => w'.cell? ⟨gb154, 0, none⟩ = some (.int .i64 a0_0) ∧ w'.cell? ⟨gb154, 1, none⟩ = some (.slice A0_1 l0_1.length c0_1) ∧ w'.cell? ⟨gb154, 2, none⟩ = some (.slice A0_2 l0_2.length c0_2) ∧ w'.cell? ⟨go37, ((rd t155 x32_2)).toNat, none⟩ = some (.slice A174_0 (rd_L4 x5_3 (rd t155 x32_2)).length c174_0)) (ds := [13]) #[fi,fi,fi,fi,fi,fi,fi,fi,fi,fi,fi,fi,fi,fi] (by kernel_rfl) rfl rfl ⟨(blk_cell BK154.out 0).trans rfl, (blk_cell BK154.out 1).trans rfl, (blk_cell BK154.out 2).trans rfl, hx174_0⟩ (fun hHeld => ?_); refine with_tabW impl_levelsOf.tab12 impl_levelsOf.bits12 (fun HT_ HW_ => ?_)
               generalize wr.drew = w36 at HO_5 HO_30 BK154 HB GG37 HH37 HL174_0 HR174_0 HX174_0 UU37 hx174_0 hHeld ⊢; refine py_ 0 44 HT_.out ?_; refine py_ 1 45 HT_.out ?_; refine py_ 2 46 HT_.out ?_; refine py_ 3 47 HT_.out ?_; refine py_ 4 48 HT_.out ?_; refine py_ 6 50 HT_.out ?_; refine py_ 8 52 HT_.out ?_
               refine tw4_ 5 49 HT_.out HW_.out hHeld ?_
               refine tw4_ 7 51 HT_.out HW_.out hHeld ?_
               refine py_ 9 53 HT_.out ?_
               refine one_ (i := 10) (N := some 54) #[ti,ti,ti,ti,ti,ti,ti,ti,ti,ti,ti,fi,fi,fi] rfl rfl (one_of HT_.out (by kernel_rfl)) (by decide) (fun K hK => ?_)
               refine value_ (w1 := ?_) (v := ?_) (by rfl) rfl ?_ ?_
               rotate_left 2
               ·go_simp
                constructor
                ·rfl
                ·rfl
               refine hK.out _ _ ⟨(blk_cell (blk_alloc BK154.out _) 0).trans rfl, (blk_cell (blk_alloc BK154.out _) 1).trans rfl, (blk_cell (blk_alloc BK154.out _) 2).trans rfl, (World.cell?_alloc_lt _ _ _ (World.block_lt_of_cell? _ _ (hHeld.2.2.2))).trans (hHeld.2.2.2)⟩ (fun hHeld => ?_)
               clear hK K
               refine nz_ 54 ?_
               refine one_ (i := 11) (N := some 55) #[ti,ti,ti,ti,ti,ti,ti,ti,ti,ti,ti,ti,fi,fi] rfl rfl (one_of HT_.out (by kernel_rfl)) (by decide) (fun K hK => ?_)
               refine Kd.R_append_step (Kd.int .i64) (w0 := w) w.heap.size (by rfl) (.tmp 49) (.tmp 54) 39 3 (.int .i64 0) 8 rfl Try.underlying39 info3 rfl (by decide) (by omega) (.slice A174_0 (rd_L4 x5_3 (rd t155 x32_2)).length c174_0) (rd_L4 x5_3 (rd t155 x32_2)) (wrap64 (a0_0 + x32_2)) [.int .i64 (wrap64 (a0_0 + x32_2))] (fun k_ => oki37 k_ ∨ ((fun k_ => some k_ ≠ (.slice (some ad170) t155.length co23 : Value).ownBlock)) k_ ∧ w36.heap.size ≤ k_) (fun _ => False) rfl rfl ?aP (fun _ hk => hk.elim) ?aF ?aO ?aB ?aS ?aL ?_
               (case aP => exact rfl)
               (case aB => exact zhe_)
               (case aF => exact (fun k_ hk => .inr ⟨Kd.fresh' (Kd.R_lt (zr HO_30.out)) k_ hk, hk⟩))
               (case aO => exact (by refine zr ?_; exact Kd.R_mono UU37.out (fun _ hk => .inl hk)))
               (case aS => exact zhf_)
               (case aL => have := LMc33.out; omega)
               intro v176 w38 ho hb hg hat
               (first | have HS3_ := cell_grown hg (hHeld.2.2.2) (by first | (rw [add_block]; exact (fun e_ => ((HL174_0.out.1 _ e_.symm).2) rfl)) | (show some (Addr.add _ _).block ≠ _; rw [add_block]; exact (fun e_ => ((HL174_0.out.1 _ e_.symm).2) rfl)) | exact (fun e_ => ((HL174_0.out.1 _ e_.symm).2) rfl)) | have HS3_ := cell_grown hg (cell_unalloc (hHeld.2.2.2) (by first | (rw [add_block]; exact Kd.S_lt HO_5.out _ rfl) | (show (Addr.add _ _).block < _; rw [add_block]; exact Kd.S_lt HO_5.out _ rfl) | exact Kd.S_lt HO_5.out _ rfl)) (by first | (rw [add_block]; exact (fun e_ => ((HL174_0.out.1 _ e_.symm).2) rfl)) | (show some (Addr.add _ _).block ≠ _; rw [add_block]; exact (fun e_ => ((HL174_0.out.1 _ e_.symm).2) rfl)) | exact (fun e_ => ((HL174_0.out.1 _ e_.symm).2) rfl))); rw [← Ny175.out] at ho; have n_ := z (Kd.R_grown2 (zr HO_30.out) rfl hg (fun k_ e_ => (HL174_0.out.1 k_ e_).1)) <| z (blk_grown (g := gb154) (o := .cells #[.int .i64 a0_0, .slice A0_1 l0_1.length c0_1, .slice A0_2 l0_2.length c0_2] 61 (0, 0)) (zb BK154.out) hg (Kd.R_ne HL174_0.out BK154.out (by decide))) <| z (hb) <| z (Kd.H_grown (Kd.H_widen (by repeat (first | exact HH37.out | refine Kd.H_alloc ?_ _ | refine Kd.H_drewN ?_ _ | refine Kd.H_drew ?_))) hg (fun k_ e_ => .inl (UU37.out.1 k_ e_))) <| z1 (ho)
               clear HO_30 BK154 HB HH37 HO_5 UU37 HL174_0; obtain ⟨HO_30, BK154, HB, HH37, HO177⟩ := n_; clear ho hb hg hat; have p34 : 0 ≤ ((rd t155 x32_2) : Int) := of_decide_eq_true za_; have q34 : ((rd t155 x32_2) : Int) < ((x5_3.length : Int) : Int) := of_decide_eq_true za_; replace p34 := eq_true p34; replace q34 := eq_true q34; obtain ⟨Ao41, co41, eo41⟩ := Kd.R_slice HO177.out; (first | subst eo41 | (injection eo41 with f1_ f2_ f3_; have f4_ := f1_.symm; have f5_ := f3_.symm; clear f1_ f2_ f3_; subst f4_; subst f5_)); obtain ⟨_, _, hraw39, _, _, hcc39, _⟩ := Kd.H_raw HH37.out (of_decide_eq_true za_) (by have h_ : ((rd t155 x32_2) : Int) < ((x5_3.length : Int) : Int) := of_decide_eq_true za_; first | exact h_ | (have e_ := (HN37.out); omega) | simpa using h_); obtain ⟨_, hfr39⟩ := Kd.H_at HH37.out (of_decide_eq_true za_) (by have h_ : ((rd t155 x32_2) : Int) < ((x5_3.length : Int) : Int) := of_decide_eq_true za_; first | exact h_ | (have e_ := (HN37.out); omega) | simpa using h_); have hx39_0 := hcc39 0 _ rfl; have hf39_0 := hfr39 0; (try simp only [Nat.add_zero] at hx39_0 hf39_0); (try rw [show ((Kd.slice 3 (Kd.int .i64))).sz = 1 from rfl, Nat.mul_one] at hx39_0); (try rw [show ((Kd.slice 3 (Kd.int .i64))).sz = 1 from rfl, Nat.mul_one] at hf39_0); have HP39 := Kd.S_seg0 HH37.out (of_decide_eq_true za_) (by have h_ : ((rd t155 x32_2) : Int) < ((x5_3.length : Int) : Int) := of_decide_eq_true za_; first | exact h_ | (have e_ := (HN37.out); omega) | simpa using h_) (seg := [.slice Ao41 y175.length co41]) (j := 0) (show 1 ≤ 1 from by decide) (x' := y175) (Kd.M_row HO177.out) (fun _ hk => hk); (try simp only [show ((Kd.slice 3 (Kd.int .i64))).sz = 1 from rfl, Nat.mul_one, Nat.add_zero] at HP39); clear hcc39 hfr39; have HNB154_go37 := aM (show gb154 ≠ go37 from by have h_ := Kd.R_ne hraw39 BK154.out (by decide); intro e_; exact h_ (by rw [e_]; rfl)); have HS39 := HP39.1; rw [← Ny178.out] at HS39; have HQ39 := aM HS39; obtain ⟨_, hgg39⟩ := Kd.R_typed hraw39 go37 rfl; have GG39_ := aM hgg39; clear HP39 HS39 hgg39
               refine hK.out _ _ ⟨(blk_cell BK154.out 0).trans rfl, (blk_cell BK154.out 1).trans rfl, (blk_cell BK154.out 2).trans rfl, HS3_⟩ (fun hHeld => ?_)
               clear hK K
               refine nz_ 55 ?_
               refine py_ 12 56 HT_.out ?_
               refine last_ (i := 13) (N := none) #[ti,ti,ti,ti,ti,ti,ti,ti,ti,ti,ti,ti,ti,ti] rfl rfl (one_of HT_.out (by kernel_rfl)) (by decide) (fun K hK => ?_)
               refine skip_ (w1 := ?_) (by rfl) rfl ?_ ?_
               rotate_left
               ·go_simp
                rfl
               refine hK.out _ _ ?_
               clear hK K
               refine done_ (done_of HT_.out (by kernel_rfl)) ?_
               (try go_wp2)
               go_roundg k3
               case measure => have := HK1.out; have := HK2.out; have := HK3.out; omega
               case rel => exact ⟨(y178), (wrap64 (x32_2 + 1)), zc_, H', ⟨zbd_⟩, ⟨zs HQ39.out⟩, ⟨by refine zr ?_; exact Kd.R_mono (Kd.R_far (p := ⟨go37, ((rd t155 x32_2) : Int).toNat, none⟩) (Kd.R_types HO_30.out GG39_.out (by decide)) (fun _ hk => hk.2) (.slice Ao41 y175.length co41)) (fun _ hk => trivial)⟩, ⟨by refine zb ?_; refine blk_far ?_ HNB154_go37.out _; refine zb ?_; exact BK154.out⟩, ⟨by repeat (first | (with_reducible first | exact HB.out | apply pA | apply pN | apply p1 | refine below_set ?_ GB37.out | refine below_set ?_ GE154.out) | exact HB.out)⟩⟩
              ·rw [if_neg c33] at H
               exact q3n_ H
             ·rw [if_neg c32] at H
              exact q3n_ H
            ·rw [if_neg c31] at H
             exact q3n_ H
        ·rw [if_neg c26] at H
         exact q3n_ H
       ·rw [if_neg c25] at H
        exact q3n_ H
      ·rw [if_neg c24] at H
       have c24b0 := decide_eq_false c24; clear c24; obtain rfl := Option.some.inj H
       go_wp2
       go_ret
       exact ⟨_, zh_, by refine zs ?_; exact Kd.S_mono HO_5.out (fun _ hk => trivial), zcg_⟩
def impl_LevelsOf.f (k : Nat) (a0_0 : Int) (l0_1 : List (S109)) (l0_2 : List Int) : Option ((List (List Int)) × Bool) := (impl_IsCircuit.f k a0_0 l0_1 l0_2).bind fun t180 => (if t180 = true then ((impl_levelsOf.f k a0_0 l0_1 l0_2).bind fun t181 => (some (t181, true))) else (some (([] : List (List Int)), false)))
theorem impl_LevelsOf.calls (k : Nat) (a0_0 : Int) (A0_1 : Option Addr) (c0_1 : Nat) (l0_1 : List (S109)) (A0_2 : Option Addr) (c0_2 : Nat) (l0_2 : List Int) (r1 : List (List Int)) (r2 : Bool) (w : World) (hr0_1 : Kd.C k109 w A0_1 l0_1.length l0_1) (hc0_1 : l0_1.length ≤ c0_1) (hr0_2 : Kd.C (Kd.int .i64) w A0_2 l0_2.length l0_2) (hc0_2 : l0_2.length ≤ c0_2) (h : impl_LevelsOf.f k a0_0 l0_1 l0_2 = some (r1, r2)) :
  Calls Try.prog 32 #[.agg #[.int .i64 a0_0, .slice A0_1 l0_1.length c0_1, .slice A0_2 l0_2.length c0_2]] w fun e w' => ∃ v0_ : Value, e = .returned (.tuple #[v0_, .bool r2]) ∧ Kd.S (Kd.slice 3 (Kd.int .i64)) 39 w' w.heap.size (fun _ => True) v0_ r1 ∧ Below w.heap.size w w' := by
 have hu61 := Try.underlying61
 have HR0_1 := aM hr0_1
 have HC0_1 := aM hc0_1
 clear hr0_1 hc0_1
 have HR0_2 := aM hr0_2
 have HC0_2 := aM hc0_2
 clear hr0_2 hc0_2
 have HB := aM (Below.refl w.heap.size w)
 have H : ((impl_IsCircuit.f k a0_0 l0_1 l0_2).bind fun t180 => (if t180 = true then ((impl_levelsOf.f k a0_0 l0_1 l0_2).bind fun t181 => (some (t181, true))) else (some (([] : List (List Int)), false)))) = some (r1, r2) := h
 clear h
 replace H := oB.mp H
 obtain ⟨t180, A20, H⟩ := H
 replace H : (if t180 = true then ((impl_levelsOf.f k a0_0 l0_1 l0_2).bind fun t181 => (some (t181, true))) else (some (([] : List (List Int)), false))) = some (r1, r2) := H
 have A2 := aM A20
 clear A20
 by_cases c3 : t180 = true
 ·subst c3
  have H1 : ((impl_levelsOf.f k a0_0 l0_1 l0_2).bind fun t181 => (some (t181, true))) = some (r1, r2) := by rw [if_pos rfl] at H; exact H
  clear H; have H := H1; clear H1; replace H := oB.mp H; obtain ⟨t181, A40, H⟩ := H; replace H : (some (t181, true)) = some (r1, r2) := H; have A4 := aM A40; clear A40
  simp only [Option.some.injEq, Prod.mk.injEq] at H
  obtain ⟨rfl, rfl⟩ := H
  go_enter Try.func32, Try.ntmps32
  go_wp2_with (first | ((with_reducible refine gate_dst (N := 1) rfl ?_); refine box_event ?hg (N := 1) ?hd (cs := #[.int .i64 a0_0, .slice A0_1 l0_1.length c0_1, .slice A0_2 l0_2.length c0_2]) (t := 61) ?hr ?_; (case hd => rfl); (case hg => rfl); (case hr => exact zd_); intro gb179 hg w5 hbox hb; have n_ := z (below_step zb_ hb) <| z (hbox) <| z ((by rw [hg]; exact (below_size zb_) : w.heap.size ≤ gb179)) <| z1 ((by rw [hg]; exact (below_size zb_) : w.heap.size ≤ gb179)); clear HB; obtain ⟨HB, BK179, GW179, GE179⟩ := n_; clear hb hbox hg; obtain ⟨hcz6_0, hcz6_1, hcz6_2, hfz6_0, hfz6_1, hfz6_2⟩ := zk3 BK179.out) | ((with_reducible refine gate_callee (f := 84) rfl ?_); refine goesL_ (some 5) rfl rfl Try.func84 (by kernel_rfl) rfl #[.agg #[.int .i64 a0_0, .slice A0_1 l0_1.length c0_1, .slice A0_2 l0_2.length c0_2]] rfl zf_ ?_; (with_reducible refine (impl_IsCircuit.calls k a0_0 _ _ l0_1 _ _ l0_2 true _ ?side1 ?side2 ?side3 ?side4 A2.out).mono ?_); (case side1 => exact zce_); (case side2 => exact HC0_1.out); (case side3 => exact zcf_); (case side4 => exact HC0_2.out); rintro e w7 ⟨rfl, hb⟩; refine ⟨_, rfl, ?_⟩; have n_ := z (blk_below (zb BK179.out) hb) <| z1 (below_step zee_ hb); clear BK179 HB; obtain ⟨BK179, HB⟩ := n_; clear hb; obtain ⟨hcz8_0, hcz8_1, hcz8_2, hfz8_0, hfz8_1, hfz8_2⟩ := zk3 BK179.out) | ((with_reducible refine gate_callee (f := 85) rfl ?_); refine goesL_ (some 8) rfl rfl Try.func85 (by kernel_rfl) rfl #[.agg #[.int .i64 a0_0, .slice A0_1 l0_1.length c0_1, .slice A0_2 l0_2.length c0_2]] rfl zf_ ?_; (with_reducible refine (impl_levelsOf.calls k a0_0 _ _ l0_1 _ _ l0_2 t181 _ ?side1 ?side2 ?side3 ?side4 A4.out).mono ?_); (case side1 => exact zce_); (case side2 => exact HC0_1.out); (case side3 => exact zcf_); (case side4 => exact HC0_2.out); rintro e w9 ⟨v182, rfl, ho0, hb⟩; refine ⟨_, rfl, ?_⟩; have n_ := z (Kd.S_lower ho0 (below_size zee_)) <| z (blk_below (zb BK179.out) hb) <| z1 (below_step zee_ hb); clear BK179 HB; obtain ⟨HO183, BK179, HB⟩ := n_; clear hb; (try clear ho0)))
  go_ret2
  exact ⟨_, zh_, by refine zs ?_; exact HO183.out, zee_⟩
 ·replace c3 := Bool.eq_false_iff.mpr c3
  subst c3; have H1 : (some (([] : List (List Int)), false)) = some (r1, r2) := by rw [if_neg (show ¬ (false = true) by decide)] at H; exact H
  clear H; have H := H1; clear H1
  simp only [Option.some.injEq, Prod.mk.injEq] at H
  obtain ⟨rfl, rfl⟩ := H
  go_enter Try.func32, Try.ntmps32
  go_wp2_with (first | ((with_reducible refine gate_dst (N := 1) rfl ?_); refine box_event ?hg (N := 1) ?hd (cs := #[.int .i64 a0_0, .slice A0_1 l0_1.length c0_1, .slice A0_2 l0_2.length c0_2]) (t := 61) ?hr ?_; (case hd => rfl); (case hg => rfl); (case hr => exact zd_); intro gb179 hg w10 hbox hb; have n_ := z (below_step zb_ hb) <| z (hbox) <| z ((by rw [hg]; exact (below_size zb_) : w.heap.size ≤ gb179)) <| z1 ((by rw [hg]; exact (below_size zb_) : w.heap.size ≤ gb179)); clear HB; obtain ⟨HB, BK179, GW179, GE179⟩ := n_; clear hb hbox hg; obtain ⟨hcz11_0, hcz11_1, hcz11_2, hfz11_0, hfz11_1, hfz11_2⟩ := zk3 BK179.out) | ((with_reducible refine gate_callee (f := 84) rfl ?_); refine goesL_ (some 5) rfl rfl Try.func84 (by kernel_rfl) rfl #[.agg #[.int .i64 a0_0, .slice A0_1 l0_1.length c0_1, .slice A0_2 l0_2.length c0_2]] rfl zf_ ?_; (with_reducible refine (impl_IsCircuit.calls k a0_0 _ _ l0_1 _ _ l0_2 false _ ?side1 ?side2 ?side3 ?side4 A2.out).mono ?_); (case side1 => exact zce_); (case side2 => exact HC0_1.out); (case side3 => exact zcf_); (case side4 => exact HC0_2.out); rintro e w12 ⟨rfl, hb⟩; refine ⟨_, rfl, ?_⟩; have n_ := z (blk_below (zb BK179.out) hb) <| z1 (below_step zee_ hb); clear BK179 HB; obtain ⟨BK179, HB⟩ := n_; clear hb))
  go_ret2
  exact ⟨_, zh_, zfh_, zee_⟩
def spec_l1In.f (a0 : Int) (a1 : Int) (a2 : Int) : Option (Bool) := if a0 ≥ a1 then (some (decide (a0 ≤ a2))) else (some false)
theorem spec_l1In.calls (a0 : Int) (a1 : Int) (a2 : Int) (r : Bool) (w : World) (h : spec_l1In.f a0 a1 a2 = some r) :
  Calls Try.prog 101 #[.int .i64 a0, .int .i64 a1, .int .i64 a2] w fun e w' => e = .returned (.bool r) ∧ Drawn0 w w' := by
 have H : (if a0 ≥ a1 then (some (decide (a0 ≤ a2))) else (some false)) = some r := h
 clear h
 by_cases c4 : a0 ≥ a1
 ·rw [if_pos c4] at H
  have c4b0 : decide (a1 ≤ a0) = true := decide_eq_true c4; clear c4; obtain rfl := Option.some.inj H
  go_enter Try.func101, Try.ntmps101
  go_wp2
  go_ret
  exact ⟨zc_, zg_⟩
 ·rw [if_neg c4] at H
  have c4b0 : decide (a1 ≤ a0) = false := decide_eq_false c4; clear c4; obtain rfl := Option.some.inj H
  go_enter Try.func101, Try.ntmps101
  go_wp2
  go_ret
  exact ⟨zc_, zg_⟩
def spec_ttInputs.f (a0 : Int) : Option (Bool) := (spec_l1In.f a0 0 4).bind fun t184 => (some t184)
theorem spec_ttInputs.calls (a0 : Int) (r : Bool) (w : World) (h : spec_ttInputs.f a0 = some r) :
  Calls Try.prog 100 #[.int .i64 a0] w fun e w' => e = .returned (.bool r) ∧ Drawn0 w w' := by
 have H : ((spec_l1In.f a0 0 4).bind fun t184 => (some t184)) = some r := h
 clear h
 replace H := oB.mp H
 obtain ⟨t184, A20, H⟩ := H
 replace H : (some t184) = some r := H
 have A2 := aM A20
 clear A20
 obtain rfl := Option.some.inj H
 go_enter Try.func100, Try.ntmps100
 go_wp2_with (first | ((with_reducible refine gate_callee (f := 101) rfl ?_); refine goesL_ (some 4) rfl rfl Try.func101 (by kernel_rfl) rfl #[.int .i64 a0, .int .i64 0, .int .i64 4] rfl zf_ ?_; (with_reducible refine (spec_l1In.calls a0 0 4 t184 _ A2.out).mono ?_); rintro e w' ⟨rfl, ⟨nd, rfl⟩⟩; refine ⟨_, rfl, ?_⟩))
 go_ret
 exact ⟨zc_, zg_⟩
def spec_l1All.l0 : Nat → Int → Int → List Int → Int → Int → Option (Bool)
 | 0, _, _, _, _, _ => none
 | k + 1, x1, x2, x9, x10, x11 => if x11 < x10 then (if 0 ≤ x11 then (if x11 < (x9.length : Int) then ((spec_l1In.f (rd x9 x11) x1 x2).bind fun t186 => (if t186 = true then (spec_l1All.l0 k x1 x2 x9 x10 (wrap64 (x11 + 1))) else (some false))) else (none)) else (none)) else (some true)
def spec_l1All.f (k : Nat) (l0 : List Int) (a1 : Int) (a2 : Int) : Option (Bool) := spec_l1All.l0 k a1 a2 l0 (l0.length : Int) 0
theorem spec_l1All.calls (k : Nat) (A0 : Option Addr) (c0 : Nat) (l0 : List Int) (a1 : Int) (a2 : Int) (r : Bool) (w : World) (hr0 : Kd.C (Kd.int .i64) w A0 l0.length l0) (hc0 : l0.length ≤ c0) (h : spec_l1All.f k l0 a1 a2 = some r) :
  Calls Try.prog 119 #[.slice A0 l0.length c0, .int .i64 a1, .int .i64 a2] w fun e w' => e = .returned (.bool r) ∧ Drawn0 w w' := by
 have HR0 := aM hr0
 have HC0 := aM hc0
 clear hr0 hc0
 have H : (spec_l1All.l0 k a1 a2 l0 (l0.length : Int) 0) = some r := h
 clear h
 have H' := aM H
 clear H
 go_enter Try.func119, Try.ntmps119
 go_wp2
 go_loopg [11] k (fun kq v11 w' => ∃ (x11_1 : Int), v11 = .int .i64 x11_1 ∧ Aside0 (spec_l1All.l0 kq a1 a2 l0 (l0.length : Int) x11_1 = some r) ∧ Aside0 (kq ≤ k) ∧ Drawn0 w w')
 case atStart => exact ⟨(0), zc_, H', ⟨Nat.le_refl _⟩, zg_⟩
 case round =>
  clear H'; obtain ⟨x11_1, rfl, HA, HK1, ⟨m1, rfl⟩⟩ := hrel
  cases gk with
  | zero => exact absurd HA.out (by simp [spec_l1All.l0])
  | succ k1 =>
   have H := HA.out; clear HA
   simp only [spec_l1All.l0] at H
   by_cases c4 : x11_1 < (l0.length : Int)
   ·rw [if_pos c4] at H
    have c4b0 := decide_eq_true c4; clear c4
    by_cases c5 : 0 ≤ x11_1
    ·rw [if_pos c5] at H
     have c5b0 := decide_eq_true c5; clear c5
     by_cases c6 : x11_1 < (l0.length : Int)
     ·rw [if_pos c6] at H
      have c6b0 := decide_eq_true c6; clear c6; replace H := oB.mp H; obtain ⟨t186, A70, H⟩ := H; replace H : (if t186 = true then (spec_l1All.l0 k1 a1 a2 l0 (l0.length : Int) (wrap64 (x11_1 + 1))) else (some false)) = some r := H; have A7 := aM A70; clear A70
      by_cases c8 : t186 = true
      ·subst c8
       have H1 : (spec_l1All.l0 k1 a1 a2 l0 (l0.length : Int) (wrap64 (x11_1 + 1))) = some r := by rw [if_pos rfl] at H; exact H
       clear H; have H := H1; clear H1; have H' := aM H; clear H; have p185 : 0 ≤ (x11_1 : Int) := of_decide_eq_true za_; have q185 : x11_1 < (l0.length : Int) := of_decide_eq_true za_; obtain ⟨ad185, e185, hx185_0⟩ := Kd.at_int HR0.out x11_1 p185 q185
       cases e185
       replace p185 := eq_true p185; replace q185 := eq_true q185
       go_wp2_with (first | ((with_reducible refine gate_callee (f := 101) rfl ?_); refine goesL_ (some 18) rfl rfl Try.func101 (by kernel_rfl) rfl #[.int .i64 (rd l0 x11_1), .int .i64 a1, .int .i64 a2] rfl zf_ ?_; (with_reducible refine (spec_l1In.calls (rd l0 x11_1) a1 a2 true _ A7.out).mono ?_); rintro e w' ⟨rfl, ⟨nd, rfl⟩⟩; refine ⟨_, rfl, ?_⟩))
       go_roundg k1
       case measure => have := HK1.out; omega
       case rel => exact ⟨(wrap64 (x11_1 + 1)), zc_, H', ⟨zbe_⟩, zg_⟩
      ·replace c8 := Bool.eq_false_iff.mpr c8
       subst c8; have H1 : (some false) = some r := by rw [if_neg (show ¬ (false = true) by decide)] at H; exact H
       clear H; have H := H1; clear H1; obtain rfl := Option.some.inj H; have p185 : 0 ≤ (x11_1 : Int) := of_decide_eq_true za_; have q185 : x11_1 < (l0.length : Int) := of_decide_eq_true za_; obtain ⟨ad185, e185, hx185_0⟩ := Kd.at_int HR0.out x11_1 p185 q185
       cases e185
       replace p185 := eq_true p185; replace q185 := eq_true q185
       go_wp2_with (first | ((with_reducible refine gate_callee (f := 101) rfl ?_); refine goesL_ (some 18) rfl rfl Try.func101 (by kernel_rfl) rfl #[.int .i64 (rd l0 x11_1), .int .i64 a1, .int .i64 a2] rfl zf_ ?_; (with_reducible refine (spec_l1In.calls (rd l0 x11_1) a1 a2 false _ A7.out).mono ?_); rintro e w' ⟨rfl, ⟨nd, rfl⟩⟩; refine ⟨_, rfl, ?_⟩))
       go_ret
       exact ⟨zc_, zg_⟩
     ·rw [if_neg c6] at H
      exact q3n_ H
    ·rw [if_neg c5] at H
     exact q3n_ H
   ·rw [if_neg c4] at H
    have c4b0 := decide_eq_false c4; clear c4; obtain rfl := Option.some.inj H
    go_wp2
    go_ret
    exact ⟨zc_, zg_⟩
def spec_ciGood.l0 : Nat → List (S109) → Int → Int → Int → List (S109) → List Int → Option (Bool)
 | 0, _, _, _, _, _, _ => none
 | k + 1, x7, x8, x9, x188000, x188001, x188002 => if x9 < x8 then (if 0 ≤ x9 then (if x9 < (x7.length : Int) then ((spec_l1In.f ((rd_T109 x7 x9).f0) 1 4).bind fun t193 => (if t193 = true then ((spec_l1In.f ((rd_T109 x7 x9).f1) 0 (wrap64 ((wrap64 (x188000 + x9)) - 1))).bind fun t194 => (if t194 = true then ((spec_l1In.f ((rd_T109 x7 x9).f2) 0 (wrap64 ((wrap64 (x188000 + x9)) - 1))).bind fun t195 => (if t195 = true then (if ((rd_T109 x7 x9).f0) = 4 then (if ((rd_T109 x7 x9).f2) = ((rd_T109 x7 x9).f1) then (spec_ciGood.l0 k x7 x8 (wrap64 (x9 + 1)) x188000 x188001 x188002) else (some false)) else (spec_ciGood.l0 k x7 x8 (wrap64 (x9 + 1)) x188000 x188001 x188002)) else (some false))) else (some false))) else (some false))) else (none)) else (none)) else ((spec_ttInputs.f x188000).bind fun t188 => (if t188 = true then (if (x188001.length : Int) ≤ 16 then ((spec_l1In.f (x188002.length : Int) 1 4).bind fun t189 => (if t189 = true then ((spec_l1All.f k x188002 0 (wrap64 ((wrap64 (x188000 + (x188001.length : Int))) - 1))).bind fun t190 => (some t190)) else (some false))) else (some false)) else (some false)))
def spec_ciGood.f (k : Nat) (a0_0 : Int) (l0_1 : List (S109)) (l0_2 : List Int) : Option (Bool) := spec_ciGood.l0 k l0_1 (l0_1.length : Int) 0 a0_0 l0_1 l0_2
theorem spec_ciGood.calls (k : Nat) (a0_0 : Int) (A0_1 : Option Addr) (c0_1 : Nat) (l0_1 : List (S109)) (A0_2 : Option Addr) (c0_2 : Nat) (l0_2 : List Int) (r : Bool) (w : World) (hr0_1 : Kd.C k109 w A0_1 l0_1.length l0_1) (hc0_1 : l0_1.length ≤ c0_1) (hr0_2 : Kd.C (Kd.int .i64) w A0_2 l0_2.length l0_2) (hc0_2 : l0_2.length ≤ c0_2) (h : spec_ciGood.f k a0_0 l0_1 l0_2 = some r) :
  Calls Try.prog 86 #[.agg #[.int .i64 a0_0, .slice A0_1 l0_1.length c0_1, .slice A0_2 l0_2.length c0_2]] w fun e w' => e = .returned (.bool r) ∧ Below w.heap.size w w' := by
 have hu61 := Try.underlying61
 have hu109 := Try.underlying109
 have HR0_1 := aM hr0_1
 have HC0_1 := aM hc0_1
 clear hr0_1 hc0_1
 have HR0_2 := aM hr0_2
 have HC0_2 := aM hc0_2
 clear hr0_2 hc0_2
 have HB := aM (Below.refl w.heap.size w)
 have H : (spec_ciGood.l0 k l0_1 (l0_1.length : Int) 0 a0_0 l0_1 l0_2) = some r := h
 clear h
 have H' := aM H
 clear H
 go_enter Try.func86, Try.ntmps86
 go_wp2_with (first | ((with_reducible refine gate_dst (N := 1) rfl ?_); (try (refine gate_guard (by rfl) ?_; dsimp only)); refine box_event ?hg (N := 1) ?hd (cs := #[.int .i64 a0_0, .slice A0_1 l0_1.length c0_1, .slice A0_2 l0_2.length c0_2]) (t := 61) ?hr ?_; (case hd => rfl); (case hg => rfl); (case hr => exact zd_); intro gb187 hg w2 hbox hb; have n_ := z (below_step zb_ hb) <| z (hbox) <| z ((by rw [hg]; exact (below_size zb_) : w.heap.size ≤ gb187)) <| z1 ((by rw [hg]; exact (below_size zb_) : w.heap.size ≤ gb187)); clear HB; obtain ⟨HB, BK187, GW187, GE187⟩ := n_; clear hb hbox hg; obtain ⟨hcz3_0, hcz3_1, hcz3_2, hfz3_0, hfz3_1, hfz3_2⟩ := zk3 BK187.out))
 go_loopg [9] k (fun kq v9 w' => ∃ (x9_1 : Int), v9 = .int .i64 x9_1 ∧ Aside0 (spec_ciGood.l0 kq l0_1 (l0_1.length : Int) x9_1 a0_0 l0_1 l0_2 = some r) ∧ Aside0 (kq ≤ k) ∧ Aside0 (w'.heap[gb187]? = some (.cells #[.int .i64 a0_0, (.slice A0_1 l0_1.length c0_1), (.slice A0_2 l0_2.length c0_2)] 61 (0, 0))) ∧ Aside0 (Below w.heap.size w w'))
 case atStart => exact ⟨(0), zc_, H', ⟨Nat.le_refl _⟩, ⟨zb BK187.out⟩, ⟨zba_⟩⟩
 case round =>
  clear H'; (try clear hcz3_0); (try clear hcz3_1); (try clear hcz3_2); (try clear hfz3_0); (try clear hfz3_1); (try clear hfz3_2); obtain ⟨x9_1, rfl, HA, HK1, BK187, HB⟩ := hrel
  cases gk with
  | zero => exact absurd HA.out (by simp [spec_ciGood.l0])
  | succ k1 =>
   have H := HA.out; clear HA
   simp only [spec_ciGood.l0] at H
   by_cases c4 : x9_1 < (l0_1.length : Int)
   ·rw [if_pos c4] at H
    have c4b0 := decide_eq_true c4; clear c4
    by_cases c5 : 0 ≤ x9_1
    ·rw [if_pos c5] at H
     have c5b0 := decide_eq_true c5; clear c5
     by_cases c6 : x9_1 < (l0_1.length : Int)
     ·rw [if_pos c6] at H
      have c6b0 := decide_eq_true c6; clear c6; replace H := oB.mp H; obtain ⟨t193, A70, H⟩ := H; replace H : (if t193 = true then ((spec_l1In.f ((rd_T109 l0_1 x9_1).f1) 0 (wrap64 ((wrap64 (a0_0 + x9_1)) - 1))).bind fun t194 => (if t194 = true then ((spec_l1In.f ((rd_T109 l0_1 x9_1).f2) 0 (wrap64 ((wrap64 (a0_0 + x9_1)) - 1))).bind fun t195 => (if t195 = true then (if ((rd_T109 l0_1 x9_1).f0) = 4 then (if ((rd_T109 l0_1 x9_1).f2) = ((rd_T109 l0_1 x9_1).f1) then (spec_ciGood.l0 k1 l0_1 (l0_1.length : Int) (wrap64 (x9_1 + 1)) a0_0 l0_1 l0_2) else (some false)) else (spec_ciGood.l0 k1 l0_1 (l0_1.length : Int) (wrap64 (x9_1 + 1)) a0_0 l0_1 l0_2)) else (some false))) else (some false))) else (some false)) = some r := H; have A7 := aM A70; clear A70
      by_cases c8 : t193 = true
      ·subst c8
       have H1 : ((spec_l1In.f ((rd_T109 l0_1 x9_1).f1) 0 (wrap64 ((wrap64 (a0_0 + x9_1)) - 1))).bind fun t194 => (if t194 = true then ((spec_l1In.f ((rd_T109 l0_1 x9_1).f2) 0 (wrap64 ((wrap64 (a0_0 + x9_1)) - 1))).bind fun t195 => (if t195 = true then (if ((rd_T109 l0_1 x9_1).f0) = 4 then (if ((rd_T109 l0_1 x9_1).f2) = ((rd_T109 l0_1 x9_1).f1) then (spec_ciGood.l0 k1 l0_1 (l0_1.length : Int) (wrap64 (x9_1 + 1)) a0_0 l0_1 l0_2) else (some false)) else (spec_ciGood.l0 k1 l0_1 (l0_1.length : Int) (wrap64 (x9_1 + 1)) a0_0 l0_1 l0_2)) else (some false))) else (some false))) = some r := by rw [if_pos rfl] at H; exact H
       clear H; have H := H1; clear H1; replace H := oB.mp H; obtain ⟨t194, A90, H⟩ := H; replace H : (if t194 = true then ((spec_l1In.f ((rd_T109 l0_1 x9_1).f2) 0 (wrap64 ((wrap64 (a0_0 + x9_1)) - 1))).bind fun t195 => (if t195 = true then (if ((rd_T109 l0_1 x9_1).f0) = 4 then (if ((rd_T109 l0_1 x9_1).f2) = ((rd_T109 l0_1 x9_1).f1) then (spec_ciGood.l0 k1 l0_1 (l0_1.length : Int) (wrap64 (x9_1 + 1)) a0_0 l0_1 l0_2) else (some false)) else (spec_ciGood.l0 k1 l0_1 (l0_1.length : Int) (wrap64 (x9_1 + 1)) a0_0 l0_1 l0_2)) else (some false))) else (some false)) = some r := H; have A9 := aM A90; clear A90
       by_cases c10 : t194 = true
       ·subst c10
        have H1 : ((spec_l1In.f ((rd_T109 l0_1 x9_1).f2) 0 (wrap64 ((wrap64 (a0_0 + x9_1)) - 1))).bind fun t195 => (if t195 = true then (if ((rd_T109 l0_1 x9_1).f0) = 4 then (if ((rd_T109 l0_1 x9_1).f2) = ((rd_T109 l0_1 x9_1).f1) then (spec_ciGood.l0 k1 l0_1 (l0_1.length : Int) (wrap64 (x9_1 + 1)) a0_0 l0_1 l0_2) else (some false)) else (spec_ciGood.l0 k1 l0_1 (l0_1.length : Int) (wrap64 (x9_1 + 1)) a0_0 l0_1 l0_2)) else (some false))) = some r := by rw [if_pos rfl] at H; exact H
        clear H; have H := H1; clear H1; replace H := oB.mp H; obtain ⟨t195, A110, H⟩ := H; replace H : (if t195 = true then (if ((rd_T109 l0_1 x9_1).f0) = 4 then (if ((rd_T109 l0_1 x9_1).f2) = ((rd_T109 l0_1 x9_1).f1) then (spec_ciGood.l0 k1 l0_1 (l0_1.length : Int) (wrap64 (x9_1 + 1)) a0_0 l0_1 l0_2) else (some false)) else (spec_ciGood.l0 k1 l0_1 (l0_1.length : Int) (wrap64 (x9_1 + 1)) a0_0 l0_1 l0_2)) else (some false)) = some r := H; have A11 := aM A110; clear A110
        by_cases c12 : t195 = true
        ·subst c12
         have H1 : (if ((rd_T109 l0_1 x9_1).f0) = 4 then (if ((rd_T109 l0_1 x9_1).f2) = ((rd_T109 l0_1 x9_1).f1) then (spec_ciGood.l0 k1 l0_1 (l0_1.length : Int) (wrap64 (x9_1 + 1)) a0_0 l0_1 l0_2) else (some false)) else (spec_ciGood.l0 k1 l0_1 (l0_1.length : Int) (wrap64 (x9_1 + 1)) a0_0 l0_1 l0_2)) = some r := by rw [if_pos rfl] at H; exact H
         clear H; have H := H1; clear H1
         by_cases c13 : ((rd_T109 l0_1 x9_1).f0) = 4
         ·rw [if_pos c13] at H
          have c13b0 := beq_iff_eq.mpr c13; have c13b1 := bne_eq_false_iff_eq.mpr c13; clear c13
          by_cases c14 : ((rd_T109 l0_1 x9_1).f2) = ((rd_T109 l0_1 x9_1).f1)
          ·rw [if_pos c14] at H
           have c14b0 := beq_iff_eq.mpr c14; have c14b1 := bne_eq_false_iff_eq.mpr c14; clear c14; have H' := aM H; clear H; have p191 : 0 ≤ (x9_1 : Int) := of_decide_eq_true za_; have q191 : x9_1 < (l0_1.length : Int) := of_decide_eq_true za_; obtain ⟨ad191, e191, hx191_0, hx191_1, hx191_2⟩ := at_T109 HR0_1.out x9_1 p191 q191
           cases e191
           (try (replace hx191_0 := q3h_ HB.out hx191_0)); (try (replace hx191_1 := q3h_ HB.out hx191_1)); (try (replace hx191_2 := q3h_ HB.out hx191_2)); replace p191 := eq_true p191; replace q191 := eq_true q191
           go_wp2_with (first | ((with_reducible refine gate_dst (N := 4) rfl ?_); (try (refine gate_guard (by rfl) ?_; dsimp only)); refine box_event ?hg (N := 4) ?hd (cs := #[.int .i64 0, .int .i64 0, .int .i64 0]) (t := 109) ?hr ?_; (case hd => rfl); (case hg => rfl); (case hr => exact zd_); intro gb192 hg w15 hbox hb; have n_ := z (blk_below (zb BK187.out) hb) <| z (below_step zba_ hb) <| z (hbox) <| z ((by rw [hg]; exact (below_size zba_) : w.heap.size ≤ gb192)) <| z ((by rw [hg]; exact (below_size zba_) : w.heap.size ≤ gb192)) <| z ((by rw [hg]; exact Nat.ne_of_lt (blk_lt (zb BK187.out)) : gb187 ≠ gb192)) <| z1 ((by rw [hg]; exact Nat.ne_of_gt (blk_lt (zb BK187.out)) : gb192 ≠ gb187)); clear BK187 HB; obtain ⟨BK187, HB, BK192, GW192, GE192, NB187_192, NB192_187⟩ := n_; clear hb hbox hg; have hnb16 := NB192_187.out; have hnc16 := NB187_192.out; obtain ⟨hcz17_0, hcz17_1, hcz17_2, hfz17_0, hfz17_1, hfz17_2⟩ := zk3 BK192.out; obtain ⟨hcz18_0, hcz18_1, hcz18_2, hfz18_0, hfz18_1, hfz18_2⟩ := zk3 BK187.out) | ((with_reducible refine gate_callee (f := 101) rfl ?_); refine goesL_ (some 20) rfl rfl Try.func101 (by kernel_rfl) rfl #[.int .i64 ((rd_T109 l0_1 x9_1).f0), .int .i64 1, .int .i64 4] rfl zf_ ?_; (with_reducible refine (spec_l1In.calls ((rd_T109 l0_1 x9_1).f0) 1 4 true _ A7.out).mono ?_); rintro e w' ⟨rfl, ⟨nd, rfl⟩⟩; refine ⟨_, rfl, ?_⟩) | (go_at_call 101; (with_reducible refine (spec_l1In.calls ((rd_T109 l0_1 x9_1).f1) 0 (wrap64 ((wrap64 (a0_0 + x9_1)) - 1)) true _ A9.out).mono ?_); rintro e w' ⟨rfl, ⟨nd, rfl⟩⟩) | (go_at_call 101; (with_reducible refine (spec_l1In.calls ((rd_T109 l0_1 x9_1).f2) 0 (wrap64 ((wrap64 (a0_0 + x9_1)) - 1)) true _ A11.out).mono ?_); rintro e w' ⟨rfl, ⟨nd, rfl⟩⟩))
           go_roundg k1
           case measure => have := HK1.out; omega
           case rel => exact ⟨(wrap64 (x9_1 + 1)), zc_, H', ⟨zbe_⟩, ⟨by refine zb ?_; refine blk_far ?_ NB187_192.out _; refine zb ?_; refine blk_far ?_ NB187_192.out _; refine zb ?_; refine blk_far ?_ NB187_192.out _; refine zb ?_; exact BK187.out⟩, ⟨zef_⟩⟩
          ·rw [if_neg c14] at H
           have c14b0 := beq_eq_false_iff_ne.mpr c14; have c14b1 := bne_iff_ne.mpr c14; obtain rfl := Option.some.inj H; have p191 : 0 ≤ (x9_1 : Int) := of_decide_eq_true za_; have q191 : x9_1 < (l0_1.length : Int) := of_decide_eq_true za_; obtain ⟨ad191, e191, hx191_0, hx191_1, hx191_2⟩ := at_T109 HR0_1.out x9_1 p191 q191
           cases e191
           (try (replace hx191_0 := q3h_ HB.out hx191_0)); (try (replace hx191_1 := q3h_ HB.out hx191_1)); (try (replace hx191_2 := q3h_ HB.out hx191_2)); replace p191 := eq_true p191; replace q191 := eq_true q191
           go_wp2_with (first | ((with_reducible refine gate_dst (N := 4) rfl ?_); (try (refine gate_guard (by rfl) ?_; dsimp only)); refine box_event ?hg (N := 4) ?hd (cs := #[.int .i64 0, .int .i64 0, .int .i64 0]) (t := 109) ?hr ?_; (case hd => rfl); (case hg => rfl); (case hr => exact zd_); intro gb192 hg w19 hbox hb; have n_ := z (blk_below (zb BK187.out) hb) <| z (below_step zba_ hb) <| z (hbox) <| z ((by rw [hg]; exact (below_size zba_) : w.heap.size ≤ gb192)) <| z ((by rw [hg]; exact (below_size zba_) : w.heap.size ≤ gb192)) <| z ((by rw [hg]; exact Nat.ne_of_lt (blk_lt (zb BK187.out)) : gb187 ≠ gb192)) <| z1 ((by rw [hg]; exact Nat.ne_of_gt (blk_lt (zb BK187.out)) : gb192 ≠ gb187)); clear BK187 HB; obtain ⟨BK187, HB, BK192, GW192, GE192, NB187_192, NB192_187⟩ := n_; clear hb hbox hg; have hnb20 := NB192_187.out; have hnc20 := NB187_192.out; obtain ⟨hcz21_0, hcz21_1, hcz21_2, hfz21_0, hfz21_1, hfz21_2⟩ := zk3 BK192.out; obtain ⟨hcz22_0, hcz22_1, hcz22_2, hfz22_0, hfz22_1, hfz22_2⟩ := zk3 BK187.out) | ((with_reducible refine gate_callee (f := 101) rfl ?_); refine goesL_ (some 20) rfl rfl Try.func101 (by kernel_rfl) rfl #[.int .i64 ((rd_T109 l0_1 x9_1).f0), .int .i64 1, .int .i64 4] rfl zf_ ?_; (with_reducible refine (spec_l1In.calls ((rd_T109 l0_1 x9_1).f0) 1 4 true _ A7.out).mono ?_); rintro e w' ⟨rfl, ⟨nd, rfl⟩⟩; refine ⟨_, rfl, ?_⟩) | (go_at_call 101; (with_reducible refine (spec_l1In.calls ((rd_T109 l0_1 x9_1).f1) 0 (wrap64 ((wrap64 (a0_0 + x9_1)) - 1)) true _ A9.out).mono ?_); rintro e w' ⟨rfl, ⟨nd, rfl⟩⟩) | (go_at_call 101; (with_reducible refine (spec_l1In.calls ((rd_T109 l0_1 x9_1).f2) 0 (wrap64 ((wrap64 (a0_0 + x9_1)) - 1)) true _ A11.out).mono ?_); rintro e w' ⟨rfl, ⟨nd, rfl⟩⟩))
           go_ret
           exact ⟨zh_, zef_⟩
         ·rw [if_neg c13] at H
          have c13b0 := beq_eq_false_iff_ne.mpr c13; have c13b1 := bne_iff_ne.mpr c13; have H' := aM H; clear H; have p191 : 0 ≤ (x9_1 : Int) := of_decide_eq_true za_; have q191 : x9_1 < (l0_1.length : Int) := of_decide_eq_true za_; obtain ⟨ad191, e191, hx191_0, hx191_1, hx191_2⟩ := at_T109 HR0_1.out x9_1 p191 q191
          cases e191
          (try (replace hx191_0 := q3h_ HB.out hx191_0)); (try (replace hx191_1 := q3h_ HB.out hx191_1)); (try (replace hx191_2 := q3h_ HB.out hx191_2)); replace p191 := eq_true p191; replace q191 := eq_true q191
          go_wp2_with (first | ((with_reducible refine gate_dst (N := 4) rfl ?_); (try (refine gate_guard (by rfl) ?_; dsimp only)); refine box_event ?hg (N := 4) ?hd (cs := #[.int .i64 0, .int .i64 0, .int .i64 0]) (t := 109) ?hr ?_; (case hd => rfl); (case hg => rfl); (case hr => exact zd_); intro gb192 hg w23 hbox hb; have n_ := z (blk_below (zb BK187.out) hb) <| z (below_step zba_ hb) <| z (hbox) <| z ((by rw [hg]; exact (below_size zba_) : w.heap.size ≤ gb192)) <| z ((by rw [hg]; exact (below_size zba_) : w.heap.size ≤ gb192)) <| z ((by rw [hg]; exact Nat.ne_of_lt (blk_lt (zb BK187.out)) : gb187 ≠ gb192)) <| z1 ((by rw [hg]; exact Nat.ne_of_gt (blk_lt (zb BK187.out)) : gb192 ≠ gb187)); clear BK187 HB; obtain ⟨BK187, HB, BK192, GW192, GE192, NB187_192, NB192_187⟩ := n_; clear hb hbox hg; have hnb24 := NB192_187.out; have hnc24 := NB187_192.out; obtain ⟨hcz25_0, hcz25_1, hcz25_2, hfz25_0, hfz25_1, hfz25_2⟩ := zk3 BK192.out; obtain ⟨hcz26_0, hcz26_1, hcz26_2, hfz26_0, hfz26_1, hfz26_2⟩ := zk3 BK187.out) | ((with_reducible refine gate_callee (f := 101) rfl ?_); refine goesL_ (some 20) rfl rfl Try.func101 (by kernel_rfl) rfl #[.int .i64 ((rd_T109 l0_1 x9_1).f0), .int .i64 1, .int .i64 4] rfl zf_ ?_; (with_reducible refine (spec_l1In.calls ((rd_T109 l0_1 x9_1).f0) 1 4 true _ A7.out).mono ?_); rintro e w' ⟨rfl, ⟨nd, rfl⟩⟩; refine ⟨_, rfl, ?_⟩) | (go_at_call 101; (with_reducible refine (spec_l1In.calls ((rd_T109 l0_1 x9_1).f1) 0 (wrap64 ((wrap64 (a0_0 + x9_1)) - 1)) true _ A9.out).mono ?_); rintro e w' ⟨rfl, ⟨nd, rfl⟩⟩) | (go_at_call 101; (with_reducible refine (spec_l1In.calls ((rd_T109 l0_1 x9_1).f2) 0 (wrap64 ((wrap64 (a0_0 + x9_1)) - 1)) true _ A11.out).mono ?_); rintro e w' ⟨rfl, ⟨nd, rfl⟩⟩))
          go_roundg k1
          case measure => have := HK1.out; omega
          case rel => exact ⟨(wrap64 (x9_1 + 1)), zc_, H', ⟨zbe_⟩, ⟨by refine zb ?_; refine blk_far ?_ NB187_192.out _; refine zb ?_; refine blk_far ?_ NB187_192.out _; refine zb ?_; refine blk_far ?_ NB187_192.out _; refine zb ?_; exact BK187.out⟩, ⟨zef_⟩⟩
        ·replace c12 := Bool.eq_false_iff.mpr c12
         subst c12; have H1 : (some false) = some r := by rw [if_neg (show ¬ (false = true) by decide)] at H; exact H
         clear H; have H := H1; clear H1; obtain rfl := Option.some.inj H; have p191 : 0 ≤ (x9_1 : Int) := of_decide_eq_true za_; have q191 : x9_1 < (l0_1.length : Int) := of_decide_eq_true za_; obtain ⟨ad191, e191, hx191_0, hx191_1, hx191_2⟩ := at_T109 HR0_1.out x9_1 p191 q191
         cases e191
         (try (replace hx191_0 := q3h_ HB.out hx191_0)); (try (replace hx191_1 := q3h_ HB.out hx191_1)); (try (replace hx191_2 := q3h_ HB.out hx191_2)); replace p191 := eq_true p191; replace q191 := eq_true q191
         go_wp2_with (first | ((with_reducible refine gate_dst (N := 4) rfl ?_); (try (refine gate_guard (by rfl) ?_; dsimp only)); refine box_event ?hg (N := 4) ?hd (cs := #[.int .i64 0, .int .i64 0, .int .i64 0]) (t := 109) ?hr ?_; (case hd => rfl); (case hg => rfl); (case hr => exact zd_); intro gb192 hg w27 hbox hb; have n_ := z (blk_below (zb BK187.out) hb) <| z (below_step zba_ hb) <| z (hbox) <| z ((by rw [hg]; exact (below_size zba_) : w.heap.size ≤ gb192)) <| z ((by rw [hg]; exact (below_size zba_) : w.heap.size ≤ gb192)) <| z ((by rw [hg]; exact Nat.ne_of_lt (blk_lt (zb BK187.out)) : gb187 ≠ gb192)) <| z1 ((by rw [hg]; exact Nat.ne_of_gt (blk_lt (zb BK187.out)) : gb192 ≠ gb187)); clear BK187 HB; obtain ⟨BK187, HB, BK192, GW192, GE192, NB187_192, NB192_187⟩ := n_; clear hb hbox hg; have hnb28 := NB192_187.out; have hnc28 := NB187_192.out; obtain ⟨hcz29_0, hcz29_1, hcz29_2, hfz29_0, hfz29_1, hfz29_2⟩ := zk3 BK192.out; obtain ⟨hcz30_0, hcz30_1, hcz30_2, hfz30_0, hfz30_1, hfz30_2⟩ := zk3 BK187.out) | ((with_reducible refine gate_callee (f := 101) rfl ?_); refine goesL_ (some 20) rfl rfl Try.func101 (by kernel_rfl) rfl #[.int .i64 ((rd_T109 l0_1 x9_1).f0), .int .i64 1, .int .i64 4] rfl zf_ ?_; (with_reducible refine (spec_l1In.calls ((rd_T109 l0_1 x9_1).f0) 1 4 true _ A7.out).mono ?_); rintro e w' ⟨rfl, ⟨nd, rfl⟩⟩; refine ⟨_, rfl, ?_⟩) | (go_at_call 101; (with_reducible refine (spec_l1In.calls ((rd_T109 l0_1 x9_1).f1) 0 (wrap64 ((wrap64 (a0_0 + x9_1)) - 1)) true _ A9.out).mono ?_); rintro e w' ⟨rfl, ⟨nd, rfl⟩⟩) | (go_at_call 101; (with_reducible refine (spec_l1In.calls ((rd_T109 l0_1 x9_1).f2) 0 (wrap64 ((wrap64 (a0_0 + x9_1)) - 1)) false _ A11.out).mono ?_); rintro e w' ⟨rfl, ⟨nd, rfl⟩⟩))
         go_ret
         exact ⟨zh_, zef_⟩
       ·replace c10 := Bool.eq_false_iff.mpr c10
        subst c10; have H1 : (some false) = some r := by rw [if_neg (show ¬ (false = true) by decide)] at H; exact H
        clear H; have H := H1; clear H1; obtain rfl := Option.some.inj H; have p191 : 0 ≤ (x9_1 : Int) := of_decide_eq_true za_; have q191 : x9_1 < (l0_1.length : Int) := of_decide_eq_true za_; obtain ⟨ad191, e191, hx191_0, hx191_1, hx191_2⟩ := at_T109 HR0_1.out x9_1 p191 q191
        cases e191
        (try (replace hx191_0 := q3h_ HB.out hx191_0)); (try (replace hx191_1 := q3h_ HB.out hx191_1)); (try (replace hx191_2 := q3h_ HB.out hx191_2)); replace p191 := eq_true p191; replace q191 := eq_true q191
        go_wp2_with (first | ((with_reducible refine gate_dst (N := 4) rfl ?_); (try (refine gate_guard (by rfl) ?_; dsimp only)); refine box_event ?hg (N := 4) ?hd (cs := #[.int .i64 0, .int .i64 0, .int .i64 0]) (t := 109) ?hr ?_; (case hd => rfl); (case hg => rfl); (case hr => exact zd_); intro gb192 hg w31 hbox hb; have n_ := z (blk_below (zb BK187.out) hb) <| z (below_step zba_ hb) <| z (hbox) <| z ((by rw [hg]; exact (below_size zba_) : w.heap.size ≤ gb192)) <| z ((by rw [hg]; exact (below_size zba_) : w.heap.size ≤ gb192)) <| z ((by rw [hg]; exact Nat.ne_of_lt (blk_lt (zb BK187.out)) : gb187 ≠ gb192)) <| z1 ((by rw [hg]; exact Nat.ne_of_gt (blk_lt (zb BK187.out)) : gb192 ≠ gb187)); clear BK187 HB; obtain ⟨BK187, HB, BK192, GW192, GE192, NB187_192, NB192_187⟩ := n_; clear hb hbox hg; have hnb32 := NB192_187.out; have hnc32 := NB187_192.out; obtain ⟨hcz33_0, hcz33_1, hcz33_2, hfz33_0, hfz33_1, hfz33_2⟩ := zk3 BK192.out; obtain ⟨hcz34_0, hcz34_1, hcz34_2, hfz34_0, hfz34_1, hfz34_2⟩ := zk3 BK187.out) | ((with_reducible refine gate_callee (f := 101) rfl ?_); refine goesL_ (some 20) rfl rfl Try.func101 (by kernel_rfl) rfl #[.int .i64 ((rd_T109 l0_1 x9_1).f0), .int .i64 1, .int .i64 4] rfl zf_ ?_; (with_reducible refine (spec_l1In.calls ((rd_T109 l0_1 x9_1).f0) 1 4 true _ A7.out).mono ?_); rintro e w' ⟨rfl, ⟨nd, rfl⟩⟩; refine ⟨_, rfl, ?_⟩) | (go_at_call 101; (with_reducible refine (spec_l1In.calls ((rd_T109 l0_1 x9_1).f1) 0 (wrap64 ((wrap64 (a0_0 + x9_1)) - 1)) false _ A9.out).mono ?_); rintro e w' ⟨rfl, ⟨nd, rfl⟩⟩))
        go_ret
        exact ⟨zh_, zef_⟩
      ·replace c8 := Bool.eq_false_iff.mpr c8
       subst c8; have H1 : (some false) = some r := by rw [if_neg (show ¬ (false = true) by decide)] at H; exact H
       clear H; have H := H1; clear H1; obtain rfl := Option.some.inj H; have p191 : 0 ≤ (x9_1 : Int) := of_decide_eq_true za_; have q191 : x9_1 < (l0_1.length : Int) := of_decide_eq_true za_; obtain ⟨ad191, e191, hx191_0, hx191_1, hx191_2⟩ := at_T109 HR0_1.out x9_1 p191 q191
       cases e191
       (try (replace hx191_0 := q3h_ HB.out hx191_0)); (try (replace hx191_1 := q3h_ HB.out hx191_1)); (try (replace hx191_2 := q3h_ HB.out hx191_2)); replace p191 := eq_true p191; replace q191 := eq_true q191
       go_wp2_with (first | ((with_reducible refine gate_dst (N := 4) rfl ?_); (try (refine gate_guard (by rfl) ?_; dsimp only)); refine box_event ?hg (N := 4) ?hd (cs := #[.int .i64 0, .int .i64 0, .int .i64 0]) (t := 109) ?hr ?_; (case hd => rfl); (case hg => rfl); (case hr => exact zd_); intro gb192 hg w35 hbox hb; have n_ := z (blk_below (zb BK187.out) hb) <| z (below_step zba_ hb) <| z (hbox) <| z ((by rw [hg]; exact (below_size zba_) : w.heap.size ≤ gb192)) <| z ((by rw [hg]; exact (below_size zba_) : w.heap.size ≤ gb192)) <| z ((by rw [hg]; exact Nat.ne_of_lt (blk_lt (zb BK187.out)) : gb187 ≠ gb192)) <| z1 ((by rw [hg]; exact Nat.ne_of_gt (blk_lt (zb BK187.out)) : gb192 ≠ gb187)); clear BK187 HB; obtain ⟨BK187, HB, BK192, GW192, GE192, NB187_192, NB192_187⟩ := n_; clear hb hbox hg; have hnb36 := NB192_187.out; have hnc36 := NB187_192.out; obtain ⟨hcz37_0, hcz37_1, hcz37_2, hfz37_0, hfz37_1, hfz37_2⟩ := zk3 BK192.out; obtain ⟨hcz38_0, hcz38_1, hcz38_2, hfz38_0, hfz38_1, hfz38_2⟩ := zk3 BK187.out) | ((with_reducible refine gate_callee (f := 101) rfl ?_); refine goesL_ (some 20) rfl rfl Try.func101 (by kernel_rfl) rfl #[.int .i64 ((rd_T109 l0_1 x9_1).f0), .int .i64 1, .int .i64 4] rfl zf_ ?_; (with_reducible refine (spec_l1In.calls ((rd_T109 l0_1 x9_1).f0) 1 4 false _ A7.out).mono ?_); rintro e w' ⟨rfl, ⟨nd, rfl⟩⟩; refine ⟨_, rfl, ?_⟩))
       go_ret
       exact ⟨zh_, zef_⟩
     ·rw [if_neg c6] at H
      exact q3n_ H
    ·rw [if_neg c5] at H
     exact q3n_ H
   ·rw [if_neg c4] at H
    have c4b0 := decide_eq_false c4; clear c4; replace H := oB.mp H; obtain ⟨t188, A390, H⟩ := H; replace H : (if t188 = true then (if (l0_1.length : Int) ≤ 16 then ((spec_l1In.f (l0_2.length : Int) 1 4).bind fun t189 => (if t189 = true then ((spec_l1All.f k1 l0_2 0 (wrap64 ((wrap64 (a0_0 + (l0_1.length : Int))) - 1))).bind fun t190 => (some t190)) else (some false))) else (some false)) else (some false)) = some r := H; have A39 := aM A390; clear A390
    by_cases c40 : t188 = true
    ·subst c40
     have H1 : (if (l0_1.length : Int) ≤ 16 then ((spec_l1In.f (l0_2.length : Int) 1 4).bind fun t189 => (if t189 = true then ((spec_l1All.f k1 l0_2 0 (wrap64 ((wrap64 (a0_0 + (l0_1.length : Int))) - 1))).bind fun t190 => (some t190)) else (some false))) else (some false)) = some r := by rw [if_pos rfl] at H; exact H
     clear H; have H := H1; clear H1
     by_cases c41 : (l0_1.length : Int) ≤ 16
     ·rw [if_pos c41] at H
      have c41b0 := decide_eq_true c41; have c41b1 : decide (l0_1.length ≤ 16) = true := decide_eq_true (by omega); clear c41; replace H := oB.mp H; obtain ⟨t189, A420, H⟩ := H; replace H : (if t189 = true then ((spec_l1All.f k1 l0_2 0 (wrap64 ((wrap64 (a0_0 + (l0_1.length : Int))) - 1))).bind fun t190 => (some t190)) else (some false)) = some r := H; have A42 := aM A420; clear A420
      by_cases c43 : t189 = true
      ·subst c43
       have H1 : ((spec_l1All.f k1 l0_2 0 (wrap64 ((wrap64 (a0_0 + (l0_1.length : Int))) - 1))).bind fun t190 => (some t190)) = some r := by rw [if_pos rfl] at H; exact H
       clear H; have H := H1; clear H1; replace H := oB.mp H; obtain ⟨t190, A440, H⟩ := H; replace H : (some t190) = some r := H; have A44 := aM A440; clear A440; obtain rfl := Option.some.inj H; obtain ⟨hcz45_0, hcz45_1, hcz45_2, hfz45_0, hfz45_1, hfz45_2⟩ := zk3 BK187.out
       go_wp2_with (first | ((with_reducible refine gate_callee (f := 100) rfl ?_); refine goesL_ (some 53) rfl rfl Try.func100 (by kernel_rfl) rfl #[.int .i64 a0_0] rfl zf_ ?_; (with_reducible refine (spec_ttInputs.calls a0_0 true _ A39.out).mono ?_); rintro e w' ⟨rfl, ⟨nd, rfl⟩⟩; refine ⟨_, rfl, ?_⟩) | (go_at_call 101; (with_reducible refine (spec_l1In.calls (l0_2.length : Int) 1 4 true _ A42.out).mono ?_); rintro e w' ⟨rfl, ⟨nd, rfl⟩⟩) | (go_at_call 119; (with_reducible refine (spec_l1All.calls k1 _ _ l0_2 0 (wrap64 ((wrap64 (a0_0 + (l0_1.length : Int))) - 1)) t190 _ ?side1 ?side2 A44.out).mono ?_); (case side1 => repeat (first | exact (Kd.C_below HR0_2.out zba_) | (with_reducible refine cA ?_ _) | (with_reducible refine cN ?_ _) | (with_reducible refine cD ?_))); (case side2 => exact HC0_2.out); rintro e w' ⟨rfl, ⟨nd, rfl⟩⟩))
       go_ret
       exact ⟨zh_, zba_⟩
      ·replace c43 := Bool.eq_false_iff.mpr c43
       subst c43; have H1 : (some false) = some r := by rw [if_neg (show ¬ (false = true) by decide)] at H; exact H
       clear H; have H := H1; clear H1; obtain rfl := Option.some.inj H; obtain ⟨hcz46_0, hcz46_1, hcz46_2, hfz46_0, hfz46_1, hfz46_2⟩ := zk3 BK187.out
       go_wp2_with (first | ((with_reducible refine gate_callee (f := 100) rfl ?_); refine goesL_ (some 53) rfl rfl Try.func100 (by kernel_rfl) rfl #[.int .i64 a0_0] rfl zf_ ?_; (with_reducible refine (spec_ttInputs.calls a0_0 true _ A39.out).mono ?_); rintro e w' ⟨rfl, ⟨nd, rfl⟩⟩; refine ⟨_, rfl, ?_⟩) | (go_at_call 101; (with_reducible refine (spec_l1In.calls (l0_2.length : Int) 1 4 false _ A42.out).mono ?_); rintro e w' ⟨rfl, ⟨nd, rfl⟩⟩))
       go_ret
       exact ⟨zh_, zba_⟩
     ·rw [if_neg c41] at H
      have c41b0 := decide_eq_false c41; have c41b1 : decide (l0_1.length ≤ 16) = false := decide_eq_false (by omega); clear c41; obtain rfl := Option.some.inj H; obtain ⟨hcz47_0, hcz47_1, hcz47_2, hfz47_0, hfz47_1, hfz47_2⟩ := zk3 BK187.out
      go_wp2_with (first | ((with_reducible refine gate_callee (f := 100) rfl ?_); refine goesL_ (some 53) rfl rfl Try.func100 (by kernel_rfl) rfl #[.int .i64 a0_0] rfl zf_ ?_; (with_reducible refine (spec_ttInputs.calls a0_0 true _ A39.out).mono ?_); rintro e w' ⟨rfl, ⟨nd, rfl⟩⟩; refine ⟨_, rfl, ?_⟩))
      go_ret
      exact ⟨zh_, zba_⟩
    ·replace c40 := Bool.eq_false_iff.mpr c40
     subst c40; have H1 : (some false) = some r := by rw [if_neg (show ¬ (false = true) by decide)] at H; exact H
     clear H; have H := H1; clear H1; obtain rfl := Option.some.inj H; obtain ⟨hcz48_0, hcz48_1, hcz48_2, hfz48_0, hfz48_1, hfz48_2⟩ := zk3 BK187.out
     go_wp2_with (first | ((with_reducible refine gate_callee (f := 100) rfl ?_); refine goesL_ (some 53) rfl rfl Try.func100 (by kernel_rfl) rfl #[.int .i64 a0_0] rfl zf_ ?_; (with_reducible refine (spec_ttInputs.calls a0_0 false _ A39.out).mono ?_); rintro e w' ⟨rfl, ⟨nd, rfl⟩⟩; refine ⟨_, rfl, ?_⟩))
     go_ret
     exact ⟨zh_, zba_⟩
def spec_l1Most.f (a0 : Int) (a1 : Int) : Option (Int) := if a0 > a1 then (some a0) else (some a1)
theorem spec_l1Most.calls (a0 : Int) (a1 : Int) (r : Int) (w : World) (h : spec_l1Most.f a0 a1 = some r) :
  Calls Try.prog 63 #[.int .i64 a0, .int .i64 a1] w fun e w' => e = .returned (.int .i64 r) ∧ Drawn0 w w' := by
 have H : (if a0 > a1 then (some a0) else (some a1)) = some r := h
 clear h
 by_cases c3 : a0 > a1
 ·rw [if_pos c3] at H
  have c3b0 : decide (a1 < a0) = true := decide_eq_true c3; clear c3; obtain rfl := Option.some.inj H
  go_enter Try.func63, Try.ntmps63
  go_wp2
  go_ret
  exact ⟨zc_, zg_⟩
 ·rw [if_neg c3] at H
  have c3b0 : decide (a1 < a0) = false := decide_eq_false c3; clear c3; obtain rfl := Option.some.inj H
  go_enter Try.func63, Try.ntmps63
  go_wp2
  go_ret
  exact ⟨zc_, zg_⟩
end Go.Proofs.Ytlnhpkjioppbiaa.QFnLevels
