/- Functions of FnLevels, each as a Lean function, with the proof that the Go code comes to its answers. -/
import Derived.Test.YtlnhpkjioppbiaaSFnLevelsx1
import Derived.Test.YtlnhpkjioppbiaaSFnLevelsx2
namespace Go.Proofs.Ytlnhpkjioppbiaa.QFnLevels
open Go.RowKit Go.Proofs.YtlnhpkjioppbiaaW.PrintWords Go.Proofs.YtlnhpkjioppbiaaW.PrintLast Go.Proofs.YtlnhpkjioppbiaaW.PrintMore
open Go.Proofs.YtlnhpkjioppbiaaW.PrintWords renaming pw_below_drewN → pN, below_drew1 → p1, below_alloc → pA
open Go.Proofs.YtlnhpkjioppbiaaW.PrintWords.Kd renaming R_alloc → kA, R_drewN → kN, R_drew → kD, Q_alloc → qA, Q_drewN → qN, Q_drew → qD, C_alloc → cA, C_drewN → cN, C_drew → cD
open Go.Proofs.YtlnhpkjioppbiaaW.PrintWords.Aside0 renaming mk → aM
open List renaming setIfInBounds_toArray → sI, set_cons_zero → s0, set_cons_succ → sS, map_toArray → mT, length_take → lT, length_drop → lD, map_cons → mC, map_nil → mN
open Option renaming bind_eq_some_iff → oB
attribute [local go_sem] max2_int min2_int max_two min_two max_three min_three max_four min_four
set_option maxHeartbeats 8000000
set_option maxRecDepth 100000
set_option linter.unusedVariables false
set_option linter.unusedSimpArgs false
def anG (code : List Int) (inp n : Int) (l : List S109) (a m : Int) : Option (List S109 × Int × Int) :=
 if 0 < n then ((spec_l1Cur_pick.f code a m n).bind fun q => if 0 ≤ q.1 ∧ q.1 < n then ((spec_l1Cur_pick.f code q.2.1 q.2.2 30).bind fun sw =>
  if sw.1 = 0 then ((spec_l1Cur_among.f code sw.2.1 sw.2.2 [0, 4, 5]).bind fun z => some (l.set q.1.toNat ⟨z.1, (rd_T109 l q.1).f1, (rd_T109 l q.1).f2⟩, z.2.1, z.2.2))
  else (if sw.1 = 1 then ((spec_l1Cur_among.f code sw.2.1 sw.2.2 [-1, wrap64 (inp + n)]).bind fun z => some (l.set q.1.toNat ⟨(rd_T109 l q.1).f0, z.1, (rd_T109 l q.1).f2⟩, z.2.1, z.2.2))
  else (if sw.1 = 2 then ((spec_l1Cur_among.f code sw.2.1 sw.2.2 [-1, wrap64 (wrap64 (inp + n) - 1)]).bind fun z => some (l.set q.1.toNat ⟨(rd_T109 l q.1).f0, (rd_T109 l q.1).f1, z.1⟩, z.2.1, z.2.2))
  else some (l, sw.2.1, sw.2.2)))) else none) else some (l, a, m)
def anE (code : List Int) (inp : Int) (l : List S109) (lo : List Int) (a m : Int) : Option (Int × List S109 × List Int × Int × Int) :=
 (spec_l1Cur_pick.f code a m 30).bind fun sw =>
  if sw.1 = 0 then ((spec_l1Cur_among.f code sw.2.1 sw.2.2 [-1, 0, 5]).bind fun z => some (z.1, l, lo, z.2.1, z.2.2))
  else (if sw.1 = 1 then some (inp, l, [], sw.2.1, sw.2.2)
  else (if sw.1 = 2 then ((spec_l1Cur_pick.f code sw.2.1 sw.2.2 2).bind fun z => if wrap64 (4 + z.1) ≤ 1000 ∧ lo.length ≤ 1000 then some (inp, l, lo ++ List.replicate ((wrap64 (4 + z.1)).toNat - lo.length) 0, z.2.1, z.2.2) else none)
  else (if sw.1 = 3 then (if 0 < lo.length then ((spec_l1Cur_among.f code sw.2.1 sw.2.2 [-1, wrap64 (inp + (l.length : Int))]).bind fun z => some (inp, l, lo.set 0 z.1, z.2.1, z.2.2)) else none)
  else (if sw.1 = 4 then ((spec_l1Cur_pick.f code sw.2.1 sw.2.2 2).bind fun z => if wrap64 (16 + z.1) ≤ 1000 ∧ l.length ≤ 1000 then some (inp, l ++ List.replicate ((wrap64 (16 + z.1)).toNat - l.length) (⟨4, 0, 0⟩ : S109), lo, z.2.1, z.2.2) else none)
  else some (inp, l, lo, sw.2.1, sw.2.2)))))
def spec_l1Cur_anyCircuit.f (s0_0 : List Int) (s0_1 : Int) (s0_2 : Int) : Option (Int × List S109 × List Int × Int × Int) :=
 (spec_l1Cur_circuit.f s0_0 s0_1 s0_2).bind fun c => (anG s0_0 c.1 (c.2.1.length : Int) c.2.1 c.2.2.2.1 c.2.2.2.2).bind fun g => anE s0_0 c.1 g.1 c.2.2.1 g.2.1 g.2.2
open Go.Proofs.Ytlnhpkjioppbiaa.Sep in
set_option maxHeartbeats 32000000 in
set_option maxRecDepth 100000 in
theorem spec_l1Cur_anyCircuit.calls (g : Nat) (s0_0 : List Int) (s0_1 : Int) (s0_2 : Int) (r1 : Int) (r2 : List S109) (r3 : List Int) (r4 : Int) (r5 : Int) (w0 w : World) (hI : IsS86 w0 w g s0_0 s0_1 s0_2) (hB : Below w0.heap.size w0 w) (h : spec_l1Cur_anyCircuit.f s0_0 s0_1 s0_2 = some (r1, r2, r3, r4, r5)) :
  Calls Try.prog 83 #[.pointer (some ⟨g, 0, none⟩)] w fun e w' => ∃ v1_ v2_ : Value, e = .returned (.agg #[.int .i64 r1, v1_, v2_]) ∧ Kd.R k109 109 w' w.heap.size (fun _ => True) v1_ r2 ∧ Kd.R (Kd.int .i64) 3 w' w.heap.size (fun _ => True) v2_ r3 ∧ IsS86 w0 w' g s0_0 r4 r5 ∧ Below w0.heap.size w0 w' ∧ KeepBut w w' g none := by
 obtain ⟨A0, c0, hbx, hge, hC⟩ := hI
 have HG := aM (blk_lt hbx)
 have HGE := aM hge
 obtain ⟨vS_0, hS, ho⟩ : ∃ vS : Value, (∃ A c, vS = .slice A s0_0.length c ∧ Kd.C (Kd.int .u8) w0 A s0_0.length s0_0) ∧ Own w0 w [Sep.Item.box g 86 #[vS, .int .i64 s0_1, .int .u64 s0_2], Sep.Item.kept w g] := ⟨_, ⟨A0, c0, rfl, hC⟩, Sep.own_start hB hge hbx⟩
 have HS_0 := aM hS
 have HO := aM ho
 have HBW := aM hB
 clear hS ho hB hbx hge hC
 unfold spec_l1Cur_anyCircuit.f at h
 obtain ⟨⟨inp, l9, o9, a9, m9⟩, e9, h_⟩ := oB.mp h
 clear h
 have h := h_
 clear h_
 have HP9 := aM e9
 clear e9
 dsimp only at h
 obtain ⟨⟨q200, a200, m200⟩, e200, h_⟩ := oB.mp h
 clear h
 have h := h_
 clear h_
 have HP200 := aM e200
 clear e200
 dsimp only at h
 have HE := aM h
 clear h
 go_enter Try.func83, Try.ntmps83
 go_upto_if 14 with (first | ((with_reducible refine gate_dst (N := 2) rfl ?_); refine box_event ?hg (N := 2) ?hd (cs := #[.int .i64 0, .slice none 0 0, .slice none 0 0]) (t := 61) ?hr ?_; (case hd => rfl); (case hg => rfl); (case hr => exact zd_); intro g2 hg w_1 hbox hb; have HO_1 := aM (HO.out.add_box (T := 61) (cs := #[.int .i64 0, .slice none 0 0, .slice none 0 0]) hg hbox hb); clear hg hbox hb) | ((with_reducible refine gate_callee (f := 121) rfl ?_); refine goesL_ (some 9) rfl rfl Try.func121 (by kernel_rfl) rfl #[.pointer (some ⟨g, 0, none⟩)] rfl ze_ ?_; (refine (spec_l1Cur_circuit.calls g s0_0 s0_1 s0_2 inp l9 o9 a9 m9 w0 _ (st_in HO_1.out 1 rfl HS_0.out) HO_1.out.base HP9.out).mono ?_); rintro e w_2 ⟨vg, vo, rfl, hG, hO, hI, hB, hK⟩; refine ⟨_, rfl, ?_⟩; obtain ⟨vS_9, hS, ho⟩ := st_out2 HO_1.out 1 rfl hI hB hK hG hO (by decide); have HS_9 := aM hS; obtain ⟨Ag_, mg_, cg_, hm1, rfl⟩ := ho.row_seal 0 rfl; obtain ⟨Ao_, mo_, co_, hm2, rfl⟩ := ho.row_seal 1 rfl; have HMG := aM hm1; have HMO := aM hm2; have HO_2 := aM ho; clear hI hB hK hS ho hG hO hm1 hm2) | ((with_reducible refine gate_dst (N := 3) rfl ?_); refine box_event ?hg (N := 3) ?hd (cs := #[.int .i64 0, .slice none 0 0, .slice none 0 0]) (t := 61) ?hr ?_; (case hd => rfl); (case hg => rfl); (case hr => exact zd_); intro g3 hg w_3 hbox hb; have HO_3 := aM (HO_2.out.add_box (T := 61) (cs := #[.int .i64 0, .slice none 0 0, .slice none 0 0]) hg hbox hb); clear hg hbox hb) | ((with_reducible refine gate_store (t := 61) (p := 3) (v := .tmp 9) rfl ?_); refine Sep.own_store HO_3.out 0 g3 61 _ #[.int .i64 inp, .slice Ag_ mg_ cg_, .slice Ao_ mo_ co_] rfl rfl rfl 61 (.tmp 3) (.tmp 9) rfl rfl _ rfl rfl rfl (by kernel_rfl) (by simp [Value.oneCell']) ?_; intro w_4 ho; have HO_4 := aM ho; clear ho; have z_1 : w_4.cell? ⟨g3, 1, none⟩ = some (.slice Ag_ mg_ cg_) := (HO_4.out.cell 0 rfl 1 rfl)))
 go_cut [] (fun wc => ∃ (vS_ : Value) (Ag_ : Option Addr) (mg_ cg_ : Nat), Aside0 (mg_ = q200.length) ∧ Aside0 (∃ A c, vS_ = .slice A s0_0.length c ∧ Kd.C (Kd.int .u8) w0 A s0_0.length s0_0) ∧ Aside0 (Own w0 wc (Item.row k109 109 (.slice Ag_ mg_ cg_) (q200) :: Item.row (Kd.int .i64) 3 (.slice Ao_ mo_ co_) (o9) :: Item.box g 86 #[vS_, .int .i64 a200, .int .u64 m200] :: Item.box g3 61 #[.int .i64 inp, .slice Ag_ mg_ cg_, .slice Ao_ mo_ co_] :: Item.box g2 61 #[.int .i64 0, .slice none 0 0, .slice none 0 0] :: [Sep.Item.kept w g])))
 case first =>
  have hg := HP200.out; rw [← HMG.out] at hg
  unfold anG at hg
  by_cases c1 : (0 : Int) < (mg_ : Int)
  ·rw [if_pos c1] at hg
   have c1b : decide ((mg_ : Int) > 0) = true := decide_eq_true c1; have c1c : decide (0 < (mg_ : Int)) = true := decide_eq_true c1; have c1d : decide (0 < mg_) = true := decide_eq_true (by omega); (first | rw [c1d] | skip); obtain ⟨⟨q19, a19, m19⟩, e19, h_⟩ := oB.mp hg; clear hg; have hg := h_; clear h_; have HP19 := aM e19; clear e19
   dsimp only at hg
   split at hg
   ·rename_i hq
    obtain ⟨hq0, hq1⟩ := hq; obtain ⟨⟨q22, a22, m22⟩, e22, h_⟩ := oB.mp hg; clear hg; have hg := h_; clear h_; have HP22 := aM e22; clear e22
    dsimp only at hg
    obtain ⟨gl, c3_, hv3⟩ := Sep.own_row_form HO_4.out 1 rfl (by have := HMG.out; omega)
    injection hv3 with ha hb hc
    subst ha; subst hc; clear hb; have HQ := aM (show 0 ≤ q19 ∧ q19 < (l9.length : Int) from ⟨hq0, by have := HMG.out; omega⟩); have p19 : (0 ≤ q19) = True := eq_true hq0; have p19b : (q19 < (mg_ : Int)) = True := eq_true hq1; clear hq0 hq1 c1
    by_cases c2_0 : q22 = 0
    ·rw [if_pos c2_0] at hg
     subst c2_0; obtain ⟨⟨q28, a28, m28⟩, e28, h_⟩ := oB.mp hg; clear hg; have hg := h_; clear h_; have HP28 := aM e28; clear e28
     dsimp only at hg
     injection hg with hg
     injection hg with e_0 hg
     injection hg with e_1 hg
     have e_2 := hg; clear hg; subst e_0; subst e_1; subst e_2
     go_wp2
     have HD_4_1 := aM (HO_4.out.drew)
     refine start_ (n := 7) (S := fun w' => w'.cell? ⟨g3, 1, none⟩ = some (.slice ((some ⟨gl, 0, none⟩)) mg_ cg_)) (ds := []) #[fi,fi,fi,fi,fi,fi,fi] (by kernel_rfl) rfl rfl ((HD_4_1.out.cell 0 rfl 1 rfl)) (fun hHeld => ?_)
     generalize w_4.drew = wd_4_2 at HD_4_1 hHeld ⊢
     refine oz_ 0 15 ?_
     refine oz_ 2 17 ?_
     refine oz_ 3 18 ?_
     refine tz1_ 1 16 hHeld ?_
     refine oo_ 4 19 (fun K hK => ?_)
     refine goes_ Try.func68 (by kernel_rfl) rfl #[.pointer (some ⟨g, 0, none⟩), .int .i64 ((mg_ : Int))] (by rfl) rfl rfl zbi_ ?_
     (refine (spec_l1Cur_pick.calls g s0_0 a9 m9 ((mg_ : Int)) q19 a19 m19 w0 _ (st_in HD_4_1.out 4 rfl HS_9.out) HD_4_1.out.base HP19.out).mono ?_)
     rintro e w_5 ⟨rfl, hI, hB, hK⟩
     refine ⟨_, rfl, ?_⟩
     obtain ⟨vS_19, hS, ho⟩ := st_out HD_4_1.out 4 rfl hI hB hK; have HS_19 := aM hS; have HO_5 := aM ho; clear hI hB hK hS ho
     refine hK.out _ _ ((HO_5.out.cell 0 rfl 1 rfl)) (fun hHeld => ?_)
     clear hK K
     refine nz_ 19 ?_
     refine oz_ 5 20 ?_
     refine oz_ 6 5 ?_
     refine done_ (by kernel_rfl) ?_
     go_wp2_with (first | ((with_reducible refine gate_callee (f := 68) rfl ?_); refine goesL_ (some 22) rfl rfl Try.func68 (by kernel_rfl) rfl #[.pointer (some ⟨g, 0, none⟩), .int .i64 30] rfl ze_ ?_; (refine (spec_l1Cur_pick.calls g s0_0 a19 m19 30 0 a22 m22 w0 _ (st_in HO_5.out 4 rfl HS_19.out) HO_5.out.base HP22.out).mono ?_); rintro e w_6 ⟨rfl, hI, hB, hK⟩; refine ⟨_, rfl, ?_⟩; obtain ⟨vS_22, hS, ho⟩ := st_out HO_5.out 4 rfl hI hB hK; have HS_22 := aM hS; have HO_6 := aM ho; clear hI hB hK hS ho) | ((with_reducible refine gate_dst (N := 27) rfl ?_); refine Sep.own_litN (Value.int .i64) (h1 := fun _ => rfl) HO_6.out 3 [0, 4, 5] 3 rfl [.int .i64 0, .int .i64 4, .int .i64 5] rfl (by decide) ?hg (N := 27) ?hd ?hr ?_; (case hd => rfl); (case hg => rfl); (case hr => exact zd_); intro x_27 w_7 ho _; obtain ⟨g_27, n_27, c_27, hn_, rfl⟩ := Sep.own_row_fseal ho 0 rfl (by simp); obtain rfl : n_27 = 3 := hn_; have HO_7 := aM ho; clear ho) | ((with_reducible refine gate_callee (f := 66) rfl ?_); refine goesL_ (some 28) rfl rfl Try.func66 (by kernel_rfl) rfl #[.pointer (some ⟨g, 0, none⟩), .slice ((some ⟨g_27, 0, none⟩)) 3 c_27] rfl ze_ ?_; (refine (spec_l1Cur_among.calls g s0_0 a22 m22 ((some ⟨g_27, 0, none⟩)) c_27 ([0, 4, 5]) q28 a28 m28 w0 _ (st_in HO_7.out 5 rfl HS_22.out) HO_7.out.base (by exact (HO_7.out.row_reads 0 rfl).2.2) (by exact (HO_7.out.row_reads 0 rfl).2.1) (fun ad he _ => by injection he with he; subst he; exact HO_7.out.row_ne_box 0 5 (by decide) rfl rfl) HP28.out).mono ?_); rintro e w_8 ⟨rfl, hI, hB, hK⟩; refine ⟨_, rfl, ?_⟩; obtain ⟨vS_28, hS, ho⟩ := st_out HO_7.out 5 rfl hI hB hK; have HS_28 := aM hS; have HO_8 := aM ho; clear hI hB hK hS ho) | ((with_reducible refine gate_store (t := 3) (p := 30) (v := .tmp 28) rfl ?_); refine Sep.own_seg_ev HO_8.out 2 rfl z109 q19 HQ.out.1 HQ.out.2 0 (.int .i64 q28) (⟨q28, (rd_T109 l9 q19).f1, (rd_T109 l9 q19).f2⟩ : S109) 3 rfl rfl rfl (by decide) (fun base ok c hM => by obtain rfl := k109_openM hM; exact k109_mkM _ _ _ _) rfl rfl (.tmp 30) (.tmp 28) rfl _ (by rfl) rfl rfl ?_; intro w_9 ho; have HO_9 := aM ho; clear ho))
     go_meet
     case rel => exact ⟨vS_28, _, _, _, ⟨by rw [List.length_set]; exact HMG.out⟩, HS_28, ⟨((((((HO_9.out.front 4 rfl).front 2 rfl).front 5 rfl).front 5 rfl).front 5 rfl).front 5 rfl).tail⟩⟩
    ·rw [if_neg c2_0] at hg
     by_cases c2_1 : q22 = 1
     ·rw [if_pos c2_1] at hg
      subst c2_1; obtain ⟨⟨q40, a40, m40⟩, e40, h_⟩ := oB.mp hg; clear hg; have hg := h_; clear h_; have HP40 := aM e40; clear e40
      dsimp only at hg
      injection hg with hg
      injection hg with e_0 hg
      injection hg with e_1 hg
      have e_2 := hg; clear hg; subst e_0; subst e_1; subst e_2
      go_wp2
      have HD_4_1 := aM (HO_4.out.drew)
      refine start_ (n := 7) (S := fun w' => w'.cell? ⟨g3, 1, none⟩ = some (.slice ((some ⟨gl, 0, none⟩)) mg_ cg_)) (ds := []) #[fi,fi,fi,fi,fi,fi,fi] (by kernel_rfl) rfl rfl ((HD_4_1.out.cell 0 rfl 1 rfl)) (fun hHeld => ?_)
      generalize w_4.drew = wd_4_2 at HD_4_1 hHeld ⊢
      refine oz_ 0 15 ?_
      refine oz_ 2 17 ?_
      refine oz_ 3 18 ?_
      refine tz1_ 1 16 hHeld ?_
      refine oo_ 4 19 (fun K hK => ?_)
      refine goes_ Try.func68 (by kernel_rfl) rfl #[.pointer (some ⟨g, 0, none⟩), .int .i64 ((mg_ : Int))] (by rfl) rfl rfl zbi_ ?_
      (refine (spec_l1Cur_pick.calls g s0_0 a9 m9 ((mg_ : Int)) q19 a19 m19 w0 _ (st_in HD_4_1.out 4 rfl HS_9.out) HD_4_1.out.base HP19.out).mono ?_)
      rintro e w_5 ⟨rfl, hI, hB, hK⟩
      refine ⟨_, rfl, ?_⟩
      obtain ⟨vS_19, hS, ho⟩ := st_out HD_4_1.out 4 rfl hI hB hK; have HS_19 := aM hS; have HO_5 := aM ho; clear hI hB hK hS ho
      refine hK.out _ _ ((HO_5.out.cell 0 rfl 1 rfl)) (fun hHeld => ?_)
      clear hK K
      refine nz_ 19 ?_
      refine oz_ 5 20 ?_
      refine oz_ 6 5 ?_
      refine done_ (by kernel_rfl) ?_
      go_wp2_with (first | ((with_reducible refine gate_callee (f := 68) rfl ?_); refine goesL_ (some 22) rfl rfl Try.func68 (by kernel_rfl) rfl #[.pointer (some ⟨g, 0, none⟩), .int .i64 30] rfl ze_ ?_; (refine (spec_l1Cur_pick.calls g s0_0 a19 m19 30 1 a22 m22 w0 _ (st_in HO_5.out 4 rfl HS_19.out) HO_5.out.base HP22.out).mono ?_); rintro e w_6 ⟨rfl, hI, hB, hK⟩; refine ⟨_, rfl, ?_⟩; obtain ⟨vS_22, hS, ho⟩ := st_out HO_5.out 4 rfl hI hB hK; have HS_22 := aM hS; have HO_6 := aM ho; clear hI hB hK hS ho; have z_3 : w_6.cell? ⟨g3, 0, none⟩ = some (.int .i64 inp) := (HO_6.out.cell 0 rfl 0 rfl)) | ((with_reducible refine gate_dst (N := 39) rfl ?_); refine Sep.own_litN (Value.int .i64) (h1 := fun _ => rfl) HO_6.out 3 [-1, wrap64 (inp + ((mg_ : Int)))] 2 rfl [.int .i64 (-1), .int .i64 (wrap64 (inp + ((mg_ : Int))))] rfl (by decide) ?hg (N := 39) ?hd ?hr ?_; (case hd => rfl); (case hg => rfl); (case hr => exact zd_); intro x_39 w_7 ho _; obtain ⟨g_39, n_39, c_39, hn_, rfl⟩ := Sep.own_row_fseal ho 0 rfl (by simp); obtain rfl : n_39 = 2 := hn_; have HO_7 := aM ho; clear ho) | ((with_reducible refine gate_callee (f := 66) rfl ?_); refine goesL_ (some 40) rfl rfl Try.func66 (by kernel_rfl) rfl #[.pointer (some ⟨g, 0, none⟩), .slice ((some ⟨g_39, 0, none⟩)) 2 c_39] rfl ze_ ?_; (refine (spec_l1Cur_among.calls g s0_0 a22 m22 ((some ⟨g_39, 0, none⟩)) c_39 ([-1, wrap64 (inp + ((mg_ : Int)))]) q40 a40 m40 w0 _ (st_in HO_7.out 5 rfl HS_22.out) HO_7.out.base (by exact (HO_7.out.row_reads 0 rfl).2.2) (by exact (HO_7.out.row_reads 0 rfl).2.1) (fun ad he _ => by injection he with he; subst he; exact HO_7.out.row_ne_box 0 5 (by decide) rfl rfl) HP40.out).mono ?_); rintro e w_8 ⟨rfl, hI, hB, hK⟩; refine ⟨_, rfl, ?_⟩; obtain ⟨vS_40, hS, ho⟩ := st_out HO_7.out 5 rfl hI hB hK; have HS_40 := aM hS; have HO_8 := aM ho; clear hI hB hK hS ho) | ((with_reducible refine gate_store (t := 3) (p := 42) (v := .tmp 40) rfl ?_); refine Sep.own_seg_ev HO_8.out 2 rfl z109 q19 HQ.out.1 HQ.out.2 1 (.int .i64 q40) (⟨(rd_T109 l9 q19).f0, q40, (rd_T109 l9 q19).f2⟩ : S109) 3 rfl rfl rfl (by decide) (fun base ok c hM => by obtain rfl := k109_openM hM; exact k109_mkM _ _ _ _) rfl rfl (.tmp 42) (.tmp 40) rfl _ (by rfl) rfl rfl ?_; intro w_9 ho; have HO_9 := aM ho; clear ho))
      go_meet
      case rel => exact ⟨vS_40, _, _, _, ⟨by rw [List.length_set]; exact HMG.out⟩, HS_40, ⟨((((((HO_9.out.front 4 rfl).front 2 rfl).front 5 rfl).front 5 rfl).front 5 rfl).front 5 rfl).tail⟩⟩
     ·rw [if_neg c2_1] at hg
      by_cases c2_2 : q22 = 2
      ·rw [if_pos c2_2] at hg
       subst c2_2; obtain ⟨⟨q53, a53, m53⟩, e53, h_⟩ := oB.mp hg; clear hg; have hg := h_; clear h_; have HP53 := aM e53; clear e53
       dsimp only at hg
       injection hg with hg
       injection hg with e_0 hg
       injection hg with e_1 hg
       have e_2 := hg; clear hg; subst e_0; subst e_1; subst e_2
       go_wp2
       have HD_4_1 := aM (HO_4.out.drew)
       refine start_ (n := 7) (S := fun w' => w'.cell? ⟨g3, 1, none⟩ = some (.slice ((some ⟨gl, 0, none⟩)) mg_ cg_)) (ds := []) #[fi,fi,fi,fi,fi,fi,fi] (by kernel_rfl) rfl rfl ((HD_4_1.out.cell 0 rfl 1 rfl)) (fun hHeld => ?_)
       generalize w_4.drew = wd_4_2 at HD_4_1 hHeld ⊢
       refine oz_ 0 15 ?_
       refine oz_ 2 17 ?_
       refine oz_ 3 18 ?_
       refine tz1_ 1 16 hHeld ?_
       refine oo_ 4 19 (fun K hK => ?_)
       refine goes_ Try.func68 (by kernel_rfl) rfl #[.pointer (some ⟨g, 0, none⟩), .int .i64 ((mg_ : Int))] (by rfl) rfl rfl zbi_ ?_
       (refine (spec_l1Cur_pick.calls g s0_0 a9 m9 ((mg_ : Int)) q19 a19 m19 w0 _ (st_in HD_4_1.out 4 rfl HS_9.out) HD_4_1.out.base HP19.out).mono ?_)
       rintro e w_5 ⟨rfl, hI, hB, hK⟩
       refine ⟨_, rfl, ?_⟩
       obtain ⟨vS_19, hS, ho⟩ := st_out HD_4_1.out 4 rfl hI hB hK; have HS_19 := aM hS; have HO_5 := aM ho; clear hI hB hK hS ho
       refine hK.out _ _ ((HO_5.out.cell 0 rfl 1 rfl)) (fun hHeld => ?_)
       clear hK K
       refine nz_ 19 ?_
       refine oz_ 5 20 ?_
       refine oz_ 6 5 ?_
       refine done_ (by kernel_rfl) ?_
       go_wp2_with (first | ((with_reducible refine gate_callee (f := 68) rfl ?_); refine goesL_ (some 22) rfl rfl Try.func68 (by kernel_rfl) rfl #[.pointer (some ⟨g, 0, none⟩), .int .i64 30] rfl ze_ ?_; (refine (spec_l1Cur_pick.calls g s0_0 a19 m19 30 2 a22 m22 w0 _ (st_in HO_5.out 4 rfl HS_19.out) HO_5.out.base HP22.out).mono ?_); rintro e w_6 ⟨rfl, hI, hB, hK⟩; refine ⟨_, rfl, ?_⟩; obtain ⟨vS_22, hS, ho⟩ := st_out HO_5.out 4 rfl hI hB hK; have HS_22 := aM hS; have HO_6 := aM ho; clear hI hB hK hS ho; have z_3 : w_6.cell? ⟨g3, 0, none⟩ = some (.int .i64 inp) := (HO_6.out.cell 0 rfl 0 rfl)) | ((with_reducible refine gate_dst (N := 52) rfl ?_); refine Sep.own_litN (Value.int .i64) (h1 := fun _ => rfl) HO_6.out 3 [-1, wrap64 ((wrap64 (inp + ((mg_ : Int)))) - 1)] 2 rfl [.int .i64 (-1), .int .i64 (wrap64 ((wrap64 (inp + ((mg_ : Int)))) - 1))] rfl (by decide) ?hg (N := 52) ?hd ?hr ?_; (case hd => rfl); (case hg => rfl); (case hr => exact zd_); intro x_52 w_7 ho _; obtain ⟨g_52, n_52, c_52, hn_, rfl⟩ := Sep.own_row_fseal ho 0 rfl (by simp); obtain rfl : n_52 = 2 := hn_; have HO_7 := aM ho; clear ho) | ((with_reducible refine gate_callee (f := 66) rfl ?_); refine goesL_ (some 53) rfl rfl Try.func66 (by kernel_rfl) rfl #[.pointer (some ⟨g, 0, none⟩), .slice ((some ⟨g_52, 0, none⟩)) 2 c_52] rfl ze_ ?_; (refine (spec_l1Cur_among.calls g s0_0 a22 m22 ((some ⟨g_52, 0, none⟩)) c_52 ([-1, wrap64 ((wrap64 (inp + ((mg_ : Int)))) - 1)]) q53 a53 m53 w0 _ (st_in HO_7.out 5 rfl HS_22.out) HO_7.out.base (by exact (HO_7.out.row_reads 0 rfl).2.2) (by exact (HO_7.out.row_reads 0 rfl).2.1) (fun ad he _ => by injection he with he; subst he; exact HO_7.out.row_ne_box 0 5 (by decide) rfl rfl) HP53.out).mono ?_); rintro e w_8 ⟨rfl, hI, hB, hK⟩; refine ⟨_, rfl, ?_⟩; obtain ⟨vS_53, hS, ho⟩ := st_out HO_7.out 5 rfl hI hB hK; have HS_53 := aM hS; have HO_8 := aM ho; clear hI hB hK hS ho) | ((with_reducible refine gate_store (t := 3) (p := 55) (v := .tmp 53) rfl ?_); refine Sep.own_seg_ev HO_8.out 2 rfl z109 q19 HQ.out.1 HQ.out.2 2 (.int .i64 q53) (⟨(rd_T109 l9 q19).f0, (rd_T109 l9 q19).f1, q53⟩ : S109) 3 rfl rfl rfl (by decide) (fun base ok c hM => by obtain rfl := k109_openM hM; exact k109_mkM _ _ _ _) rfl rfl (.tmp 55) (.tmp 53) rfl _ (by rfl) rfl rfl ?_; intro w_9 ho; have HO_9 := aM ho; clear ho))
       go_meet
       case rel => exact ⟨vS_53, _, _, _, ⟨by rw [List.length_set]; exact HMG.out⟩, HS_53, ⟨((((((HO_9.out.front 4 rfl).front 2 rfl).front 5 rfl).front 5 rfl).front 5 rfl).front 5 rfl).tail⟩⟩
      ·rw [if_neg c2_2] at hg
       have c2b0 : (q22 == 0) = false := beq_eq_false_iff_ne.mpr c2_0; clear c2_0; have c2b1 : (q22 == 1) = false := beq_eq_false_iff_ne.mpr c2_1; clear c2_1; have c2b2 : (q22 == 2) = false := beq_eq_false_iff_ne.mpr c2_2; clear c2_2
       injection hg with hg
       injection hg with e_0 hg
       injection hg with e_1 hg
       have e_2 := hg; clear hg; subst e_0; subst e_1; subst e_2
       go_wp2
       have HD_4_1 := aM (HO_4.out.drew)
       refine start_ (n := 7) (S := fun w' => w'.cell? ⟨g3, 1, none⟩ = some (.slice ((some ⟨gl, 0, none⟩)) mg_ cg_)) (ds := []) #[fi,fi,fi,fi,fi,fi,fi] (by kernel_rfl) rfl rfl ((HD_4_1.out.cell 0 rfl 1 rfl)) (fun hHeld => ?_)
       generalize w_4.drew = wd_4_2 at HD_4_1 hHeld ⊢
       refine oz_ 0 15 ?_
       refine oz_ 2 17 ?_
       refine oz_ 3 18 ?_
       refine tz1_ 1 16 hHeld ?_
       refine oo_ 4 19 (fun K hK => ?_)
       refine goes_ Try.func68 (by kernel_rfl) rfl #[.pointer (some ⟨g, 0, none⟩), .int .i64 ((mg_ : Int))] (by rfl) rfl rfl zbi_ ?_
       (refine (spec_l1Cur_pick.calls g s0_0 a9 m9 ((mg_ : Int)) q19 a19 m19 w0 _ (st_in HD_4_1.out 4 rfl HS_9.out) HD_4_1.out.base HP19.out).mono ?_)
       rintro e w_5 ⟨rfl, hI, hB, hK⟩
       refine ⟨_, rfl, ?_⟩
       obtain ⟨vS_19, hS, ho⟩ := st_out HD_4_1.out 4 rfl hI hB hK; have HS_19 := aM hS; have HO_5 := aM ho; clear hI hB hK hS ho
       refine hK.out _ _ ((HO_5.out.cell 0 rfl 1 rfl)) (fun hHeld => ?_)
       clear hK K
       refine nz_ 19 ?_
       refine oz_ 5 20 ?_
       refine oz_ 6 5 ?_
       refine done_ (by kernel_rfl) ?_
       go_wp2_with (first | ((with_reducible refine gate_callee (f := 68) rfl ?_); refine goesL_ (some 22) rfl rfl Try.func68 (by kernel_rfl) rfl #[.pointer (some ⟨g, 0, none⟩), .int .i64 30] rfl ze_ ?_; (refine (spec_l1Cur_pick.calls g s0_0 a19 m19 30 q22 a22 m22 w0 _ (st_in HO_5.out 4 rfl HS_19.out) HO_5.out.base HP22.out).mono ?_); rintro e w_6 ⟨rfl, hI, hB, hK⟩; refine ⟨_, rfl, ?_⟩; obtain ⟨vS_22, hS, ho⟩ := st_out HO_5.out 4 rfl hI hB hK; have HS_22 := aM hS; have HO_6 := aM ho; clear hI hB hK hS ho))
       go_meet
       case rel => exact ⟨vS_22, _, _, _, ⟨HMG.out⟩, HS_22, ⟨(((((HO_6.out.front 3 rfl).front 1 rfl).front 4 rfl).front 4 rfl).front 4 rfl)⟩⟩
   ·cases hg
  ·rw [if_neg c1] at hg
   have c1b : decide ((mg_ : Int) > 0) = false := decide_eq_false c1; have c1c : decide (0 < (mg_ : Int)) = false := decide_eq_false c1; have c1d : decide (0 < mg_) = false := decide_eq_false (by omega); (first | rw [c1d] | skip); clear c1
   injection hg with hg
   injection hg with e_0 hg
   injection hg with e_1 hg
   have e_2 := hg; clear hg; subst e_0; subst e_1; subst e_2
   go_wp2
   go_meet
   case rel => exact ⟨vS_9, _, _, _, ⟨HMG.out⟩, HS_9, ⟨(((((HO_4.out.front 3 rfl).front 1 rfl).front 4 rfl).front 4 rfl).front 4 rfl)⟩⟩
 case rest =>
  clear HO_4 HMG HS_9 HP200; obtain ⟨vS_, Ag_, mg_, cg_, HMG, HS_, HO⟩ := hcut; have h := HE.out; clear HE
  unfold anE at h
  obtain ⟨⟨q57, a57, m57⟩, e57, h_⟩ := oB.mp h; clear h; have h := h_; clear h_; have HP57 := aM e57; clear e57
  dsimp only at h
  by_cases c5_0 : q57 = 0
  ·rw [if_pos c5_0] at h
   subst c5_0; obtain ⟨⟨q62, a62, m62⟩, e62, h_⟩ := oB.mp h; clear h; have h := h_; clear h_; have HP62 := aM e62; clear e62
   dsimp only at h
   injection h with h
   injection h with e_0 h
   injection h with e_1 h
   injection h with e_2 h
   injection h with e_3 h
   have e_4 := h; clear h; subst e_0; subst e_1; subst e_2; subst e_3; subst e_4
   go_wp2_with (first | ((with_reducible refine gate_callee (f := 68) rfl ?_); refine goesL_ (some 57) rfl rfl Try.func68 (by kernel_rfl) rfl #[.pointer (some ⟨g, 0, none⟩), .int .i64 30] rfl ze_ ?_; (refine (spec_l1Cur_pick.calls g s0_0 a200 m200 30 0 a57 m57 w0 _ (st_in HO.out 2 rfl HS_.out) HO.out.base HP57.out).mono ?_); rintro e w_1 ⟨rfl, hI, hB, hK⟩; refine ⟨_, rfl, ?_⟩; obtain ⟨vS_57, hS, ho⟩ := st_out HO.out 2 rfl hI hB hK; have HS_57 := aM hS; have HO_1 := aM ho; clear hI hB hK hS ho) | ((with_reducible refine gate_dst (N := 61) rfl ?_); refine Sep.own_litN (Value.int .i64) (h1 := fun _ => rfl) HO_1.out 3 [-1, 0, 5] 3 rfl [.int .i64 (-1), .int .i64 0, .int .i64 5] rfl (by decide) ?hg (N := 61) ?hd ?hr ?_; (case hd => rfl); (case hg => rfl); (case hr => exact zd_); intro x_61 w_2 ho _; obtain ⟨g_61, n_61, c_61, hn_, rfl⟩ := Sep.own_row_fseal ho 0 rfl (by simp); obtain rfl : n_61 = 3 := hn_; have HO_2 := aM ho; clear ho) | ((with_reducible refine gate_callee (f := 66) rfl ?_); refine goesL_ (some 62) rfl rfl Try.func66 (by kernel_rfl) rfl #[.pointer (some ⟨g, 0, none⟩), .slice ((some ⟨g_61, 0, none⟩)) 3 c_61] rfl ze_ ?_; (refine (spec_l1Cur_among.calls g s0_0 a57 m57 ((some ⟨g_61, 0, none⟩)) c_61 ([-1, 0, 5]) q62 a62 m62 w0 _ (st_in HO_2.out 3 rfl HS_57.out) HO_2.out.base (by exact (HO_2.out.row_reads 0 rfl).2.2) (by exact (HO_2.out.row_reads 0 rfl).2.1) (fun ad he _ => by injection he with he; subst he; exact HO_2.out.row_ne_box 0 3 (by decide) rfl rfl) HP62.out).mono ?_); rintro e w_3 ⟨rfl, hI, hB, hK⟩; refine ⟨_, rfl, ?_⟩; obtain ⟨vS_62, hS, ho⟩ := st_out HO_2.out 3 rfl hI hB hK; have HS_62 := aM hS; have HO_3 := aM ho; clear hI hB hK hS ho) | ((with_reducible refine gate_store (t := 3) (p := 63) (v := .tmp 62) rfl ?_); refine Sep.own_store_at HO_3.out 4 g3 61 _ rfl rfl rfl 3 (.tmp 63) (.tmp 62) rfl 0 rfl (.int .i64 q62) rfl rfl (by kernel_rfl) rfl (by simp) ?_; intro w_4 ho; have HO_4 := aM ho; clear ho; have z_2 : w_4.cell? ⟨g3, 0, none⟩ = some (.int .i64 q62) := (HO_4.out.cell 4 rfl 0 rfl); have z_3 : w_4.cell? ⟨g3, 1, none⟩ = some (.slice Ag_ mg_ cg_) := (HO_4.out.cell 4 rfl 1 rfl); have z_4 : w_4.cell? ⟨g3, 2, none⟩ = some (.slice Ao_ mo_ co_) := (HO_4.out.cell 4 rfl 2 rfl)) | ((with_reducible refine gate_store (t := 61) (p := 2) (v := .tmp 112) rfl ?_); refine Sep.own_store HO_4.out 5 g2 61 _ #[.int .i64 q62, .slice Ag_ mg_ cg_, .slice Ao_ mo_ co_] rfl rfl rfl 61 (.tmp 2) (.tmp 112) rfl rfl _ rfl rfl rfl (by kernel_rfl) (by simp [Value.oneCell']) ?_; intro w_5 ho; have HO_5 := aM ho; clear ho))
   obtain ⟨hR, hbx2, hB2, hK2⟩ := Sep.own_end (((((((HO_5.out.front 3 rfl).front 2 rfl).front 5 rfl).front 5 rfl).front 5 rfl).front 5 rfl).tail.tail.tail.tail) HBW.out HG.out (fun w ok x cs b b' hM => by obtain rfl := k109_openM hM; exact k109_mkM _ _ _ _); obtain ⟨hR2, _, _, _⟩ := Sep.own_end (((((((HO_5.out.front 3 rfl).front 3 rfl).front 5 rfl).front 5 rfl).front 5 rfl).front 5 rfl).tail.tail.tail.tail) HBW.out HG.out (fun w ok x cs b b' hM => hM); obtain ⟨A9, c9, e9, hC9⟩ := HS_62.out; subst e9; have HR_ := aM hR; have HR2_ := aM hR2; have HX_ := aM (show IsS86 w0 _ g s0_0 _ _ from ⟨A9, c9, hbx2, HGE.out, hC9⟩); have HB_ := aM hB2; have HK_ := aM hK2; clear hR hR2 hbx2 hB2 hK2 hC9; (try simp only [Exit.inBlock, Exit.then])
   refine bodyPost_ret (results_cell_row rfl _ _ g2 61 #[.int .i64 q62, .slice Ag_ mg_ cg_, .slice Ao_ mo_ co_] (0, 0) _ rfl (HO_5.out.blk 5 rfl) Try.underlying61 rfl (by kernel_rfl)) rfl ?_
   exact ⟨_, _, rfl, HR_.out, HR2_.out, HX_.out, HB_.out, HK_.out⟩
  ·rw [if_neg c5_0] at h
   by_cases c5_1 : q57 = 1
   ·rw [if_pos c5_1] at h
    subst c5_1
    injection h with h
    injection h with e_0 h
    injection h with e_1 h
    injection h with e_2 h
    injection h with e_3 h
    have e_4 := h; clear h; subst e_0; subst e_1; subst e_2; subst e_3; subst e_4
    go_wp2_with (first | ((with_reducible refine gate_callee (f := 68) rfl ?_); refine goesL_ (some 57) rfl rfl Try.func68 (by kernel_rfl) rfl #[.pointer (some ⟨g, 0, none⟩), .int .i64 30] rfl ze_ ?_; (refine (spec_l1Cur_pick.calls g s0_0 a200 m200 30 1 a57 m57 w0 _ (st_in HO.out 2 rfl HS_.out) HO.out.base HP57.out).mono ?_); rintro e w_1 ⟨rfl, hI, hB, hK⟩; refine ⟨_, rfl, ?_⟩; obtain ⟨vS_57, hS, ho⟩ := st_out HO.out 2 rfl hI hB hK; have HS_57 := aM hS; have HO_1 := aM ho; clear hI hB hK hS ho) | ((with_reducible refine gate_store (t := 39) (p := 66) (v := .const (.slice none 0 0)) rfl ?_); refine Sep.own_store_at HO_1.out 3 g3 61 _ rfl rfl rfl 39 (.tmp 66) (.const (.slice none 0 0)) rfl 2 rfl (.slice none 0 0) rfl rfl (by kernel_rfl) rfl (by simp) ?_; intro w_2 ho; have HO_2 := aM ho; clear ho; have z_2 : w_2.cell? ⟨g3, 0, none⟩ = some (.int .i64 inp) := (HO_2.out.cell 3 rfl 0 rfl); have z_3 : w_2.cell? ⟨g3, 1, none⟩ = some (.slice Ag_ mg_ cg_) := (HO_2.out.cell 3 rfl 1 rfl); have z_4 : w_2.cell? ⟨g3, 2, none⟩ = some (.slice none 0 0) := (HO_2.out.cell 3 rfl 2 rfl)) | ((with_reducible refine gate_store (t := 61) (p := 2) (v := .tmp 112) rfl ?_); refine Sep.own_store HO_2.out 4 g2 61 _ #[.int .i64 inp, .slice Ag_ mg_ cg_, .slice none 0 0] rfl rfl rfl 61 (.tmp 2) (.tmp 112) rfl rfl _ rfl rfl rfl (by kernel_rfl) (by simp [Value.oneCell']) ?_; intro w_3 ho; have HO_3 := aM ho; clear ho))
    have HNL := aM (HO_3.out.nilrow (Kd.int .i64) 3); obtain ⟨hR, hbx2, hB2, hK2⟩ := Sep.own_end (((((((HNL.out.front 3 rfl).front 2 rfl).front 5 rfl).front 5 rfl).front 5 rfl).front 5 rfl).tail.tail.tail.tail) HBW.out HG.out (fun w ok x cs b b' hM => by obtain rfl := k109_openM hM; exact k109_mkM _ _ _ _); obtain ⟨hR2, _, _, _⟩ := Sep.own_end (((((((HNL.out.front 3 rfl).front 1 rfl).front 5 rfl).front 5 rfl).front 5 rfl).front 5 rfl).tail.tail.tail.tail) HBW.out HG.out (fun w ok x cs b b' hM => hM); obtain ⟨A9, c9, e9, hC9⟩ := HS_57.out; subst e9; have HR_ := aM hR; have HR2_ := aM hR2; have HX_ := aM (show IsS86 w0 _ g s0_0 _ _ from ⟨A9, c9, hbx2, HGE.out, hC9⟩); have HB_ := aM hB2; have HK_ := aM hK2; clear hR hR2 hbx2 hB2 hK2 hC9; (try simp only [Exit.inBlock, Exit.then])
    refine bodyPost_ret (results_cell_row rfl _ _ g2 61 #[.int .i64 inp, .slice Ag_ mg_ cg_, .slice none 0 0] (0, 0) _ rfl (HNL.out.blk 5 rfl) Try.underlying61 rfl (by kernel_rfl)) rfl ?_
    exact ⟨_, _, rfl, HR_.out, HR2_.out, HX_.out, HB_.out, HK_.out⟩
   ·rw [if_neg c5_1] at h
    by_cases c5_2 : q57 = 2
    ·rw [if_pos c5_2] at h
     subst c5_2; obtain ⟨⟨q70, a70, m70⟩, e70, h_⟩ := oB.mp h; clear h; have h := h_; clear h_; have HP70 := aM e70; clear e70
     dsimp only at h
     obtain ⟨nn, hnn⟩ : ∃ nn, wrap64 (4 + q70) = nn := ⟨_, rfl⟩; rw [hnn] at h
     split at h
     ·rename_i hn1
      have HN1 := aM hn1; clear hn1
      injection h with h
      injection h with e_0 h
      injection h with e_1 h
      injection h with e_2 h
      injection h with e_3 h
      have e_4 := h; clear h; subst e_0; subst e_1; subst e_2; subst e_3; subst e_4
      go_wp2_with (first | ((with_reducible refine gate_callee (f := 68) rfl ?_); refine goesL_ (some 57) rfl rfl Try.func68 (by kernel_rfl) rfl #[.pointer (some ⟨g, 0, none⟩), .int .i64 30] rfl ze_ ?_; (refine (spec_l1Cur_pick.calls g s0_0 a200 m200 30 2 a57 m57 w0 _ (st_in HO.out 2 rfl HS_.out) HO.out.base HP57.out).mono ?_); rintro e w_1 ⟨rfl, hI, hB, hK⟩; refine ⟨_, rfl, ?_⟩; obtain ⟨vS_57, hS, ho⟩ := st_out HO.out 2 rfl hI hB hK; have HS_57 := aM hS; have HO_1 := aM ho; clear hI hB hK hS ho) | ((with_reducible refine gate_callee (f := 68) rfl ?_); refine goesL_ (some 70) rfl rfl Try.func68 (by kernel_rfl) rfl #[.pointer (some ⟨g, 0, none⟩), .int .i64 2] rfl ze_ ?_; (refine (spec_l1Cur_pick.calls g s0_0 a57 m57 2 q70 a70 m70 w0 _ (st_in HO_1.out 2 rfl HS_57.out) HO_1.out.base HP70.out).mono ?_); rintro e w_2 ⟨rfl, hI, hB, hK⟩; refine ⟨_, rfl, ?_⟩; obtain ⟨vS_70, hS, ho⟩ := st_out HO_1.out 2 rfl hI hB hK; have HS_70 := aM hS; have HO_2 := aM ho; clear hI hB hK hS ho))
      (try simp only [Act.put, sI, s0, sS]); (first | rw [hnn] | skip)
      go_loopg [] (nn.toNat - o9.length) (fun kq wr => ∃ (j : Nat) (Ao_ : Option Addr) (mo_ co_ : Nat), Aside0 (mo_ = o9.length + j ∧ j + kq = nn.toNat - o9.length) ∧ Aside0 (Own w0 wr (Item.row k109 109 (.slice Ag_ mg_ cg_) (q200) :: Item.row (Kd.int .i64) 3 (.slice Ao_ mo_ co_) (o9 ++ List.replicate j 0) :: Item.box g 86 #[vS_70, .int .i64 a70, .int .u64 m70] :: Item.box g3 61 #[.int .i64 inp, .slice Ag_ mg_ cg_, .slice Ao_ mo_ co_] :: Item.box g2 61 #[.int .i64 0, .slice none 0 0, .slice none 0 0] :: [Sep.Item.kept w g])))
      case atStart => exact ⟨0, Ao_, mo_, co_, ⟨by have := HMO.out; omega, by omega⟩, ⟨by rw [show (List.replicate 0 0 : List Int) = [] from rfl, List.append_nil]; exact (((((HO_2.out.front 4 rfl).front 4 rfl).front 4 rfl).front 4 rfl).front 4 rfl)⟩⟩
      case round =>
       clear HO_2; obtain ⟨j, Ao_, mo_, co_, HM, HO⟩ := hrel
       cases gk with
       | zero =>
        have c6 : decide ((mo_ : Int) < nn) = false := decide_eq_false (by have := HM.out; omega); obtain rfl : j = nn.toNat - o9.length := by have := HM.out; omega
        have z_2 : wr.cell? ⟨g3, 2, none⟩ = some (.slice Ao_ mo_ co_) := (HO.out.cell 3 rfl 2 rfl); have z_3 : wr.cell? ⟨g3, 0, none⟩ = some (.int .i64 inp) := (HO.out.cell 3 rfl 0 rfl); have z_4 : wr.cell? ⟨g3, 1, none⟩ = some (.slice Ag_ mg_ cg_) := (HO.out.cell 3 rfl 1 rfl); have z_5 : wr.cell? ⟨g3, 2, none⟩ = some (.slice Ao_ mo_ co_) := (HO.out.cell 3 rfl 2 rfl)
        go_wp2_with (first | ((with_reducible refine gate_store (t := 61) (p := 2) (v := .tmp 112) rfl ?_); refine Sep.own_store HO.out 4 g2 61 _ #[.int .i64 inp, .slice Ag_ mg_ cg_, .slice Ao_ mo_ co_] rfl rfl rfl 61 (.tmp 2) (.tmp 112) rfl rfl _ rfl rfl rfl (by kernel_rfl) (by simp [Value.oneCell']) ?_; intro w_1 ho; have HO_1 := aM ho; clear ho))
        obtain ⟨hR, hbx2, hB2, hK2⟩ := Sep.own_end ((((((HO_1.out.front 2 rfl).front 1 rfl).front 4 rfl).front 4 rfl).front 4 rfl).tail.tail.tail) HBW.out HG.out (fun w ok x cs b b' hM => by obtain rfl := k109_openM hM; exact k109_mkM _ _ _ _); obtain ⟨hR2, _, _, _⟩ := Sep.own_end ((((((HO_1.out.front 2 rfl).front 2 rfl).front 4 rfl).front 4 rfl).front 4 rfl).tail.tail.tail) HBW.out HG.out (fun w ok x cs b b' hM => hM); obtain ⟨A9, c9, e9, hC9⟩ := HS_70.out; subst e9; have HR_ := aM hR; have HR2_ := aM hR2; have HX_ := aM (show IsS86 w0 _ g s0_0 _ _ from ⟨A9, c9, hbx2, HGE.out, hC9⟩); have HB_ := aM hB2; have HK_ := aM hK2; clear hR hR2 hbx2 hB2 hK2 hC9; (try simp only [Exit.inBlock, Exit.then])
        refine bodyPost_ret (results_cell_row rfl _ _ g2 61 #[.int .i64 inp, .slice Ag_ mg_ cg_, .slice Ao_ mo_ co_] (0, 0) _ rfl (HO_1.out.blk 4 rfl) Try.underlying61 rfl (by kernel_rfl)) rfl ?_
        exact ⟨_, _, rfl, HR_.out, HR2_.out, HX_.out, HB_.out, HK_.out⟩
       | succ k1 =>
        have c6 : decide ((mo_ : Int) < nn) = true := decide_eq_true (by have := HM.out; omega); have z_2 : wr.cell? ⟨g3, 2, none⟩ = some (.slice Ao_ mo_ co_) := (HO.out.cell 3 rfl 2 rfl); have z_3 : wr.cell? ⟨g3, 2, none⟩ = some (.slice Ao_ mo_ co_) := (HO.out.cell 3 rfl 2 rfl)
        go_wp2_with (first | ((with_reducible refine gate_dst (N := 80) rfl ?_); at_builtin; refine Sep.own_append (Kd.int .i64) HO.out 1 _ (o9 ++ List.replicate j 0) 3 rfl rfl (.tmp 78) (.tmp 79) 39 (.int .i64 0) 8 rfl Try.underlying39 info3 rfl (by decide) (by omega) 0 [.int .i64 0] rfl rfl rfl (by have := HM.out; have := HN1.out; simp only [List.length_append, List.length_replicate, List.length_singleton]; omega) ?_; intro x_80 w_2 ho; have ho_ := ho; clear ho; rw [show ((o9 ++ List.replicate j 0) ++ [0] : List _) = o9 ++ List.replicate (j + 1) 0 from by rw [List.append_assoc, ← List.replicate_succ']] at ho_; have ho := ho_; clear ho_; obtain ⟨A_80, n_80, c_80, hn_, rfl⟩ := ho.row_seal 1 rfl; have HN_80 := aM hn_; clear hn_; have HO_2 := aM ho; clear ho) | ((with_reducible refine gate_store (t := 39) (p := 81) (v := .tmp 80) rfl ?_); refine Sep.own_store_at HO_2.out 3 g3 61 _ rfl rfl rfl 39 (.tmp 81) (.tmp 80) rfl 2 rfl (.slice A_80 n_80 c_80) rfl rfl (by kernel_rfl) rfl (by simp) ?_; intro w_3 ho; have HO_3 := aM ho; clear ho))
        go_roundg k1
        case measure => omega
        case rel => exact ⟨j + 1, _, _, _, ⟨by rw [HN_80.out, List.length_append, List.length_replicate], by have := HM.out; omega⟩, ⟨(((((HO_3.out.front 4 rfl).front 4 rfl).front 4 rfl).front 4 rfl).front 4 rfl)⟩⟩
     ·cases h
    ·rw [if_neg c5_2] at h
     by_cases c5_3 : q57 = 3
     ·rw [if_pos c5_3] at h
      subst c5_3
      split at h
      ·rename_i hn1
       rw [← HMG.out] at h; obtain ⟨⟨q94, a94, m94⟩, e94, h_⟩ := oB.mp h; clear h; have h := h_; clear h_; have HP94 := aM e94; clear e94
       dsimp only at h
       injection h with h
       injection h with e_0 h
       injection h with e_1 h
       injection h with e_2 h
       injection h with e_3 h
       have e_4 := h; clear h; subst e_0; subst e_1; subst e_2; subst e_3; subst e_4; obtain ⟨gl, c3_, hv3⟩ := Sep.own_row_form HO.out 1 rfl hn1
       injection hv3 with ha hb hc
       subst ha; subst hc; clear hb; have p95 : ((0 : Int) < (mo_ : Int)) = True := eq_true (by have := HMO.out; omega); have p95b : (0 < mo_) = True := eq_true (by have := HMO.out; omega); have HN1 := aM hn1; clear hn1
       go_wp2_with (first | ((with_reducible refine gate_callee (f := 68) rfl ?_); refine goesL_ (some 57) rfl rfl Try.func68 (by kernel_rfl) rfl #[.pointer (some ⟨g, 0, none⟩), .int .i64 30] rfl ze_ ?_; (refine (spec_l1Cur_pick.calls g s0_0 a200 m200 30 3 a57 m57 w0 _ (st_in HO.out 2 rfl HS_.out) HO.out.base HP57.out).mono ?_); rintro e w_1 ⟨rfl, hI, hB, hK⟩; refine ⟨_, rfl, ?_⟩; obtain ⟨vS_57, hS, ho⟩ := st_out HO.out 2 rfl hI hB hK; have HS_57 := aM hS; have HO_1 := aM ho; clear hI hB hK hS ho))
       have HD_22_1 := aM (HO_1.out.drew)
       refine start_ (n := 13) (S := fun w' => w'.cell? ⟨g3, 2, none⟩ = some (.slice ((some ⟨gl, 0, none⟩)) mo_ co_) ∧ w'.cell? ⟨g3, 0, none⟩ = some (.int .i64 inp) ∧ w'.cell? ⟨g3, 1, none⟩ = some (.slice Ag_ mg_ cg_)) (ds := [12]) #[fi,fi,fi,fi,fi,fi,fi,fi,fi,fi,fi,fi,fi] (by kernel_rfl) rfl rfl ⟨(HD_22_1.out.cell 3 rfl 2 rfl), (HD_22_1.out.cell 3 rfl 0 rfl), (HD_22_1.out.cell 3 rfl 1 rfl)⟩ (fun hHeld => ?_)
       generalize w_1.drew = wd_22_2 at HD_22_1 hHeld ⊢
       refine oz_ 0 84 ?_
       refine oz_ 2 86 ?_
       refine oz_ 3 87 ?_
       refine oz_ 5 89 ?_
       refine tz3_ 1 85 hHeld ?_
       refine tz3_ 4 88 hHeld ?_
       refine tz3_ 6 90 hHeld ?_
       refine oz_ 7 91 ?_
       refine oz_ 8 92 ?_
       refine oo_ 9 93 (fun K hK => ?_)
       refine Sep.own_litN_step (Value.int .i64) (h1 := fun _ => rfl) HD_22_1.out 3 [-1, wrap64 (inp + ((mg_ : Int)))] 2 rfl [.int .i64 (-1), .int .i64 (wrap64 (inp + ((mg_ : Int))))] rfl (by decide) (by rfl) (N := 93) rfl zd_ ?_
       intro x_93 w_2 ho _
       obtain ⟨g_93, n_93, c_93, hn_, rfl⟩ := Sep.own_row_fseal ho 0 rfl (by simp); obtain rfl : n_93 = 2 := hn_; have HO_2 := aM ho; clear ho
       refine hK.out _ _ ⟨(HO_2.out.cell 4 rfl 2 rfl), (HO_2.out.cell 4 rfl 0 rfl), (HO_2.out.cell 4 rfl 1 rfl)⟩ (fun hHeld => ?_)
       clear hK K
       refine nz_ 93 ?_
       refine oo_ 10 94 (fun K hK => ?_)
       refine goes_ Try.func66 (by kernel_rfl) rfl #[.pointer (some ⟨g, 0, none⟩), .slice ((some ⟨g_93, 0, none⟩)) 2 c_93] (by rfl) rfl rfl zbi_ ?_
       (refine (spec_l1Cur_among.calls g s0_0 a57 m57 ((some ⟨g_93, 0, none⟩)) c_93 ([-1, wrap64 (inp + ((mg_ : Int)))]) q94 a94 m94 w0 _ (st_in HO_2.out 3 rfl HS_57.out) HO_2.out.base (by exact (HO_2.out.row_reads 0 rfl).2.2) (by exact (HO_2.out.row_reads 0 rfl).2.1) (fun ad he _ => by injection he with he; subst he; exact HO_2.out.row_ne_box 0 3 (by decide) rfl rfl) HP94.out).mono ?_)
       rintro e w_3 ⟨rfl, hI, hB, hK⟩
       refine ⟨_, rfl, ?_⟩
       obtain ⟨vS_94, hS, ho⟩ := st_out HO_2.out 3 rfl hI hB hK; have HS_94 := aM hS; have HO_3 := aM ho; clear hI hB hK hS ho
       refine hK.out _ _ ⟨(HO_3.out.cell 4 rfl 2 rfl), (HO_3.out.cell 4 rfl 0 rfl), (HO_3.out.cell 4 rfl 1 rfl)⟩ (fun hHeld => ?_)
       clear hK K
       refine nz_ 94 ?_
       refine oz_ 11 95 ?_
       refine last_ (i := 12) (N := none) #[ti,ti,ti,ti,ti,ti,ti,ti,ti,ti,ti,ti,ti] rfl rfl (by kernel_rfl) (by decide) (fun K hK => ?_)
       have hbs : _ ∧ _ := Sep.own_row_cell (0 : Int) HO_3.out 2 rfl 0 (by omega) (by have := HN1.out; omega); have hbf := hbs.2; have hbs := hbs.1; (try simp only [Int.toNat_zero] at hbs hbf)
       refine skip_ (w1 := ?_) (by rfl) rfl ?_ ?_
       rotate_left
       ·go_simp
        rfl
       have HO_4 := aM (Sep.own_put HO_3.out 2 rfl 0 q94); (try simp only [Int.toNat_zero] at HO_4); clear hbs hbf; generalize w_3.setCell ⟨gl, 0, none⟩ (.int .i64 q94) = w_4 at HO_4 ⊢
       refine hK.out _ _ ?_
       clear hK K
       refine done_ (by kernel_rfl) ?_
       have z_3 : w_4.cell? ⟨g3, 0, none⟩ = some (.int .i64 inp) := (HO_4.out.cell 4 rfl 0 rfl); have z_4 : w_4.cell? ⟨g3, 1, none⟩ = some (.slice Ag_ mg_ cg_) := (HO_4.out.cell 4 rfl 1 rfl); have z_5 : w_4.cell? ⟨g3, 2, none⟩ = some (.slice ((some ⟨gl, 0, none⟩)) mo_ co_) := (HO_4.out.cell 4 rfl 2 rfl)
       go_wp2_with (first | ((with_reducible refine gate_store (t := 61) (p := 2) (v := .tmp 112) rfl ?_); refine Sep.own_store HO_4.out 5 g2 61 _ #[.int .i64 inp, .slice Ag_ mg_ cg_, .slice ((some ⟨gl, 0, none⟩)) mo_ co_] rfl rfl rfl 61 (.tmp 2) (.tmp 112) rfl rfl _ rfl rfl rfl (by kernel_rfl) (by simp [Value.oneCell']) ?_; intro w_5 ho; have HO_5 := aM ho; clear ho))
       obtain ⟨hR, hbx2, hB2, hK2⟩ := Sep.own_end (((((((HO_5.out.front 3 rfl).front 2 rfl).front 5 rfl).front 5 rfl).front 5 rfl).front 5 rfl).tail.tail.tail.tail) HBW.out HG.out (fun w ok x cs b b' hM => by obtain rfl := k109_openM hM; exact k109_mkM _ _ _ _); obtain ⟨hR2, _, _, _⟩ := Sep.own_end (((((((HO_5.out.front 3 rfl).front 3 rfl).front 5 rfl).front 5 rfl).front 5 rfl).front 5 rfl).tail.tail.tail.tail) HBW.out HG.out (fun w ok x cs b b' hM => hM); obtain ⟨A9, c9, e9, hC9⟩ := HS_94.out; subst e9; have HR_ := aM hR; have HR2_ := aM hR2; have HX_ := aM (show IsS86 w0 _ g s0_0 _ _ from ⟨A9, c9, hbx2, HGE.out, hC9⟩); have HB_ := aM hB2; have HK_ := aM hK2; clear hR hR2 hbx2 hB2 hK2 hC9; (try simp only [Exit.inBlock, Exit.then])
       refine bodyPost_ret (results_cell_row rfl _ _ g2 61 #[.int .i64 inp, .slice Ag_ mg_ cg_, .slice ((some ⟨gl, 0, none⟩)) mo_ co_] (0, 0) _ rfl (HO_5.out.blk 5 rfl) Try.underlying61 rfl (by kernel_rfl)) rfl ?_
       exact ⟨_, _, rfl, HR_.out, HR2_.out, HX_.out, HB_.out, HK_.out⟩
      ·cases h
     ·rw [if_neg c5_3] at h
      by_cases c5_4 : q57 = 4
      ·rw [if_pos c5_4] at h
       subst c5_4; obtain ⟨⟨q99, a99, m99⟩, e99, h_⟩ := oB.mp h; clear h; have h := h_; clear h_; have HP99 := aM e99; clear e99
       dsimp only at h
       obtain ⟨nn, hnn⟩ : ∃ nn, wrap64 (16 + q99) = nn := ⟨_, rfl⟩; rw [hnn] at h
       split at h
       ·rename_i hn1
        have HN1 := aM hn1; clear hn1
        injection h with h
        injection h with e_0 h
        injection h with e_1 h
        injection h with e_2 h
        injection h with e_3 h
        have e_4 := h; clear h; subst e_0; subst e_1; subst e_2; subst e_3; subst e_4
        go_wp2_with (first | ((with_reducible refine gate_callee (f := 68) rfl ?_); refine goesL_ (some 57) rfl rfl Try.func68 (by kernel_rfl) rfl #[.pointer (some ⟨g, 0, none⟩), .int .i64 30] rfl ze_ ?_; (refine (spec_l1Cur_pick.calls g s0_0 a200 m200 30 4 a57 m57 w0 _ (st_in HO.out 2 rfl HS_.out) HO.out.base HP57.out).mono ?_); rintro e w_1 ⟨rfl, hI, hB, hK⟩; refine ⟨_, rfl, ?_⟩; obtain ⟨vS_57, hS, ho⟩ := st_out HO.out 2 rfl hI hB hK; have HS_57 := aM hS; have HO_1 := aM ho; clear hI hB hK hS ho) | ((with_reducible refine gate_callee (f := 68) rfl ?_); refine goesL_ (some 99) rfl rfl Try.func68 (by kernel_rfl) rfl #[.pointer (some ⟨g, 0, none⟩), .int .i64 2] rfl ze_ ?_; (refine (spec_l1Cur_pick.calls g s0_0 a57 m57 2 q99 a99 m99 w0 _ (st_in HO_1.out 2 rfl HS_57.out) HO_1.out.base HP99.out).mono ?_); rintro e w_2 ⟨rfl, hI, hB, hK⟩; refine ⟨_, rfl, ?_⟩; obtain ⟨vS_99, hS, ho⟩ := st_out HO_1.out 2 rfl hI hB hK; have HS_99 := aM hS; have HO_2 := aM ho; clear hI hB hK hS ho))
        (try simp only [Act.put, sI, s0, sS]); (first | rw [hnn] | skip)
        go_loopg [] (nn.toNat - q200.length) (fun kq wr => ∃ (j : Nat) (Ag_ : Option Addr) (mg_ cg_ : Nat), Aside0 (mg_ = q200.length + j ∧ j + kq = nn.toNat - q200.length) ∧ Aside0 (Own w0 wr (Item.row k109 109 (.slice Ag_ mg_ cg_) (q200 ++ List.replicate j (⟨4, 0, 0⟩ : S109)) :: Item.row (Kd.int .i64) 3 (.slice Ao_ mo_ co_) (o9) :: Item.box g 86 #[vS_99, .int .i64 a99, .int .u64 m99] :: Item.box g3 61 #[.int .i64 inp, .slice Ag_ mg_ cg_, .slice Ao_ mo_ co_] :: Item.box g2 61 #[.int .i64 0, .slice none 0 0, .slice none 0 0] :: [Sep.Item.kept w g])))
        case atStart => exact ⟨0, Ag_, mg_, cg_, ⟨by have := HMG.out; omega, by omega⟩, ⟨by rw [show (List.replicate 0 (⟨4, 0, 0⟩ : S109) : List S109) = [] from rfl, List.append_nil]; exact (((((HO_2.out.front 4 rfl).front 4 rfl).front 4 rfl).front 4 rfl).front 4 rfl)⟩⟩
        case round =>
         clear HO_2; obtain ⟨j, Ag_, mg_, cg_, HM, HO⟩ := hrel
         cases gk with
         | zero =>
          have c6 : decide ((mg_ : Int) < nn) = false := decide_eq_false (by have := HM.out; omega); obtain rfl : j = nn.toNat - q200.length := by have := HM.out; omega
          have z_2 : wr.cell? ⟨g3, 1, none⟩ = some (.slice Ag_ mg_ cg_) := (HO.out.cell 3 rfl 1 rfl); have z_3 : wr.cell? ⟨g3, 0, none⟩ = some (.int .i64 inp) := (HO.out.cell 3 rfl 0 rfl); have z_4 : wr.cell? ⟨g3, 1, none⟩ = some (.slice Ag_ mg_ cg_) := (HO.out.cell 3 rfl 1 rfl); have z_5 : wr.cell? ⟨g3, 2, none⟩ = some (.slice Ao_ mo_ co_) := (HO.out.cell 3 rfl 2 rfl)
          go_wp2_with (first | ((with_reducible refine gate_store (t := 61) (p := 2) (v := .tmp 112) rfl ?_); refine Sep.own_store HO.out 4 g2 61 _ #[.int .i64 inp, .slice Ag_ mg_ cg_, .slice Ao_ mo_ co_] rfl rfl rfl 61 (.tmp 2) (.tmp 112) rfl rfl _ rfl rfl rfl (by kernel_rfl) (by simp [Value.oneCell']) ?_; intro w_1 ho; have HO_1 := aM ho; clear ho))
          obtain ⟨hR, hbx2, hB2, hK2⟩ := Sep.own_end ((((((HO_1.out.front 2 rfl).front 1 rfl).front 4 rfl).front 4 rfl).front 4 rfl).tail.tail.tail) HBW.out HG.out (fun w ok x cs b b' hM => by obtain rfl := k109_openM hM; exact k109_mkM _ _ _ _); obtain ⟨hR2, _, _, _⟩ := Sep.own_end ((((((HO_1.out.front 2 rfl).front 2 rfl).front 4 rfl).front 4 rfl).front 4 rfl).tail.tail.tail) HBW.out HG.out (fun w ok x cs b b' hM => hM); obtain ⟨A9, c9, e9, hC9⟩ := HS_99.out; subst e9; have HR_ := aM hR; have HR2_ := aM hR2; have HX_ := aM (show IsS86 w0 _ g s0_0 _ _ from ⟨A9, c9, hbx2, HGE.out, hC9⟩); have HB_ := aM hB2; have HK_ := aM hK2; clear hR hR2 hbx2 hB2 hK2 hC9; (try simp only [Exit.inBlock, Exit.then])
          refine bodyPost_ret (results_cell_row rfl _ _ g2 61 #[.int .i64 inp, .slice Ag_ mg_ cg_, .slice Ao_ mo_ co_] (0, 0) _ rfl (HO_1.out.blk 4 rfl) Try.underlying61 rfl (by kernel_rfl)) rfl ?_
          exact ⟨_, _, rfl, HR_.out, HR2_.out, HX_.out, HB_.out, HK_.out⟩
         | succ k1 =>
          have c6 : decide ((mg_ : Int) < nn) = true := decide_eq_true (by have := HM.out; omega); have z_2 : wr.cell? ⟨g3, 1, none⟩ = some (.slice Ag_ mg_ cg_) := (HO.out.cell 3 rfl 1 rfl); have z_3 : wr.cell? ⟨g3, 1, none⟩ = some (.slice Ag_ mg_ cg_) := (HO.out.cell 3 rfl 1 rfl)
          go_wp2_with (first | ((with_reducible refine gate_dst (N := 110) rfl ?_); at_builtin; refine Sep.own_append k109 HO.out 0 _ (q200 ++ List.replicate j (⟨4, 0, 0⟩ : S109)) 109 rfl rfl (.tmp 107) (.tmp 109) 59 (.agg #[.int .i64 0, .int .i64 0, .int .i64 0]) 24 rfl Try.underlying59 info109 rfl (by decide) (by omega) ((⟨4, 0, 0⟩ : S109)) [.int .i64 4, .int .i64 0, .int .i64 0] rfl rfl (k109_mkM _ _ _ _) (by have := HM.out; have := HN1.out; simp only [List.length_append, List.length_replicate, List.length_singleton]; omega) ?_; intro x_110 w_2 ho; have ho_ := ho; clear ho; rw [show ((q200 ++ List.replicate j (⟨4, 0, 0⟩ : S109)) ++ [(⟨4, 0, 0⟩ : S109)] : List _) = q200 ++ List.replicate (j + 1) (⟨4, 0, 0⟩ : S109) from by rw [List.append_assoc, ← List.replicate_succ']] at ho_; have ho := ho_; clear ho_; obtain ⟨A_110, n_110, c_110, hn_, rfl⟩ := ho.row_seal 0 rfl; have HN_110 := aM hn_; clear hn_; have HO_2 := aM ho; clear ho) | ((with_reducible refine gate_store (t := 59) (p := 111) (v := .tmp 110) rfl ?_); refine Sep.own_store_at HO_2.out 3 g3 61 _ rfl rfl rfl 59 (.tmp 111) (.tmp 110) rfl 1 rfl (.slice A_110 n_110 c_110) rfl rfl (by kernel_rfl) rfl (by simp) ?_; intro w_3 ho; have HO_3 := aM ho; clear ho))
          go_roundg k1
          case measure => omega
          case rel => exact ⟨j + 1, _, _, _, ⟨by rw [HN_110.out, List.length_append, List.length_replicate], by have := HM.out; omega⟩, ⟨(((((HO_3.out.front 4 rfl).front 4 rfl).front 4 rfl).front 4 rfl).front 4 rfl)⟩⟩
       ·cases h
      ·rw [if_neg c5_4] at h
       have c5b0 : (q57 == 0) = false := beq_eq_false_iff_ne.mpr c5_0; clear c5_0; have c5b1 : (q57 == 1) = false := beq_eq_false_iff_ne.mpr c5_1; clear c5_1; have c5b2 : (q57 == 2) = false := beq_eq_false_iff_ne.mpr c5_2; clear c5_2; have c5b3 : (q57 == 3) = false := beq_eq_false_iff_ne.mpr c5_3; clear c5_3; have c5b4 : (q57 == 4) = false := beq_eq_false_iff_ne.mpr c5_4; clear c5_4
       injection h with h
       injection h with e_0 h
       injection h with e_1 h
       injection h with e_2 h
       injection h with e_3 h
       have e_4 := h; clear h; subst e_0; subst e_1; subst e_2; subst e_3; subst e_4
       go_wp2_with (first | ((with_reducible refine gate_callee (f := 68) rfl ?_); refine goesL_ (some 57) rfl rfl Try.func68 (by kernel_rfl) rfl #[.pointer (some ⟨g, 0, none⟩), .int .i64 30] rfl ze_ ?_; (refine (spec_l1Cur_pick.calls g s0_0 a200 m200 30 q57 a57 m57 w0 _ (st_in HO.out 2 rfl HS_.out) HO.out.base HP57.out).mono ?_); rintro e w_1 ⟨rfl, hI, hB, hK⟩; refine ⟨_, rfl, ?_⟩; obtain ⟨vS_57, hS, ho⟩ := st_out HO.out 2 rfl hI hB hK; have HS_57 := aM hS; have HO_1 := aM ho; clear hI hB hK hS ho; have z_2 : w_1.cell? ⟨g3, 0, none⟩ = some (.int .i64 inp) := (HO_1.out.cell 3 rfl 0 rfl); have z_3 : w_1.cell? ⟨g3, 1, none⟩ = some (.slice Ag_ mg_ cg_) := (HO_1.out.cell 3 rfl 1 rfl); have z_4 : w_1.cell? ⟨g3, 2, none⟩ = some (.slice Ao_ mo_ co_) := (HO_1.out.cell 3 rfl 2 rfl)) | ((with_reducible refine gate_store (t := 61) (p := 2) (v := .tmp 112) rfl ?_); refine Sep.own_store HO_1.out 4 g2 61 _ #[.int .i64 inp, .slice Ag_ mg_ cg_, .slice Ao_ mo_ co_] rfl rfl rfl 61 (.tmp 2) (.tmp 112) rfl rfl _ rfl rfl rfl (by kernel_rfl) (by simp [Value.oneCell']) ?_; intro w_2 ho; have HO_2 := aM ho; clear ho))
       obtain ⟨hR, hbx2, hB2, hK2⟩ := Sep.own_end ((((((HO_2.out.front 2 rfl).front 1 rfl).front 4 rfl).front 4 rfl).front 4 rfl).tail.tail.tail) HBW.out HG.out (fun w ok x cs b b' hM => by obtain rfl := k109_openM hM; exact k109_mkM _ _ _ _); obtain ⟨hR2, _, _, _⟩ := Sep.own_end ((((((HO_2.out.front 2 rfl).front 2 rfl).front 4 rfl).front 4 rfl).front 4 rfl).tail.tail.tail) HBW.out HG.out (fun w ok x cs b b' hM => hM); obtain ⟨A9, c9, e9, hC9⟩ := HS_57.out; subst e9; have HR_ := aM hR; have HR2_ := aM hR2; have HX_ := aM (show IsS86 w0 _ g s0_0 _ _ from ⟨A9, c9, hbx2, HGE.out, hC9⟩); have HB_ := aM hB2; have HK_ := aM hK2; clear hR hR2 hbx2 hB2 hK2 hC9; (try simp only [Exit.inBlock, Exit.then])
       refine bodyPost_ret (results_cell_row rfl _ _ g2 61 #[.int .i64 inp, .slice Ag_ mg_ cg_, .slice Ao_ mo_ co_] (0, 0) _ rfl (HO_2.out.blk 4 rfl) Try.underlying61 rfl (by kernel_rfl)) rfl ?_
       exact ⟨_, _, rfl, HR_.out, HR2_.out, HX_.out, HB_.out, HK_.out⟩
end Go.Proofs.Ytlnhpkjioppbiaa.QFnLevels
