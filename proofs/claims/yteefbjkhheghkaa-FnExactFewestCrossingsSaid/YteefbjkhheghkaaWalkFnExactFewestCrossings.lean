/- The law's own function FnExactFewestCrossings, walked for the answer true: laws_FnExactFewestCrossings.f is what it computes on that way. Written by wip/gen/lawwalk.py. Conditions: those of each theorem. -/
import Derived.Test.YteefbjkhheghkaaQFnExactFewestCrossingsx0
import Derived.Test.YteefbjkhheghkaaQFnExactFewestCrossingsx1
import Derived.Test.YteefbjkhheghkaaQFnExactFewestCrossingsx2
import Derived.Test.YteefbjkhheghkaaQFnExactFewestCrossingsx3
import Derived.Test.YteefbjkhheghkaaQFnExactFewestCrossingsx4
import Derived.Test.YteefbjkhheghkaaQFnExactFewestCrossingsx5
import Derived.Test.YteefbjkhheghkaaQFnExactFewestCrossingsx6
import Derived.Test.YteefbjkhheghkaaQFnExactFewestCrossingsx7
import Derived.Test.YteefbjkhheghkaaQFnExactFewestCrossingsx8
import Derived.Test.YteefbjkhheghkaaMarkFnExactFewestCrossings
set_option linter.unusedVariables false
set_option linter.unusedSimpArgs false
namespace Go.Proofs.Yteefbjkhheghkaa.QFnExactFewestCrossings
open Go.RowKit Go.Proofs.YteefbjkhheghkaaW.PrintWords Go.Proofs.YteefbjkhheghkaaW.PrintLast Go.Proofs.YteefbjkhheghkaaW.PrintMore
theorem drawn_below_ {w w' : World} (h : Drawn0 w w') : Below w.heap.size w w' := by
  obtain ⟨n, rfl⟩ := h
  exact pw_below_drewN (Below.refl _ _) n
theorem iv_S_ {α : Type} {d : Kd α} {e : Nat} {w1 : World} {base0 base a b : Nat} {v : Value} {xs : List α} (h : Kd.S d e w1 base0 (fun _ => True) v xs) (ha : a ≤ base0) (hb : base ≤ base0) (hn : b = w1.heap.size) : Kd.S d e w1 base (fun k_ => a ≤ k_ ∧ k_ < b) v xs :=
  Kd.S_lower (Kd.S_mono (Kd.S_bound h) (fun k_ hk_ => ⟨Nat.le_trans ha hk_.2.1, by rw [hn]; exact hk_.2.2.1⟩)) hb
theorem iv_R_ {α : Type} {d : Kd α} {e : Nat} {w1 : World} {base0 base a b : Nat} {v : Value} {xs : List α} (h : Kd.R d e w1 base0 (fun _ => True) v xs) (ha : a ≤ base0) (hb : base ≤ base0) (hn : b = w1.heap.size) : Kd.R d e w1 base (fun k_ => a ≤ k_ ∧ k_ < b) v xs :=
  Kd.R_lower (Kd.R_mono (Kd.R_bound h) (fun k_ hk_ => ⟨Nat.le_trans ha hk_.2.1, by rw [hn]; exact hk_.2.2.1⟩)) hb
theorem if_no_ {c : Prop} [Decidable c] {X : Option Bool} (h : (if c then some false else X) = some true) : ¬ c ∧ X = some true := by
  by_cases hc : c
  · rw [if_pos hc] at h; cases h
  · rw [if_neg hc] at h; exact ⟨hc, h⟩
theorem if_past_ {c : Prop} [Decidable c] {X Y : Option Bool} {r : Option Bool} (h : (if c then Y else X) = r) (hc : ¬ c) : X = r := (if_neg hc).symm.trans h
theorem if_yes_ {c : Prop} [Decidable c] {X : Option Bool} (h : (if c then X else some false) = some true) : c ∧ X = some true := by
  by_cases hc : c
  · rw [if_pos hc] at h; exact ⟨hc, h⟩
  · rw [if_neg hc] at h; cases h
def laws_FnExactFewestCrossings.f (k : Nat) (l0 : List (List Int)) (a1 : Int) : Option Bool := ((laws_szIntSS.f k (l0) (1048576)).bind fun t2 => (if t2 < 0 then some true else ((laws_toIntSS.f k (l0)).bind fun t5 => ((spec_FewestCrossings.f k (t5) (a1)).bind fun bt8 => ((laws_toIntSS.f k (l0)).bind fun t13 => ((impl_FewestCrossings.f k (t13) (a1)).bind fun bt16 => ((laws_eqIntS.f k (bt16.1) (bt8.1)).bind fun t21 => (if t21 = true then (if bt16.2.1 = bt8.2.1 then (if (bt16.2.2 != bt8.2.2) = true then some false else ((laws_toIntSS.f k (l0)).bind fun t24 => ((laws_eqIntSS.f k (t13) (t24)).bind fun t27 => (if t27 = true then ((laws_markIntSS.f k (t13) (1)).bind fun bt30 => (if bt30.1 < 0 then some false else ((laws_eqIntS.f k (bt16.1) (bt8.1)).bind fun t34 => (if t34 = true then (if bt16.2.1 = bt8.2.1 then (if (bt16.2.2 != bt8.2.2) = true then some false else ((laws_markIntS.f k (bt16.1) (1)).bind fun bt37 => ((laws_heldIntS.f k (bt37.2) (1)).bind fun t41 => (if t41 < 0 then some false else (if t41 = bt37.1 then ((laws_toIntSS.f k (l0)).bind fun t44 => ((impl_FewestCrossings.f k (t44) (a1)).bind fun bt47 => ((laws_eqIntS.f k (bt47.1) (bt8.1)).bind fun t52 => (if t52 = true then (if bt47.2.1 = bt8.2.1 then (if (bt47.2.2 != bt8.2.2) = true then some false else ((laws_heldIntS.f k (bt37.2) (1)).bind fun t55 => (if t55 < 0 then some false else (if t55 = bt37.1 then some true else some false)))) else some false) else some false)))) else some false))))) else some false) else some false)))) else some false)))) else some false) else some false))))))))
set_option maxHeartbeats 16000000 in
set_option maxRecDepth 100000 in
theorem laws_FnExactFewestCrossings.calls (k : Nat) (A0 : Option Addr) (c0 : Nat) (l0 : List (List Int)) (a1 : Int) (w : World) (hr0 : Kd.C (Kd.slice 3 (Kd.int .i64)) w A0 l0.length l0) (hc0 : l0.length ≤ c0) (h : laws_FnExactFewestCrossings.f k l0 a1 = some true) :
    Calls Try.prog 3 #[.slice A0 l0.length c0, .int .i64 a1] w fun e w' => e = .returned (.bool true) ∧ Below w.heap.size w w' := by
  have HR0 := Aside0.mk hr0
  have HC0 := Aside0.mk hc0
  clear hr0 hc0
  have HB := Aside0.mk (Below.refl w.heap.size w)
  obtain ⟨N0_, hN0_⟩ : ∃ n, n = w.heap.size := ⟨_, rfl⟩
  have HN := Aside0.mk (show N0_ ≤ w.heap.size from by rw [hN0_]; exact Nat.le_refl _)
  clear hN0_
  have H := h
  clear h
  unfold laws_FnExactFewestCrossings.f at H
  obtain ⟨t2, A_10, H1_⟩ := Option.bind_eq_some_iff.mp H; clear H; have H := H1_; clear H1_
  have A_1 := Aside0.mk A_10
  clear A_10
  by_cases c57 : t2 < 0
  · have c57b := decide_eq_true c57
    clear c57 H
    go_enter Try.func3, Try.ntmps3
    go_wp2_with (first | ((with_reducible refine gate_callee (f := 7) rfl ?_); refine goesL_ (some 21) rfl rfl Try.func7 (by kernel_rfl) rfl #[.slice A0 l0.length c0, .int .i64 1048576] rfl (by (try simp only [List.map_toArray, List.map_cons, List.map_nil]); first | done | rfl) ?_; (with_reducible refine (laws_szIntSS.calls k _ _ l0 (1048576) t2 _ ?side1 ?side2 A_1.out).mono ?_); (case side1 => exact (Kd.C_below HR0.out HB.out)); (case side2 => exact HC0.out); rintro e w3 ⟨rfl, hd_⟩; refine ⟨_, rfl, ?_⟩; have hb := drawn_below_ hd_; clear hd_; have nb_ := Aside0.mk (below_step HB.out hb); have nN_ := Aside0.mk (Nat.le_trans HN.out hb.size); clear HB HN hb; have HB := nb_; have HN := nN_; clear nb_ nN_))
    go_ret
    exact ⟨by first | rfl | (simp; done) | (simp [*]; done), HB.out⟩
  replace H := if_past_ H c57
  have c57b := decide_eq_false c57
  clear c57
  obtain ⟨t5, A_40, H1_⟩ := Option.bind_eq_some_iff.mp H; clear H; have H := H1_; clear H1_
  have A_4 := Aside0.mk A_40
  clear A_40
  obtain ⟨⟨t8, t9, t10⟩, A_70, H1_⟩ := Option.bind_eq_some_iff.mp H; clear H; have H := H1_; clear H1_
  have A_7 := Aside0.mk A_70
  clear A_70
  obtain ⟨t13, A_120, H1_⟩ := Option.bind_eq_some_iff.mp H; clear H; have H := H1_; clear H1_
  have A_12 := Aside0.mk A_120
  clear A_120
  obtain ⟨⟨t16, t17, t18⟩, A_150, H1_⟩ := Option.bind_eq_some_iff.mp H; clear H; have H := H1_; clear H1_
  have A_15 := Aside0.mk A_150
  clear A_150
  obtain ⟨t21, A_200, H1_⟩ := Option.bind_eq_some_iff.mp H; clear H; have H := H1_; clear H1_
  have A_20 := Aside0.mk A_200
  clear A_200
  obtain ⟨c58, H1_⟩ := if_yes_ H; clear H; have H := H1_; clear H1_
  subst c58
  obtain ⟨c59, H1_⟩ := if_yes_ H; clear H; have H := H1_; clear H1_
  have c59b := beq_iff_eq.mpr c59
  have c59d := bne_eq_false_iff_eq.mpr c59
  clear c59
  obtain ⟨c60, H1_⟩ := if_no_ H; clear H; have H := H1_; clear H1_
  have c60e := (bne_eq_false_iff_eq.mp (Bool.eq_false_iff.mpr c60)).symm
  clear c60
  subst c60e
  obtain ⟨t24, A_230, H1_⟩ := Option.bind_eq_some_iff.mp H; clear H; have H := H1_; clear H1_
  have A_23 := Aside0.mk A_230
  clear A_230
  obtain ⟨t27, A_260, H1_⟩ := Option.bind_eq_some_iff.mp H; clear H; have H := H1_; clear H1_
  have A_26 := Aside0.mk A_260
  clear A_260
  obtain ⟨c61, H1_⟩ := if_yes_ H; clear H; have H := H1_; clear H1_
  subst c61
  obtain ⟨⟨t30, t31⟩, A_290, H1_⟩ := Option.bind_eq_some_iff.mp H; clear H; have H := H1_; clear H1_
  have A_29 := Aside0.mk A_290
  clear A_290
  obtain ⟨c62, H1_⟩ := if_no_ H; clear H; have H := H1_; clear H1_
  have c62b := decide_eq_false c62
  clear c62
  obtain ⟨t34, A_330, H1_⟩ := Option.bind_eq_some_iff.mp H; clear H; have H := H1_; clear H1_
  have A_33 := Aside0.mk A_330
  clear A_330
  obtain ⟨c63, H1_⟩ := if_yes_ H; clear H; have H := H1_; clear H1_
  subst c63
  obtain ⟨c64, H1_⟩ := if_yes_ H; clear H; have H := H1_; clear H1_
  have c64b := beq_iff_eq.mpr c64
  have c64d := bne_eq_false_iff_eq.mpr c64
  clear c64
  obtain ⟨c65, H1_⟩ := if_no_ H; clear H; have H := H1_; clear H1_
  clear c65
  obtain ⟨⟨t37, t38⟩, A_360, H1_⟩ := Option.bind_eq_some_iff.mp H; clear H; have H := H1_; clear H1_
  have A_36 := Aside0.mk A_360
  clear A_360
  obtain ⟨t41, A_400, H1_⟩ := Option.bind_eq_some_iff.mp H; clear H; have H := H1_; clear H1_
  have A_40 := Aside0.mk A_400
  clear A_400
  obtain ⟨c66, H1_⟩ := if_no_ H; clear H; have H := H1_; clear H1_
  have c66b := decide_eq_false c66
  clear c66
  obtain ⟨c67, H1_⟩ := if_yes_ H; clear H; have H := H1_; clear H1_
  have c67b := beq_iff_eq.mpr c67
  have c67d := bne_eq_false_iff_eq.mpr c67
  clear c67
  obtain ⟨t44, A_430, H1_⟩ := Option.bind_eq_some_iff.mp H; clear H; have H := H1_; clear H1_
  have A_43 := Aside0.mk A_430
  clear A_430
  obtain ⟨⟨t47, t48, t49⟩, A_460, H1_⟩ := Option.bind_eq_some_iff.mp H; clear H; have H := H1_; clear H1_
  have A_46 := Aside0.mk A_460
  clear A_460
  obtain ⟨t52, A_510, H1_⟩ := Option.bind_eq_some_iff.mp H; clear H; have H := H1_; clear H1_
  have A_51 := Aside0.mk A_510
  clear A_510
  obtain ⟨c68, H1_⟩ := if_yes_ H; clear H; have H := H1_; clear H1_
  subst c68
  obtain ⟨c69, H1_⟩ := if_yes_ H; clear H; have H := H1_; clear H1_
  have c69b := beq_iff_eq.mpr c69
  have c69d := bne_eq_false_iff_eq.mpr c69
  clear c69
  obtain ⟨c70, H1_⟩ := if_no_ H; clear H; have H := H1_; clear H1_
  have c70e := (bne_eq_false_iff_eq.mp (Bool.eq_false_iff.mpr c70)).symm
  clear c70
  subst c70e
  obtain ⟨t55, A_540, H1_⟩ := Option.bind_eq_some_iff.mp H; clear H; have H := H1_; clear H1_
  have A_54 := Aside0.mk A_540
  clear A_540
  obtain ⟨c71, H1_⟩ := if_no_ H; clear H; have H := H1_; clear H1_
  have c71b := decide_eq_false c71
  clear c71
  obtain ⟨c72, H1_⟩ := if_yes_ H; clear H; have H := H1_; clear H1_
  have c72b := beq_iff_eq.mpr c72
  have c72d := bne_eq_false_iff_eq.mpr c72
  clear c72
  clear H
  go_enter Try.func3, Try.ntmps3
  go_wp2_with (first | ((with_reducible refine gate_callee (f := 7) rfl ?_); refine goesL_ (some 21) rfl rfl Try.func7 (by kernel_rfl) rfl #[.slice A0 l0.length c0, .int .i64 1048576] rfl (by (try simp only [List.map_toArray, List.map_cons, List.map_nil]); first | done | rfl) ?_; (with_reducible refine (laws_szIntSS.calls k _ _ l0 (1048576) t2 _ ?side1 ?side2 A_1.out).mono ?_); (case side1 => exact (Kd.C_below HR0.out HB.out)); (case side2 => exact HC0.out); rintro e w3 ⟨rfl, hd_⟩; refine ⟨_, rfl, ?_⟩; have hb := drawn_below_ hd_; clear hd_; have nb_ := Aside0.mk (below_step HB.out hb); have nN_ := Aside0.mk (Nat.le_trans HN.out hb.size); clear HB HN hb; have HB := nb_; have HN := nN_; clear nb_ nN_) | ((with_reducible refine gate_callee (f := 9) rfl ?_); refine goesL_ (some 26) rfl rfl Try.func9 (by kernel_rfl) rfl #[.slice A0 l0.length c0] rfl (by (try simp only [List.map_toArray, List.map_cons, List.map_nil]); first | done | rfl) ?_; (with_reducible refine (laws_toIntSS.calls k _ _ l0 t5 _ ?side1 ?side2 A_4.out).mono ?_); (case side1 => exact (Kd.C_below HR0.out HB.out)); (case side2 => exact HC0.out); rintro e w6 ⟨v1_, rfl, ho1_, hb⟩; refine ⟨_, rfl, ?_⟩; obtain ⟨N1_, hN_⟩ : ∃ n, n = w6.heap.size := ⟨_, rfl⟩; have nn1_ := Aside0.mk (iv_S_ ho1_ HN.out (below_size HB.out) hN_); have HL1 := Aside0.mk (show N0_ ≤ N1_ from by rw [hN_]; exact Nat.le_trans HN.out hb.size); have nN_ := Aside0.mk (show N1_ ≤ w6.heap.size from by rw [hN_]; exact Nat.le_refl _); have nb_ := Aside0.mk (below_step HB.out hb); clear hN_ ho1_ hb HB HN; have HB := nb_; have HN := nN_; clear nb_ nN_; have HO1 := nn1_; clear nn1_; obtain ⟨Ao1, co1, eo_⟩ := Kd.S_slice HO1.out; subst eo_) | ((with_reducible refine gate_callee (f := 8) rfl ?_); refine goesL_ (some 28) rfl rfl Try.func8 (by kernel_rfl) rfl #[.slice Ao1 t5.length co1, .int .i64 a1] rfl (by (try simp only [List.map_toArray, List.map_cons, List.map_nil]); first | done | rfl) ?_; (with_reducible refine (spec_FewestCrossings.calls k _ _ t5 (a1) t8 t9 t10 _ ?side1 ?side2 A_7.out).mono ?_); (case side1 => exact (Kd.S_reads' HO1.out).2.2); (case side2 => exact (Kd.S_reads' HO1.out).2.1); rintro e w11 ⟨v2_, rfl, ho2_, hb⟩; refine ⟨_, rfl, ?_⟩; have no1_ := Aside0.mk (Kd.S_below HO1.out hb); obtain ⟨N2_, hN_⟩ : ∃ n, n = w11.heap.size := ⟨_, rfl⟩; have nn2_ := Aside0.mk (iv_R_ ho2_ HN.out (below_size HB.out) hN_); have HL2 := Aside0.mk (show N1_ ≤ N2_ from by rw [hN_]; exact Nat.le_trans HN.out hb.size); have nN_ := Aside0.mk (show N2_ ≤ w11.heap.size from by rw [hN_]; exact Nat.le_refl _); have nb_ := Aside0.mk (below_step HB.out hb); clear hN_ ho2_ hb HB HN; have HB := nb_; have HN := nN_; clear nb_ nN_; clear HO1; have HO1 := no1_; clear no1_; have HO2 := nn2_; clear nn2_; obtain ⟨Ao2, co2, eo_⟩ := Kd.R_slice HO2.out; subst eo_) | ((with_reducible refine gate_callee (f := 9) rfl ?_); refine goesL_ (some 33) rfl rfl Try.func9 (by kernel_rfl) rfl #[.slice A0 l0.length c0] rfl (by (try simp only [List.map_toArray, List.map_cons, List.map_nil]); first | done | rfl) ?_; (with_reducible refine (laws_toIntSS.calls k _ _ l0 t13 _ ?side1 ?side2 A_12.out).mono ?_); (case side1 => exact (Kd.C_below HR0.out HB.out)); (case side2 => exact HC0.out); rintro e w14 ⟨v3_, rfl, ho3_, hb⟩; refine ⟨_, rfl, ?_⟩; have no1_ := Aside0.mk (Kd.S_below HO1.out hb); have no2_ := Aside0.mk (Kd.R_below HO2.out hb); obtain ⟨N3_, hN_⟩ : ∃ n, n = w14.heap.size := ⟨_, rfl⟩; have nn3_ := Aside0.mk (iv_S_ ho3_ HN.out (below_size HB.out) hN_); have HL3 := Aside0.mk (show N2_ ≤ N3_ from by rw [hN_]; exact Nat.le_trans HN.out hb.size); have nN_ := Aside0.mk (show N3_ ≤ w14.heap.size from by rw [hN_]; exact Nat.le_refl _); have nb_ := Aside0.mk (below_step HB.out hb); clear hN_ ho3_ hb HB HN; have HB := nb_; have HN := nN_; clear nb_ nN_; clear HO1; have HO1 := no1_; clear no1_; clear HO2; have HO2 := no2_; clear no2_; have HO3 := nn3_; clear nn3_; obtain ⟨Ao3, co3, eo_⟩ := Kd.S_slice HO3.out; subst eo_) | ((with_reducible refine gate_callee (f := 10) rfl ?_); refine goesL_ (some 37) rfl rfl Try.func10 (by kernel_rfl) rfl #[.slice Ao3 t13.length co3, .int .i64 a1] rfl (by (try simp only [List.map_toArray, List.map_cons, List.map_nil]); first | done | rfl) ?_; (with_reducible refine (impl_FewestCrossings.calls k _ _ t13 (a1) t16 t17 t10 _ ?side1 ?side2 A_15.out).mono ?_); (case side1 => exact (Kd.S_reads' HO3.out).2.2); (case side2 => exact (Kd.S_reads' HO3.out).2.1); rintro e w19 ⟨v4_, rfl, ho4_, hb⟩; refine ⟨_, rfl, ?_⟩; have no1_ := Aside0.mk (Kd.S_below HO1.out hb); have no2_ := Aside0.mk (Kd.R_below HO2.out hb); have no3_ := Aside0.mk (Kd.S_below HO3.out hb); obtain ⟨N4_, hN_⟩ : ∃ n, n = w19.heap.size := ⟨_, rfl⟩; have nn4_ := Aside0.mk (iv_R_ ho4_ HN.out (below_size HB.out) hN_); have HL4 := Aside0.mk (show N3_ ≤ N4_ from by rw [hN_]; exact Nat.le_trans HN.out hb.size); have nN_ := Aside0.mk (show N4_ ≤ w19.heap.size from by rw [hN_]; exact Nat.le_refl _); have nb_ := Aside0.mk (below_step HB.out hb); clear hN_ ho4_ hb HB HN; have HB := nb_; have HN := nN_; clear nb_ nN_; clear HO1; have HO1 := no1_; clear no1_; clear HO2; have HO2 := no2_; clear no2_; clear HO3; have HO3 := no3_; clear no3_; have HO4 := nn4_; clear nn4_; obtain ⟨Ao4, co4, eo_⟩ := Kd.R_slice HO4.out; subst eo_) | ((with_reducible refine gate_callee (f := 11) rfl ?_); refine goesL_ (some 43) rfl rfl Try.func11 (by kernel_rfl) rfl #[.slice Ao4 t16.length co4, .slice Ao2 t8.length co2] rfl (by (try simp only [List.map_toArray, List.map_cons, List.map_nil]); first | done | rfl) ?_; (with_reducible refine (laws_eqIntS.calls k _ _ t16 _ _ t8 true _ ?side1 ?side2 ?side3 ?side4 A_20.out).mono ?_); (case side1 => exact (Kd.R_reads' HO4.out).2.2); (case side2 => exact (Kd.R_reads' HO4.out).2.1); (case side3 => exact (Kd.R_reads' HO2.out).2.2); (case side4 => exact (Kd.R_reads' HO2.out).2.1); rintro e w22 ⟨rfl, hd_⟩; refine ⟨_, rfl, ?_⟩; have hb := drawn_below_ hd_; clear hd_; have no1_ := Aside0.mk (Kd.S_below HO1.out hb); have no2_ := Aside0.mk (Kd.R_below HO2.out hb); have no3_ := Aside0.mk (Kd.S_below HO3.out hb); have no4_ := Aside0.mk (Kd.R_below HO4.out hb); have nb_ := Aside0.mk (below_step HB.out hb); have nN_ := Aside0.mk (Nat.le_trans HN.out hb.size); clear HB HN hb; have HB := nb_; have HN := nN_; clear nb_ nN_; clear HO1; have HO1 := no1_; clear no1_; clear HO2; have HO2 := no2_; clear no2_; clear HO3; have HO3 := no3_; clear no3_; clear HO4; have HO4 := no4_; clear no4_) | ((with_reducible refine gate_callee (f := 9) rfl ?_); refine goesL_ (some 57) rfl rfl Try.func9 (by kernel_rfl) rfl #[.slice A0 l0.length c0] rfl (by (try simp only [List.map_toArray, List.map_cons, List.map_nil]); first | done | rfl) ?_; (with_reducible refine (laws_toIntSS.calls k _ _ l0 t24 _ ?side1 ?side2 A_23.out).mono ?_); (case side1 => exact (Kd.C_below HR0.out HB.out)); (case side2 => exact HC0.out); rintro e w25 ⟨v5_, rfl, ho5_, hb⟩; refine ⟨_, rfl, ?_⟩; have no1_ := Aside0.mk (Kd.S_below HO1.out hb); have no2_ := Aside0.mk (Kd.R_below HO2.out hb); have no3_ := Aside0.mk (Kd.S_below HO3.out hb); have no4_ := Aside0.mk (Kd.R_below HO4.out hb); obtain ⟨N5_, hN_⟩ : ∃ n, n = w25.heap.size := ⟨_, rfl⟩; have nn5_ := Aside0.mk (iv_S_ ho5_ HN.out (below_size HB.out) hN_); have HL5 := Aside0.mk (show N4_ ≤ N5_ from by rw [hN_]; exact Nat.le_trans HN.out hb.size); have nN_ := Aside0.mk (show N5_ ≤ w25.heap.size from by rw [hN_]; exact Nat.le_refl _); have nb_ := Aside0.mk (below_step HB.out hb); clear hN_ ho5_ hb HB HN; have HB := nb_; have HN := nN_; clear nb_ nN_; clear HO1; have HO1 := no1_; clear no1_; clear HO2; have HO2 := no2_; clear no2_; clear HO3; have HO3 := no3_; clear no3_; clear HO4; have HO4 := no4_; clear no4_; have HO5 := nn5_; clear nn5_; obtain ⟨Ao5, co5, eo_⟩ := Kd.S_slice HO5.out; subst eo_) | ((with_reducible refine gate_callee (f := 12) rfl ?_); refine goesL_ (some 58) rfl rfl Try.func12 (by kernel_rfl) rfl #[.slice Ao3 t13.length co3, .slice Ao5 t24.length co5] rfl (by (try simp only [List.map_toArray, List.map_cons, List.map_nil]); first | done | rfl) ?_; (with_reducible refine (laws_eqIntSS.calls k _ _ t13 _ _ t24 true _ ?side1 ?side2 ?side3 ?side4 A_26.out).mono ?_); (case side1 => exact (Kd.S_reads' HO3.out).2.2); (case side2 => exact (Kd.S_reads' HO3.out).2.1); (case side3 => exact (Kd.S_reads' HO5.out).2.2); (case side4 => exact (Kd.S_reads' HO5.out).2.1); rintro e w28 ⟨rfl, hd_⟩; refine ⟨_, rfl, ?_⟩; have hb := drawn_below_ hd_; clear hd_; have no1_ := Aside0.mk (Kd.S_below HO1.out hb); have no2_ := Aside0.mk (Kd.R_below HO2.out hb); have no3_ := Aside0.mk (Kd.S_below HO3.out hb); have no4_ := Aside0.mk (Kd.R_below HO4.out hb); have no5_ := Aside0.mk (Kd.S_below HO5.out hb); have nb_ := Aside0.mk (below_step HB.out hb); have nN_ := Aside0.mk (Nat.le_trans HN.out hb.size); clear HB HN hb; have HB := nb_; have HN := nN_; clear nb_ nN_; clear HO1; have HO1 := no1_; clear no1_; clear HO2; have HO2 := no2_; clear no2_; clear HO3; have HO3 := no3_; clear no3_; clear HO4; have HO4 := no4_; clear no4_; clear HO5; have HO5 := no5_; clear no5_) | ((with_reducible refine gate_callee (f := 13) rfl ?_); refine goesL_ (some 62) rfl rfl Try.func13 (by kernel_rfl) rfl #[.slice Ao3 t13.length co3, .int .i64 1] rfl (by (try simp only [List.map_toArray, List.map_cons, List.map_nil]); first | done | rfl) ?_; (with_reducible refine (laws_markIntSS.calls k (fun k_ => N2_ ≤ k_ ∧ k_ < N3_) (.slice Ao3 t13.length co3) t13 (1) t30 t31 w _ ?side0 ?side1 A_29.out).mono ?_); (case side0 => exact HB.out); (case side1 => exact HO3.out); rintro e w32 ⟨rfl, hy0, hb, hkp⟩; refine ⟨_, rfl, ?_⟩; have no1_ := Aside0.mk (Kd.S_kept HO1.out hkp (fun k_ h1_ h2_ => by have z0_ := HL1.out; have z1_ := HL2.out; have z2_ := HL3.out; have z3_ := HL4.out; have z4_ := HL5.out; omega)); have no2_ := Aside0.mk (Kd.R_kept HO2.out hkp (fun k_ h1_ h2_ => by have z0_ := HL1.out; have z1_ := HL2.out; have z2_ := HL3.out; have z3_ := HL4.out; have z4_ := HL5.out; omega)); have no4_ := Aside0.mk (Kd.R_kept HO4.out hkp (fun k_ h1_ h2_ => by have z0_ := HL1.out; have z1_ := HL2.out; have z2_ := HL3.out; have z3_ := HL4.out; have z4_ := HL5.out; omega)); have no5_ := Aside0.mk (Kd.S_kept HO5.out hkp (fun k_ h1_ h2_ => by have z0_ := HL1.out; have z1_ := HL2.out; have z2_ := HL3.out; have z3_ := HL4.out; have z4_ := HL5.out; omega)); have ny3_ := Aside0.mk (hy0); have nb_ := Aside0.mk hb; have nN_ := Aside0.mk (Nat.le_trans HN.out hkp.1); clear hy0 hb hkp HB HN; have HB := nb_; have HN := nN_; clear nb_ nN_; clear HO1; have HO1 := no1_; clear no1_; clear HO2; have HO2 := no2_; clear no2_; clear HO4; have HO4 := no4_; clear no4_; clear HO5; have HO5 := no5_; clear no5_; clear HO3; have HO3 := ny3_; clear ny3_; have hl_ := (Kd.S_reads' HO3.out).1; rw [hl_] at HO3; (try rw [hl_]); clear hl_) | (go_at_call 11; (with_reducible refine (laws_eqIntS.calls k _ _ t16 _ _ t8 true _ ?side1 ?side2 ?side3 ?side4 A_33.out).mono ?_); (case side1 => exact (Kd.R_reads' HO4.out).2.2); (case side2 => exact (Kd.R_reads' HO4.out).2.1); (case side3 => exact (Kd.R_reads' HO2.out).2.2); (case side4 => exact (Kd.R_reads' HO2.out).2.1); rintro e w35 ⟨rfl, hd_⟩; have hb := drawn_below_ hd_; clear hd_; have no1_ := Aside0.mk (Kd.S_below HO1.out hb); have no2_ := Aside0.mk (Kd.R_below HO2.out hb); have no3_ := Aside0.mk (Kd.S_below HO3.out hb); have no4_ := Aside0.mk (Kd.R_below HO4.out hb); have no5_ := Aside0.mk (Kd.S_below HO5.out hb); have nb_ := Aside0.mk (below_step HB.out hb); have nN_ := Aside0.mk (Nat.le_trans HN.out hb.size); clear HB HN hb; have HB := nb_; have HN := nN_; clear nb_ nN_; clear HO1; have HO1 := no1_; clear no1_; clear HO2; have HO2 := no2_; clear no2_; clear HO3; have HO3 := no3_; clear no3_; clear HO4; have HO4 := no4_; clear no4_; clear HO5; have HO5 := no5_; clear no5_) | ((with_reducible refine gate_callee (f := 14) rfl ?_); refine goesL_ (some 83) rfl rfl Try.func14 (by kernel_rfl) rfl #[.slice Ao4 t16.length co4, .int .i64 1] rfl (by (try simp only [List.map_toArray, List.map_cons, List.map_nil]); first | done | rfl) ?_; (with_reducible refine (laws_markIntS.calls k (fun k_ => N3_ ≤ k_ ∧ k_ < N4_) (.slice Ao4 t16.length co4) t16 (1) t37 t38 w _ ?side0 ?side1 A_36.out).mono ?_); (case side0 => exact HB.out); (case side1 => exact HO4.out); rintro e w39 ⟨rfl, hy0, hb, hkp⟩; refine ⟨_, rfl, ?_⟩; have no1_ := Aside0.mk (Kd.S_kept HO1.out hkp (fun k_ h1_ h2_ => by have z0_ := HL1.out; have z1_ := HL2.out; have z2_ := HL3.out; have z3_ := HL4.out; have z4_ := HL5.out; omega)); have no2_ := Aside0.mk (Kd.R_kept HO2.out hkp (fun k_ h1_ h2_ => by have z0_ := HL1.out; have z1_ := HL2.out; have z2_ := HL3.out; have z3_ := HL4.out; have z4_ := HL5.out; omega)); have no3_ := Aside0.mk (Kd.S_kept HO3.out hkp (fun k_ h1_ h2_ => by have z0_ := HL1.out; have z1_ := HL2.out; have z2_ := HL3.out; have z3_ := HL4.out; have z4_ := HL5.out; omega)); have no5_ := Aside0.mk (Kd.S_kept HO5.out hkp (fun k_ h1_ h2_ => by have z0_ := HL1.out; have z1_ := HL2.out; have z2_ := HL3.out; have z3_ := HL4.out; have z4_ := HL5.out; omega)); have ny4_ := Aside0.mk (Kd.R_reok rfl hy0 (fun k_ e_ => HO4.out.1 k_ e_)); have nb_ := Aside0.mk hb; have nN_ := Aside0.mk (Nat.le_trans HN.out hkp.1); clear hy0 hb hkp HB HN; have HB := nb_; have HN := nN_; clear nb_ nN_; clear HO1; have HO1 := no1_; clear no1_; clear HO2; have HO2 := no2_; clear no2_; clear HO3; have HO3 := no3_; clear no3_; clear HO5; have HO5 := no5_; clear no5_; clear HO4; have HO4 := ny4_; clear ny4_; have hl_ := (Kd.R_reads' HO4.out).1; rw [hl_] at HO4; (try rw [hl_]); clear hl_) | ((with_reducible refine gate_callee (f := 15) rfl ?_); refine goesL_ (some 86) rfl rfl Try.func15 (by kernel_rfl) rfl #[.slice Ao4 t38.length co4, .int .i64 1] rfl (by (try simp only [List.map_toArray, List.map_cons, List.map_nil]); first | done | rfl) ?_; (with_reducible refine (laws_heldIntS.calls k _ _ t38 (1) t41 _ ?side1 ?side2 A_40.out).mono ?_); (case side1 => exact (Kd.R_reads' HO4.out).2.2); (case side2 => exact (Kd.R_reads' HO4.out).2.1); rintro e w42 ⟨rfl, hd_⟩; refine ⟨_, rfl, ?_⟩; have hb := drawn_below_ hd_; clear hd_; have no1_ := Aside0.mk (Kd.S_below HO1.out hb); have no2_ := Aside0.mk (Kd.R_below HO2.out hb); have no3_ := Aside0.mk (Kd.S_below HO3.out hb); have no4_ := Aside0.mk (Kd.R_below HO4.out hb); have no5_ := Aside0.mk (Kd.S_below HO5.out hb); have nb_ := Aside0.mk (below_step HB.out hb); have nN_ := Aside0.mk (Nat.le_trans HN.out hb.size); clear HB HN hb; have HB := nb_; have HN := nN_; clear nb_ nN_; clear HO1; have HO1 := no1_; clear no1_; clear HO2; have HO2 := no2_; clear no2_; clear HO3; have HO3 := no3_; clear no3_; clear HO4; have HO4 := no4_; clear no4_; clear HO5; have HO5 := no5_; clear no5_) | ((with_reducible refine gate_callee (f := 9) rfl ?_); refine goesL_ (some 94) rfl rfl Try.func9 (by kernel_rfl) rfl #[.slice A0 l0.length c0] rfl (by (try simp only [List.map_toArray, List.map_cons, List.map_nil]); first | done | rfl) ?_; (with_reducible refine (laws_toIntSS.calls k _ _ l0 t44 _ ?side1 ?side2 A_43.out).mono ?_); (case side1 => exact (Kd.C_below HR0.out HB.out)); (case side2 => exact HC0.out); rintro e w45 ⟨v6_, rfl, ho6_, hb⟩; refine ⟨_, rfl, ?_⟩; have no1_ := Aside0.mk (Kd.S_below HO1.out hb); have no2_ := Aside0.mk (Kd.R_below HO2.out hb); have no3_ := Aside0.mk (Kd.S_below HO3.out hb); have no4_ := Aside0.mk (Kd.R_below HO4.out hb); have no5_ := Aside0.mk (Kd.S_below HO5.out hb); obtain ⟨N6_, hN_⟩ : ∃ n, n = w45.heap.size := ⟨_, rfl⟩; have nn6_ := Aside0.mk (iv_S_ ho6_ HN.out (below_size HB.out) hN_); have HL6 := Aside0.mk (show N5_ ≤ N6_ from by rw [hN_]; exact Nat.le_trans HN.out hb.size); have nN_ := Aside0.mk (show N6_ ≤ w45.heap.size from by rw [hN_]; exact Nat.le_refl _); have nb_ := Aside0.mk (below_step HB.out hb); clear hN_ ho6_ hb HB HN; have HB := nb_; have HN := nN_; clear nb_ nN_; clear HO1; have HO1 := no1_; clear no1_; clear HO2; have HO2 := no2_; clear no2_; clear HO3; have HO3 := no3_; clear no3_; clear HO4; have HO4 := no4_; clear no4_; clear HO5; have HO5 := no5_; clear no5_; have HO6 := nn6_; clear nn6_; obtain ⟨Ao6, co6, eo_⟩ := Kd.S_slice HO6.out; subst eo_) | ((with_reducible refine gate_callee (f := 10) rfl ?_); refine goesL_ (some 96) rfl rfl Try.func10 (by kernel_rfl) rfl #[.slice Ao6 t44.length co6, .int .i64 a1] rfl (by (try simp only [List.map_toArray, List.map_cons, List.map_nil]); first | done | rfl) ?_; (with_reducible refine (impl_FewestCrossings.calls k _ _ t44 (a1) t47 t48 t10 _ ?side1 ?side2 A_46.out).mono ?_); (case side1 => exact (Kd.S_reads' HO6.out).2.2); (case side2 => exact (Kd.S_reads' HO6.out).2.1); rintro e w50 ⟨v7_, rfl, ho7_, hb⟩; refine ⟨_, rfl, ?_⟩; have no1_ := Aside0.mk (Kd.S_below HO1.out hb); have no2_ := Aside0.mk (Kd.R_below HO2.out hb); have no3_ := Aside0.mk (Kd.S_below HO3.out hb); have no4_ := Aside0.mk (Kd.R_below HO4.out hb); have no5_ := Aside0.mk (Kd.S_below HO5.out hb); have no6_ := Aside0.mk (Kd.S_below HO6.out hb); obtain ⟨N7_, hN_⟩ : ∃ n, n = w50.heap.size := ⟨_, rfl⟩; have nn7_ := Aside0.mk (iv_R_ ho7_ HN.out (below_size HB.out) hN_); have HL7 := Aside0.mk (show N6_ ≤ N7_ from by rw [hN_]; exact Nat.le_trans HN.out hb.size); have nN_ := Aside0.mk (show N7_ ≤ w50.heap.size from by rw [hN_]; exact Nat.le_refl _); have nb_ := Aside0.mk (below_step HB.out hb); clear hN_ ho7_ hb HB HN; have HB := nb_; have HN := nN_; clear nb_ nN_; clear HO1; have HO1 := no1_; clear no1_; clear HO2; have HO2 := no2_; clear no2_; clear HO3; have HO3 := no3_; clear no3_; clear HO4; have HO4 := no4_; clear no4_; clear HO5; have HO5 := no5_; clear no5_; clear HO6; have HO6 := no6_; clear no6_; have HO7 := nn7_; clear nn7_; obtain ⟨Ao7, co7, eo_⟩ := Kd.R_slice HO7.out; subst eo_) | ((with_reducible refine gate_callee (f := 11) rfl ?_); refine goesL_ (some 102) rfl rfl Try.func11 (by kernel_rfl) rfl #[.slice Ao7 t47.length co7, .slice Ao2 t8.length co2] rfl (by (try simp only [List.map_toArray, List.map_cons, List.map_nil]); first | done | rfl) ?_; (with_reducible refine (laws_eqIntS.calls k _ _ t47 _ _ t8 true _ ?side1 ?side2 ?side3 ?side4 A_51.out).mono ?_); (case side1 => exact (Kd.R_reads' HO7.out).2.2); (case side2 => exact (Kd.R_reads' HO7.out).2.1); (case side3 => exact (Kd.R_reads' HO2.out).2.2); (case side4 => exact (Kd.R_reads' HO2.out).2.1); rintro e w53 ⟨rfl, hd_⟩; refine ⟨_, rfl, ?_⟩; have hb := drawn_below_ hd_; clear hd_; have no1_ := Aside0.mk (Kd.S_below HO1.out hb); have no2_ := Aside0.mk (Kd.R_below HO2.out hb); have no3_ := Aside0.mk (Kd.S_below HO3.out hb); have no4_ := Aside0.mk (Kd.R_below HO4.out hb); have no5_ := Aside0.mk (Kd.S_below HO5.out hb); have no6_ := Aside0.mk (Kd.S_below HO6.out hb); have no7_ := Aside0.mk (Kd.R_below HO7.out hb); have nb_ := Aside0.mk (below_step HB.out hb); have nN_ := Aside0.mk (Nat.le_trans HN.out hb.size); clear HB HN hb; have HB := nb_; have HN := nN_; clear nb_ nN_; clear HO1; have HO1 := no1_; clear no1_; clear HO2; have HO2 := no2_; clear no2_; clear HO3; have HO3 := no3_; clear no3_; clear HO4; have HO4 := no4_; clear no4_; clear HO5; have HO5 := no5_; clear no5_; clear HO6; have HO6 := no6_; clear no6_; clear HO7; have HO7 := no7_; clear no7_) | ((with_reducible refine gate_callee (f := 15) rfl ?_); refine goesL_ (some 116) rfl rfl Try.func15 (by kernel_rfl) rfl #[.slice Ao4 t38.length co4, .int .i64 1] rfl (by (try simp only [List.map_toArray, List.map_cons, List.map_nil]); first | done | rfl) ?_; (with_reducible refine (laws_heldIntS.calls k _ _ t38 (1) t55 _ ?side1 ?side2 A_54.out).mono ?_); (case side1 => exact (Kd.R_reads' HO4.out).2.2); (case side2 => exact (Kd.R_reads' HO4.out).2.1); rintro e w56 ⟨rfl, hd_⟩; refine ⟨_, rfl, ?_⟩; have hb := drawn_below_ hd_; clear hd_; have no1_ := Aside0.mk (Kd.S_below HO1.out hb); have no2_ := Aside0.mk (Kd.R_below HO2.out hb); have no3_ := Aside0.mk (Kd.S_below HO3.out hb); have no4_ := Aside0.mk (Kd.R_below HO4.out hb); have no5_ := Aside0.mk (Kd.S_below HO5.out hb); have no6_ := Aside0.mk (Kd.S_below HO6.out hb); have no7_ := Aside0.mk (Kd.R_below HO7.out hb); have nb_ := Aside0.mk (below_step HB.out hb); have nN_ := Aside0.mk (Nat.le_trans HN.out hb.size); clear HB HN hb; have HB := nb_; have HN := nN_; clear nb_ nN_; clear HO1; have HO1 := no1_; clear no1_; clear HO2; have HO2 := no2_; clear no2_; clear HO3; have HO3 := no3_; clear no3_; clear HO4; have HO4 := no4_; clear no4_; clear HO5; have HO5 := no5_; clear no5_; clear HO6; have HO6 := no6_; clear no6_; clear HO7; have HO7 := no7_; clear no7_))
  go_ret
  exact ⟨by first | rfl | (simp; done) | (simp [*]; done), HB.out⟩
end Go.Proofs.Yteefbjkhheghkaa.QFnExactFewestCrossings
