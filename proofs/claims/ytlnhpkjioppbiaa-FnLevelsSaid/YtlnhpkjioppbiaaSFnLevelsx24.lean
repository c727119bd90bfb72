/- Functions of FnLevels, each as a Lean function, with the proof that the Go code comes to its answers. -/
import Derived.Test.YtlnhpkjioppbiaaSFnLevelsx1
import Derived.Test.YtlnhpkjioppbiaaSFnLevelsx11
import Derived.Test.YtlnhpkjioppbiaaSFnLevelsx23
namespace Go.Proofs.Ytlnhpkjioppbiaa.QFnLevels
open Go.RowKit Go.Proofs.YtlnhpkjioppbiaaW.PrintWords Go.Proofs.YtlnhpkjioppbiaaW.PrintLast Go.Proofs.YtlnhpkjioppbiaaW.PrintMore
open Go.Proofs.YtlnhpkjioppbiaaW.PrintWords renaming pw_below_drewN → pN, below_drew1 → p1, below_alloc → pA
open Go.Proofs.YtlnhpkjioppbiaaW.PrintWords.Kd renaming R_alloc → kA, R_drewN → kN, R_drew → kD, Q_alloc → qA, Q_drewN → qN, Q_drew → qD, C_alloc → cA, C_drewN → cN, C_drew → cD
open Go.Proofs.YtlnhpkjioppbiaaW.PrintWords.Aside0 renaming mk → aM
open List renaming setIfInBounds_toArray → sI, set_cons_zero → s0, set_cons_succ → sS, map_toArray → mT, length_take → lT, length_drop → lD, map_cons → mC, map_nil → mN
open Option renaming bind_eq_some_iff → oB, bind_some → oS
attribute [local go_sem] max2_int min2_int max_two min_two max_three min_three max_four min_four
set_option maxHeartbeats 8000000
set_option maxRecDepth 100000
set_option linter.unusedVariables false
set_option linter.unusedSimpArgs false
mutual
def impl_MovePoints.j0 : Nat → List (List Int) → List Int → Bool → Option ((List (List Int)) × Bool)
 | 0, _, _, _ => none
 | k + 1, x0, x2, x20 => if x20 = true then (some (([] : List (List Int)), false)) else (impl_MovePoints.l0 k x2 (([] : List (List Int))) x0 (x0.length : Int) 0)
def impl_MovePoints.l0 : Nat → List Int → List (List Int) → List (List Int) → Int → Int → Option ((List (List Int)) × Bool)
 | 0, _, _, _, _, _ => none
 | k + 1, x2, x8, x22, x23, x24 => if x24 < x23 then (if 0 ≤ x24 then (if x24 < (x22.length : Int) then (if 0 < ((rd_L4 x22 x24).length : Int) then (if 1 < ((rd_L4 x22 x24).length : Int) then (if 0 ≤ (rd (rd_L4 x22 x24) 1) then (if (rd (rd_L4 x22 x24) 1) < (x2.length : Int) then (if x8.length < 5864062014805 then (impl_MovePoints.l0 k x2 (x8 ++ [(([rd (rd_L4 x22 x24) 0, rd x2 (rd (rd_L4 x22 x24) 1)] : List Int))]) x22 x23 (wrap64 (x24 + 1))) else (none)) else (none)) else (none)) else (none)) else (none)) else (none)) else (none)) else (some (x8, true))
end
def impl_MovePoints.f (k : Nat) (l0 : List (List Int)) (a1 : Int) (l2 : List Int) : Option ((List (List Int)) × Bool) := (impl_AreLevelWires.f k l0 a1).bind fun t404 => (if t404 = true then ((impl_isOrder.f k l2 a1).bind fun t405 => (impl_MovePoints.j0 k l0 l2 (!t405))) else (impl_MovePoints.j0 k l0 l2 true))
def impl_MovePoints.T7 : Bool × List (List Nat × List Nat) := (true, [([], []), ([], []), ([1], [1]), ([2], [2]), ([], []), ([], []), ([5], [5]), ([6], [6]), ([4, 7], [4, 7]), ([8], [8]), ([3, 9], [3, 9]), ([10], [10]), ([0, 11], [0, 11]), ([12, 12, 0, 1, 2, 3, 4, 5, 6, 7, 8, 9, 10, 11, 12], [0, 12])])
def impl_MovePoints.B7 : List Nat := [0, 0, 2, 6, 0, 0, 32, 96, 240, 496, 1022, 2046, 4095, 8191]
theorem impl_MovePoints.tab7 : rtab .any (opsOf Try.f49 7) = impl_MovePoints.T7 := by kernel_rfl
theorem impl_MovePoints.bits7 : waitsOk impl_MovePoints.T7.2 impl_MovePoints.B7 = true := by kernel_rfl
theorem impl_MovePoints.calls (k : Nat) (A0 : Option Addr) (c0 : Nat) (l0 : List (List Int)) (a1 : Int) (A2 : Option Addr) (c2 : Nat) (l2 : List Int) (r1 : List (List Int)) (r2 : Bool) (w : World) (hr0 : Kd.C (Kd.slice 3 (Kd.int .i64)) w A0 l0.length l0) (hc0 : l0.length ≤ c0) (hr2 : Kd.C (Kd.int .i64) w A2 l2.length l2) (hc2 : l2.length ≤ c2) (h : impl_MovePoints.f k l0 a1 l2 = some (r1, r2)) :
  Calls Try.prog 49 #[.slice A0 l0.length c0, .int .i64 a1, .slice A2 l2.length c2] w fun e w' => ∃ v0_ : Value, e = .returned (.tuple #[v0_, .bool r2]) ∧ Kd.S (Kd.slice 3 (Kd.int .i64)) 39 w' w.heap.size (fun _ => True) v0_ r1 ∧ Below w.heap.size w w' := by
 have HR0 := aM hr0
 have HC0 := aM hc0
 clear hr0 hc0
 have HR2 := aM hr2
 have HC2 := aM hc2
 clear hr2 hc2
 have HB := aM (Below.refl w.heap.size w)
 have H : ((impl_AreLevelWires.f k l0 a1).bind fun t404 => (if t404 = true then ((impl_isOrder.f k l2 a1).bind fun t405 => (impl_MovePoints.j0 k l0 l2 (!t405))) else (impl_MovePoints.j0 k l0 l2 true))) = some (r1, r2) := h
 clear h
 have HC4 := aM H
 clear H
 go_enter Try.func49, Try.ntmps49
 go_upto_region 1 with (fail)
 go_cut [20] (fun v20 wc => ∃ (kq : Nat) (x20_3 : Bool), v20 = .bool x20_3 ∧ Aside0 (impl_MovePoints.j0 kq l0 l2 x20_3 = some (r1, r2)) ∧ Aside0 (kq ≤ k) ∧ Aside0 (Below w.heap.size w wc))
 case first =>
  have H := HC4.out; clear HC4; replace H := oB.mp H; obtain ⟨t404, A50, H⟩ := H; replace H : (if t404 = true then ((impl_isOrder.f k l2 a1).bind fun t405 => (impl_MovePoints.j0 k l0 l2 (!t405))) else (impl_MovePoints.j0 k l0 l2 true)) = some (r1, r2) := H; have A5 := aM A50; clear A50
  by_cases c6 : t404 = true
  ·subst c6
   have H1 : ((impl_isOrder.f k l2 a1).bind fun t405 => (impl_MovePoints.j0 k l0 l2 (!t405))) = some (r1, r2) := by rw [if_pos rfl] at H; exact H
   clear H; have H := H1; clear H1; replace H := oB.mp H; obtain ⟨t405, A70, H⟩ := H; replace H : (impl_MovePoints.j0 k l0 l2 (!t405)) = some (r1, r2) := H; have A7 := aM A70; clear A70; have H' := aM H; clear H
   go_wp2_with (first | ((with_reducible refine gate_callee (f := 48) rfl ?_); refine goesL_ (some 13) rfl rfl Try.func48 (by kernel_rfl) rfl #[.slice A0 l0.length c0, .int .i64 a1] rfl zf_ ?_; (with_reducible refine (impl_AreLevelWires.calls k _ _ l0 a1 true _ ?side1 ?side2 A5.out).mono ?_); (case side1 => exact zia_); (case side2 => exact HC0.out); rintro e w' ⟨rfl, ⟨nd, rfl⟩⟩; refine ⟨_, rfl, ?_⟩) | (go_at_call 79; (with_reducible refine (impl_isOrder.calls k _ _ l2 a1 t405 _ ?side1 ?side2 A7.out).mono ?_); (case side1 => repeat (first | exact (Kd.C_below HR2.out zb_) | (with_reducible refine cA ?_ _) | (with_reducible refine cN ?_ _) | (with_reducible refine cD ?_))); (case side2 => exact HC2.out); rintro e w8 ⟨rfl, hb⟩; have n0_ := aM (below_step zb_ hb); clear HB; have HB := n0_; clear n0_; clear hb))
   go_meet
   case rel => exact ⟨_, (!t405), zc_, H', ⟨zdb_⟩, ⟨zb_⟩⟩
  ·replace c6 := Bool.eq_false_iff.mpr c6
   subst c6; have H1 : (impl_MovePoints.j0 k l0 l2 true) = some (r1, r2) := by rw [if_neg (show ¬ (false = true) by decide)] at H; exact H
   clear H; have H := H1; clear H1; have H' := aM H; clear H
   go_wp2_with (first | ((with_reducible refine gate_callee (f := 48) rfl ?_); refine goesL_ (some 13) rfl rfl Try.func48 (by kernel_rfl) rfl #[.slice A0 l0.length c0, .int .i64 a1] rfl zf_ ?_; (with_reducible refine (impl_AreLevelWires.calls k _ _ l0 a1 false _ ?side1 ?side2 A5.out).mono ?_); (case side1 => exact zia_); (case side2 => exact HC0.out); rintro e w' ⟨rfl, ⟨nd, rfl⟩⟩; refine ⟨_, rfl, ?_⟩))
   go_meet
   case rel => exact ⟨_, (true), zc_, H', ⟨zdb_⟩, ⟨zb_⟩⟩
 case rest =>
  clear HC4; obtain ⟨kq, x20_3, rfl, HA, HJ3, HB⟩ := hcut
  cases kq with
  | zero => exact absurd HA.out (by simp [impl_MovePoints.j0])
  | succ kj3 =>
   have H := HA.out; clear HA
   simp only [impl_MovePoints.j0] at H
   by_cases c9 : x20_3 = true
   ·subst c9
    have H1 : (some (([] : List (List Int)), false)) = some (r1, r2) := by rw [if_pos rfl] at H; exact H
    clear H; have H := H1; clear H1
    simp only [Option.some.injEq, Prod.mk.injEq] at H
    obtain ⟨rfl, rfl⟩ := H
    go_wp2
    go_ret2
    exact ⟨_, zh_, zfh_, zb_⟩
   ·replace c9 := Bool.eq_false_iff.mpr c9
    subst c9; have H1 : (impl_MovePoints.l0 kj3 l2 (([] : List (List Int))) l0 (l0.length : Int) 0) = some (r1, r2) := by rw [if_neg (show ¬ (false = true) by decide)] at H; exact H
    clear H; have H := H1; clear H1; obtain ⟨y406, hy406⟩ : ∃ y_ : List (List Int), y_ = (([] : List (List Int))) := ⟨_, rfl⟩; replace H : (impl_MovePoints.l0 kj3 l2 y406 l0 (l0.length : Int) 0) = some (r1, r2) := q3y_ hy406 H
    have Ny406 := aM hy406; clear hy406; have H' := aM H; clear H
    go_wp2_with (first | ((with_reducible refine gate_dst (N := 21) rfl ?_); refine Kd.S_lit (Kd.slice 3 (Kd.int .i64)) _ 39 ?hg (N := 21) ?hd (xs := ([] : List (List Int))) (inner := []) (ok := fun _ => True) (okp := fun _ => True) ?hr ?hp (fun _ hk => hk) trivial (Below.refl _ _) (Nat.le_refl _) (by simp) ?_; (case hd => rfl); (case hg => rfl); (case hr => exact zd_); (case hp => exact (Reps.none _ _)); intro v407 w10 ho11 hb hg_ hnew_; clear hg_ hnew_; (first | rw [← Ny406.out] at ho11 | (simp only [Int.reduceToNat] at ho11; rw [← Ny406.out] at ho11)); have n_ := z (Kd.S_lower ho11 (below_size zb_)) <| z1 (below_step zb_ hb); clear HB; obtain ⟨HO408, HB⟩ := n_; clear hb ho11))
    go_loopg [8, 24] kj3 (fun kq v8 v24 w' => ∃ (x8_2 : List (List Int)) (x24_2 : Int), v24 = .int .i64 x24_2 ∧ Aside0 (impl_MovePoints.l0 kq l2 x8_2 l0 (l0.length : Int) x24_2 = some (r1, r2)) ∧ Aside0 (kq ≤ kj3) ∧ Aside0 (Kd.S (Kd.slice 3 (Kd.int .i64)) 39 w' w.heap.size (fun _ => True) v8 x8_2) ∧ Aside0 (Below w.heap.size w w'))
    case atStart => exact ⟨(y406), (0), zc_, H', ⟨Nat.le_refl _⟩, ⟨zs HO408.out⟩, ⟨zb_⟩⟩
    case round =>
     clear H'; obtain ⟨x8_2, x24_2, rfl, HA, HK2, HO_8, HB⟩ := hrel
     cases gk with
     | zero => exact absurd HA.out (by simp [impl_MovePoints.l0])
     | succ k2 =>
      have H := HA.out; clear HA
      simp only [impl_MovePoints.l0] at H
      by_cases c12 : x24_2 < (l0.length : Int)
      ·rw [if_pos c12] at H
       have c12b0 := decide_eq_true c12; clear c12
       by_cases c13 : 0 ≤ x24_2
       ·rw [if_pos c13] at H
        have c13b0 := decide_eq_true c13; clear c13
        by_cases c14 : x24_2 < (l0.length : Int)
        ·rw [if_pos c14] at H
         have c14b0 := decide_eq_true c14; clear c14
         by_cases c15 : 0 < ((rd_L4 l0 x24_2).length : Int)
         ·rw [if_pos c15] at H
          have c15b0 := decide_eq_true c15; have c15b1 : decide (0 < (rd_L4 l0 x24_2).length) = true := decide_eq_true (by omega); clear c15
          by_cases c16 : 1 < ((rd_L4 l0 x24_2).length : Int)
          ·rw [if_pos c16] at H
           have c16b0 := decide_eq_true c16; have c16b1 : decide (1 < (rd_L4 l0 x24_2).length) = true := decide_eq_true (by omega); clear c16
           by_cases c17 : 0 ≤ (rd (rd_L4 l0 x24_2) 1)
           ·rw [if_pos c17] at H
            have c17b0 := decide_eq_true c17; clear c17
            by_cases c18 : (rd (rd_L4 l0 x24_2) 1) < (l2.length : Int)
            ·rw [if_pos c18] at H
             have c18b0 := decide_eq_true c18; clear c18; obtain ⟨y413, hy413⟩ : ∃ y_ : List Int, y_ = (([rd (rd_L4 l0 x24_2) 0, rd l2 (rd (rd_L4 l0 x24_2) 1)] : List Int)) := ⟨_, rfl⟩; replace H : (if x8_2.length < 5864062014805 then (impl_MovePoints.l0 k2 l2 (x8_2 ++ [y413]) l0 (l0.length : Int) (wrap64 (x24_2 + 1))) else (none)) = some (r1, r2) := q3y_ hy413 H
             have Ny413 := aM hy413; clear hy413
             by_cases c19 : x8_2.length < 5864062014805
             ·rw [if_pos c19] at H
              have LMc19 := aM c19; clear c19; obtain ⟨y416, hy416⟩ : ∃ y_ : List (List Int), y_ = (x8_2 ++ [y413]) := ⟨_, rfl⟩; replace H : (impl_MovePoints.l0 k2 l2 y416 l0 (l0.length : Int) (wrap64 (x24_2 + 1))) = some (r1, r2) := q3y_ hy416 H
              have Ny416 := aM hy416; clear hy416; have H' := aM H; clear H; have p409 : 0 ≤ (x24_2 : Int) := of_decide_eq_true za_; have q409 : x24_2 < (l0.length : Int) := of_decide_eq_true za_; obtain ⟨ad409, A409_0, c409_0, e409, hx409_0, hl409_0, hi409_0⟩ := at_L4 HR0.out x24_2 p409 q409
              cases e409
              (try (replace hx409_0 := q3h_ HB.out hx409_0)); have HR409_0 := aM hi409_0; have HC409_0 := aM hl409_0; clear hi409_0 hl409_0; replace p409 := eq_true p409; replace q409 := eq_true q409; (try go_wp2); have n_ := z (Kd.S_drew HO_8.out) <| z1 (p1 HB.out)
              clear HO_8 HB; obtain ⟨HO_8, HB⟩ := n_; have p410 : 0 ≤ (0 : Int) := (by omega); have q410 : 0 < ((rd_L4 l0 x24_2).length : Int) := of_decide_eq_true za_; obtain ⟨ad410, e410, hx410_0⟩ := Kd.at_int HR409_0.out 0 p410 q410; have hw410_0 := hx410_0; (try rw [show ((0 : Int)).toNat = 0 from rfl] at hw410_0); (try rw [show 0 * 1 = 0 from rfl] at hw410_0); (try rw [Addr.add_zero'] at hw410_0)
              cases e410
              have qi410 : (0 < (rd_L4 l0 x24_2).length) = True := eq_true (by omega); (try rw [show ((0 : Int)).toNat = 0 from rfl] at hx410_0); (try rw [Addr.add_zero'] at hx410_0); (try (replace hx410_0 := q3h_ HB.out hx410_0)); replace p410 := eq_true p410; replace q410 := eq_true q410; have p411 : 0 ≤ (1 : Int) := (by omega); have q411 : 1 < ((rd_L4 l0 x24_2).length : Int) := of_decide_eq_true za_; obtain ⟨ad411, e411, hx411_0⟩ := Kd.at_int HR409_0.out 1 p411 q411; have hw411_0 := hx411_0; (try rw [show ((1 : Int)).toNat = 1 from rfl] at hw411_0); (try rw [show 1 * 1 = 1 from rfl] at hw411_0); (try simp only [Nat.reduceMul, Nat.reduceEqDiff, Go.Addr.add, ↓reduceIte] at hw411_0); obtain rfl : ad410 = ad411 := (by injection e411); (try simp only [show (1 : Int).toNat = 1 from rfl, Nat.reduceMul, Nat.reduceEqDiff, Go.Addr.add, ↓reduceIte] at hx411_0); have qi411 : (1 < (rd_L4 l0 x24_2).length) = True := eq_true (by omega); (try rw [show ((1 : Int)).toNat = 1 from rfl] at hx411_0); (try (replace hx411_0 := q3h_ HB.out hx411_0)); replace p411 := eq_true p411; replace q411 := eq_true q411; have p412 : 0 ≤ ((rd (rd_L4 l0 x24_2) 1) : Int) := of_decide_eq_true za_; have q412 : (rd (rd_L4 l0 x24_2) 1) < (l2.length : Int) := of_decide_eq_true za_; obtain ⟨ad412, e412, hx412_0⟩ := Kd.at_int HR2.out (rd (rd_L4 l0 x24_2) 1) p412 q412; have hw412_0 := hx412_0
              cases e412
              (try (replace hx412_0 := q3h_ HB.out hx412_0)); replace p412 := eq_true p412; replace q412 := eq_true q412
              refine start_ (n := 14) (S := fun w' => w'.cell? ad410 = some (.int .i64 (rd (rd_L4 l0 x24_2) 0)) ∧ w'.cell? ⟨ad410.block, ad410.off + 1, none⟩ = some (.int .i64 (rd (rd_L4 l0 x24_2) 1)) ∧ w'.cell? (ad412.add ((rd (rd_L4 l0 x24_2) 1)).toNat) = some (.int .i64 (rd l2 (rd (rd_L4 l0 x24_2) 1)))) (ds := []) #[fi,fi,fi,fi,fi,fi,fi,fi,fi,fi,fi,fi,fi,fi] (by kernel_rfl) rfl rfl ⟨((HB.out.cell (World.block_lt_of_cell? w _ hw410_0)).trans hw410_0), ((HB.out.cell (World.block_lt_of_cell? w _ hw411_0)).trans hw411_0), ((HB.out.cell (World.block_lt_of_cell? w _ hw412_0)).trans hw412_0)⟩ (fun hHeld => ?_); refine with_tabW impl_MovePoints.tab7 impl_MovePoints.bits7 (fun HT_ HW_ => ?_)
              generalize wr.drew = w20 at HO_8 HB hx410_0 hx411_0 hx412_0 hHeld ⊢; refine py_ 0 28 HT_.out ?_; refine py_ 1 29 HT_.out ?_; refine py_ 2 30 HT_.out ?_; refine py_ 4 32 HT_.out ?_; refine py_ 5 33 HT_.out ?_; refine py_ 6 34 HT_.out ?_
              refine tw3_ 3 31 HT_.out HW_.out hHeld ?_
              refine tw3_ 7 35 HT_.out HW_.out hHeld ?_
              refine py_ 8 36 HT_.out ?_
              refine tw3_ 9 37 HT_.out HW_.out hHeld ?_
              refine one_ (i := 10) (N := some 38) #[ti,ti,ti,ti,ti,ti,ti,ti,ti,ti,ti,fi,fi,fi] rfl rfl (one_of HT_.out (by kernel_rfl)) (by decide) (fun K hK => ?_)
              refine Kd.R_lit_step (Kd.int .i64) _ 3 ?hg (N := 38) ?hd (xs := ([rd (rd_L4 l0 x24_2) 0, rd l2 (rd (rd_L4 l0 x24_2) 1)] : List Int)) (inner := [.int .i64 (rd (rd_L4 l0 x24_2) 0), .int .i64 (rd l2 (rd (rd_L4 l0 x24_2) 1))]) (ok := fun _ => True) (okp := fun _ => True) ?hr ?hp (fun _ hk => hk) trivial (Below.refl _ _) (Nat.le_refl _) (by simp) ?_; (case hd => rfl); (case hg => rfl); (case hr => exact zd_); (case hp => exact (Reps.one (show Kd.M (Kd.int .i64) _ _ _ (rd (rd_L4 l0 x24_2) 0) [.int .i64 (rd (rd_L4 l0 x24_2) 0)] from rfl) (Reps.one (show Kd.M (Kd.int .i64) _ _ _ (rd l2 (rd (rd_L4 l0 x24_2) 1)) [.int .i64 (rd l2 (rd (rd_L4 l0 x24_2) 1))] from rfl) (Reps.none _ _))))
              intro v414 w21 ho22 hb hg_ hnew_
              clear hg_ hnew_; (first | rw [← Ny413.out] at ho22 | (simp only [Int.reduceToNat] at ho22; rw [← Ny413.out] at ho22)); have n_ := z (Kd.S_elder' (zs HO_8.out) (Kd.R_base ho22) hb) <| z (Kd.R_lower ho22 (below_size zb_)) <| z1 (below_step zb_ hb)
              clear HO_8 HB; obtain ⟨HO_8, HO415, HB⟩ := n_; clear hb ho22; obtain ⟨Ao24, co24, eo24⟩ := Kd.R_slice HO415.out; (first | subst eo24 | (injection eo24 with f1_ f2_ f3_; have f4_ := f1_.symm; have f5_ := f3_.symm; clear f1_ f2_ f3_; subst f4_; subst f5_))
              refine hK.out _ _ ⟨((HB.out.cell (World.block_lt_of_cell? w _ hw410_0)).trans hw410_0), ((HB.out.cell (World.block_lt_of_cell? w _ hw411_0)).trans hw411_0), ((HB.out.cell (World.block_lt_of_cell? w _ hw412_0)).trans hw412_0)⟩ (fun hHeld => ?_)
              clear hK K
              refine nz_ 38 ?_
              refine one_ (i := 11) (N := some 39) #[ti,ti,ti,ti,ti,ti,ti,ti,ti,ti,ti,ti,fi,fi] rfl rfl (one_of HT_.out (by kernel_rfl)) (by decide) (fun K hK => ?_)
              refine value_ (w1 := ?_) (v := ?_) (by rfl) rfl ?_ ?_
              rotate_left 2
              ·go_simp
               constructor
               ·rfl
               ·rfl
              refine hK.out _ _ ⟨(World.cell?_alloc_lt _ _ _ (World.block_lt_of_cell? _ _ (((HB.out.cell (World.block_lt_of_cell? w _ hw410_0)).trans hw410_0)))).trans (((HB.out.cell (World.block_lt_of_cell? w _ hw410_0)).trans hw410_0)), (World.cell?_alloc_lt _ _ _ (World.block_lt_of_cell? _ _ (((HB.out.cell (World.block_lt_of_cell? w _ hw411_0)).trans hw411_0)))).trans (((HB.out.cell (World.block_lt_of_cell? w _ hw411_0)).trans hw411_0)), (World.cell?_alloc_lt _ _ _ (World.block_lt_of_cell? _ _ (((HB.out.cell (World.block_lt_of_cell? w _ hw412_0)).trans hw412_0)))).trans (((HB.out.cell (World.block_lt_of_cell? w _ hw412_0)).trans hw412_0))⟩ (fun hHeld => ?_)
              clear hK K
              refine nz_ 39 ?_
              refine one_ (i := 12) (N := some 40) #[ti,ti,ti,ti,ti,ti,ti,ti,ti,ti,ti,ti,ti,fi] rfl rfl (one_of HT_.out (by kernel_rfl)) (by decide) (fun K hK => ?_)
              refine Kd.S_append_step (Kd.slice 3 (Kd.int .i64)) (w0 := w) w.heap.size (by rfl) (.tmp 28) (.tmp 39) 63 39 (.slice none 0 0) 24 rfl Try.underlying63 info39 rfl (by decide) (by omega) u8 x8_2 y413 [.slice Ao24 y413.length co24] (fun _ => True) (fun k_ => some k_ = (.slice Ao24 y413.length co24 : Value).ownBlock) rfl rfl ?aP (fun k_ hk_ => ((Kd.R_mono (ok' := fun k_ => ((fun _ => True)) k_ ∧ some k_ ≠ (u8 : Value).ownBlock) (Kd.R_apart' (HO415.out) (Kd.S_typed HO_8.out) (by decide)) (fun k_ hk => ⟨trivial, hk.2⟩))).1 k_ hk_.symm) ?aF ?aO ?aB ?aS ?aL ?_
              (case aP => exact Kd.M_row (Kd.R_mono (Kd.R_tight rfl (Kd.R_mono (ok' := fun k_ => ((fun _ => True)) k_ ∧ some k_ ≠ (u8 : Value).ownBlock) (Kd.R_apart' (HO415.out) (Kd.S_typed HO_8.out) (by decide)) (fun k_ hk => ⟨trivial, hk.2⟩))) (fun _ h_ => h_)))
              (case aB => exact zde_)
              (case aF => exact zcd_)
              (case aO => exact (by refine zs ?_; exact Kd.S_mono HO_8.out (fun k_ hk => ⟨trivial, fun e_ => hk.2 e_⟩)))
              (case aS => exact zdf_)
              (case aL => have := LMc19.out; omega)
              intro v417 w23 ho hb hg hat
              rw [← Ny416.out] at ho; have n_ := z (hb) <| z1 (ho)
              clear HB HO_8 HO415; obtain ⟨HB, HO418⟩ := n_; clear ho hb hg hat
              refine hK.out _ _ ⟨((HB.out.cell (World.block_lt_of_cell? w _ hw410_0)).trans hw410_0), ((HB.out.cell (World.block_lt_of_cell? w _ hw411_0)).trans hw411_0), ((HB.out.cell (World.block_lt_of_cell? w _ hw412_0)).trans hw412_0)⟩ (fun hHeld => ?_)
              clear hK K
              refine nz_ 40 ?_
              refine py_ 13 8 HT_.out ?_
              refine done_ (done_of HT_.out (by kernel_rfl)) ?_
              (try go_wp2)
              go_roundg k2
              case measure => have := HJ3.out; have := HK2.out; omega
              case rel => exact ⟨(y416), (wrap64 (x24_2 + 1)), zc_, H', ⟨by have := HJ3.out; have := HK2.out; omega⟩, ⟨zs HO418.out⟩, ⟨zb_⟩⟩
             ·rw [if_neg c19] at H
              exact q3n_ H
            ·rw [if_neg c18] at H
             exact q3n_ H
           ·rw [if_neg c17] at H
            exact q3n_ H
          ·rw [if_neg c16] at H
           exact q3n_ H
         ·rw [if_neg c15] at H
          exact q3n_ H
        ·rw [if_neg c14] at H
         exact q3n_ H
       ·rw [if_neg c13] at H
        exact q3n_ H
      ·rw [if_neg c12] at H
       have c12b0 := decide_eq_false c12; clear c12
       simp only [Option.some.injEq, Prod.mk.injEq] at H
       obtain ⟨rfl, rfl⟩ := H
       go_wp2
       go_ret2
       exact ⟨_, zh_, by refine zs ?_; exact HO_8.out, zb_⟩
end Go.Proofs.Ytlnhpkjioppbiaa.QFnLevels
