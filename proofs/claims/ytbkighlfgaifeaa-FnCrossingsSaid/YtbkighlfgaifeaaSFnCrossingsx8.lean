/- Functions of FnCrossings, each as a Lean function, with the proof that the Go code comes to its answers. -/
import Derived.Test.YtbkighlfgaifeaaSFnCrossingsx0
import Derived.Test.YtbkighlfgaifeaaSFnCrossingsx3
import Derived.Test.YtbkighlfgaifeaaSFnCrossingsx5
import Derived.Test.YtbkighlfgaifeaaSFnCrossingsx7
namespace Go.Proofs.Ytbkighlfgaifeaa.QFnCrossings
open Go.RowKit Go.Proofs.YtbkighlfgaifeaaW.PrintWords Go.Proofs.YtbkighlfgaifeaaW.PrintLast Go.Proofs.YtbkighlfgaifeaaW.PrintMore
open Go.Proofs.YtbkighlfgaifeaaW.PrintWords renaming pw_below_drewN → pN, below_drew1 → p1, below_alloc → pA
open Go.Proofs.YtbkighlfgaifeaaW.PrintWords.Kd renaming R_alloc → kA, R_drewN → kN, R_drew → kD, Q_alloc → qA, Q_drewN → qN, Q_drew → qD, C_alloc → cA, C_drewN → cN, C_drew → cD
open Go.Proofs.YtbkighlfgaifeaaW.PrintWords.Aside0 renaming mk → aM
open List renaming setIfInBounds_toArray → sI, set_cons_zero → s0, set_cons_succ → sS, map_toArray → mT, length_take → lT, length_drop → lD, map_cons → mC, map_nil → mN
open Option renaming bind_eq_some_iff → oB, bind_some → oS
theorem calls_len_ {P : Program} {f : FuncId} {A : Option Addr} {a b c : Nat} {v : Value} {w : World} {R : Ending → World → Prop} (h : a = b) (hc : Calls P f #[.slice A a c, v] w R) : Calls P f #[.slice A b c, v] w R := h ▸ hc
attribute [local go_sem] max2_int min2_int max_two min_two max_three min_three max_four min_four
set_option maxHeartbeats 8000000
set_option maxRecDepth 100000
set_option linter.unusedVariables false
set_option linter.unusedSimpArgs false
mutual
def impl_MovePoints.j0 : Nat → List (List Int) → List Int → Bool → Option ((List (List Int)) × Bool)
 | 0, _, _, _ => none
 | k + 1, x0, x2, x20 => if x20 = true then (some (([] : List (List Int)), false)) else (impl_MovePoints.l0 k x2 (([] : List (List Int))) x0 (x0.length : Int) 0)
def impl_MovePoints.l0 : Nat → List Int → List (List Int) → List (List Int) → Int → Int → Option ((List (List Int)) × Bool)
 | 0, _, _, _, _, _ => none
 | k + 1, x2, x8, x22, x23, x24 => if x24 < x23 then (if 0 ≤ x24 then (if x24 < (x22.length : Int) then (if 0 < ((rd_L2 x22 x24).length : Int) then (if 1 < ((rd_L2 x22 x24).length : Int) then (if 0 ≤ (rd (rd_L2 x22 x24) 1) then (if (rd (rd_L2 x22 x24) 1) < (x2.length : Int) then (if x8.length < 5864062014805 then (impl_MovePoints.l0 k x2 (x8 ++ [(([rd (rd_L2 x22 x24) 0, rd x2 (rd (rd_L2 x22 x24) 1)] : List Int))]) x22 x23 (wrap64 (x24 + 1))) else (none)) else (none)) else (none)) else (none)) else (none)) else (none)) else (none)) else (some (x8, true))
end
def impl_MovePoints.f (k : Nat) (l0 : List (List Int)) (a1 : Int) (l2 : List Int) : Option ((List (List Int)) × Bool) := (impl_AreLevelWires.f k l0 a1).bind fun t220 => (if t220 = true then ((impl_isOrder.f k l2 a1).bind fun t221 => (impl_MovePoints.j0 k l0 l2 (!t221))) else (impl_MovePoints.j0 k l0 l2 true))
def impl_MovePoints.T7 : Bool × List (List Nat × List Nat) := (true, [([], []), ([], []), ([1], [1]), ([2], [2]), ([], []), ([], []), ([5], [5]), ([6], [6]), ([4, 7], [4, 7]), ([8], [8]), ([3, 9], [3, 9]), ([10], [10]), ([0, 11], [0, 11]), ([12, 12, 0, 1, 2, 3, 4, 5, 6, 7, 8, 9, 10, 11, 12], [0, 12])])
def impl_MovePoints.B7 : List Nat := [0, 0, 2, 6, 0, 0, 32, 96, 240, 496, 1022, 2046, 4095, 8191]
theorem impl_MovePoints.tab7 : rtab .any (opsOf Try.f67 7) = impl_MovePoints.T7 := by kernel_rfl
theorem impl_MovePoints.bits7 : waitsOk impl_MovePoints.T7.2 impl_MovePoints.B7 = true := by kernel_rfl
theorem impl_MovePoints.calls (k : Nat) (A0 : Option Addr) (c0 : Nat) (l0 : List (List Int)) (a1 : Int) (A2 : Option Addr) (c2 : Nat) (l2 : List Int) (r1 : List (List Int)) (r2 : Bool) (w : World) (hr0 : Kd.C (Kd.slice 3 (Kd.int .i64)) w A0 l0.length l0) (hc0 : l0.length ≤ c0) (hr2 : Kd.C (Kd.int .i64) w A2 l2.length l2) (hc2 : l2.length ≤ c2) (h : impl_MovePoints.f k l0 a1 l2 = some (r1, r2)) :
  Calls Try.prog 67 #[.slice A0 l0.length c0, .int .i64 a1, .slice A2 l2.length c2] w fun e w' => ∃ v0_ : Value, e = .returned (.tuple #[v0_, .bool r2]) ∧ Kd.S (Kd.slice 3 (Kd.int .i64)) 24 w' w.heap.size (fun _ => True) v0_ r1 ∧ Below w.heap.size w w' := by
 have HR0 := aM hr0
 have HC0 := aM hc0
 clear hr0 hc0
 have HR2 := aM hr2
 have HC2 := aM hc2
 clear hr2 hc2
 have HB := aM (Below.refl w.heap.size w)
 have H : ((impl_AreLevelWires.f k l0 a1).bind fun t220 => (if t220 = true then ((impl_isOrder.f k l2 a1).bind fun t221 => (impl_MovePoints.j0 k l0 l2 (!t221))) else (impl_MovePoints.j0 k l0 l2 true))) = some (r1, r2) := h
 clear h
 have HC4 := aM H
 clear H
 go_enter Try.func67, Try.ntmps67
 go_upto_region 1 with (fail)
 go_cut [20] (fun v20 wc => ∃ (kq : Nat) (x20_3 : Bool), v20 = .bool x20_3 ∧ Aside0 (impl_MovePoints.j0 kq l0 l2 x20_3 = some (r1, r2)) ∧ Aside0 (kq ≤ k) ∧ Aside0 (Below w.heap.size w wc))
 case first =>
  have H := HC4.out; clear HC4; replace H := oB.mp H; obtain ⟨t220, A50, H⟩ := H; replace H : (if t220 = true then ((impl_isOrder.f k l2 a1).bind fun t221 => (impl_MovePoints.j0 k l0 l2 (!t221))) else (impl_MovePoints.j0 k l0 l2 true)) = some (r1, r2) := H; have A5 := aM A50; clear A50
  by_cases c6 : t220 = true
  ·subst c6
   have H1 : ((impl_isOrder.f k l2 a1).bind fun t221 => (impl_MovePoints.j0 k l0 l2 (!t221))) = some (r1, r2) := by rw [if_pos rfl] at H; exact H
   clear H; have H := H1; clear H1; replace H := oB.mp H; obtain ⟨t221, A70, H⟩ := H; replace H : (impl_MovePoints.j0 k l0 l2 (!t221)) = some (r1, r2) := H; have A7 := aM A70; clear A70; have H' := aM H; clear H
   go_wp2_with (first | ((with_reducible refine gate_callee (f := 69) rfl ?_); refine goesL_ (some 13) rfl rfl Try.func69 (by kernel_rfl) rfl #[.slice A0 l0.length c0, .int .i64 a1] rfl zd_ ?_; (with_reducible refine (impl_AreLevelWires.calls k _ _ l0 a1 true _ ?side1 ?side2 A5.out).mono ?_); (case side1 => exact zge_); (case side2 => exact HC0.out); rintro e w' ⟨rfl, ⟨nd, rfl⟩⟩; refine ⟨_, rfl, ?_⟩) | (go_at_call 152; (with_reducible refine (impl_isOrder.calls k _ _ l2 a1 t221 _ ?side1 ?side2 A7.out).mono ?_); (case side1 => repeat (first | exact (Kd.C_below HR2.out zc_) | (with_reducible refine cA ?_ _) | (with_reducible refine cN ?_ _) | (with_reducible refine cD ?_))); (case side2 => exact HC2.out); rintro e w8 ⟨rfl, hb⟩; have n0_ := aM (below_step zc_ hb); clear HB; have HB := n0_; clear n0_; clear hb))
   go_meet
   case rel => exact ⟨_, (!t221), zb_, H', ⟨zbf_⟩, ⟨zc_⟩⟩
  ·replace c6 := Bool.eq_false_iff.mpr c6
   subst c6; have H1 : (impl_MovePoints.j0 k l0 l2 true) = some (r1, r2) := by rw [if_neg (show ¬ (false = true) by decide)] at H; exact H
   clear H; have H := H1; clear H1; have H' := aM H; clear H
   go_wp2_with (first | ((with_reducible refine gate_callee (f := 69) rfl ?_); refine goesL_ (some 13) rfl rfl Try.func69 (by kernel_rfl) rfl #[.slice A0 l0.length c0, .int .i64 a1] rfl zd_ ?_; (with_reducible refine (impl_AreLevelWires.calls k _ _ l0 a1 false _ ?side1 ?side2 A5.out).mono ?_); (case side1 => exact zge_); (case side2 => exact HC0.out); rintro e w' ⟨rfl, ⟨nd, rfl⟩⟩; refine ⟨_, rfl, ?_⟩))
   go_meet
   case rel => exact ⟨_, (true), zb_, H', ⟨zbf_⟩, ⟨zc_⟩⟩
 case rest =>
  clear HC4; obtain ⟨kq, x20_3, rfl, HA, HJ3, HB⟩ := hcut
  cases kq with
  | zero => exact absurd HA.out (by simp [impl_MovePoints.j0])
  | succ kj3 =>
   have H := HA.out; clear HA
   simp only [impl_MovePoints.j0] at H
   by_cases c9 : x20_3 = true
   ·subst c9
    have H1 : (some (([] : List (List Int)), false)) = some (r1, r2) := by rw [if_pos rfl] at H; exact H
    clear H; have H := H1; clear H1
    simp only [Option.some.injEq, Prod.mk.injEq] at H
    obtain ⟨rfl, rfl⟩ := H
    go_wp2
    go_ret2
    exact ⟨_, zg_, zcf_, zc_⟩
   ·replace c9 := Bool.eq_false_iff.mpr c9
    subst c9; have H1 : (impl_MovePoints.l0 kj3 l2 (([] : List (List Int))) l0 (l0.length : Int) 0) = some (r1, r2) := by rw [if_neg (show ¬ (false = true) by decide)] at H; exact H
    clear H; have H := H1; clear H1; obtain ⟨y222, hy222⟩ : ∃ y_ : List (List Int), y_ = (([] : List (List Int))) := ⟨_, rfl⟩; replace H : (impl_MovePoints.l0 kj3 l2 y222 l0 (l0.length : Int) 0) = some (r1, r2) := by first | (rw [hy222]; with_reducible exact H) | (have H2_ := (oS _ _).symm.trans H; rw [hy222]; with_reducible exact H2_) | (have H2_ := (oS _ _).symm.trans H; with_reducible exact H2_) | with_reducible exact H | (rw [hy222]; exact H) | exact H
    have Ny222 := aM hy222; clear hy222; have H' := aM H; clear H
    go_wp2_with (first | ((with_reducible refine gate_dst (N := 21) rfl ?_); refine Kd.S_lit (Kd.slice 3 (Kd.int .i64)) _ 24 ?hg (N := 21) ?hd (xs := ([] : List (List Int))) (inner := []) (ok := fun _ => True) (okp := fun _ => True) ?hr ?hp (fun _ hk => hk) trivial (Below.refl _ _) (Nat.le_refl _) (by simp) ?_; (case hd => rfl); (case hg => rfl); (case hr => exact ze_); (case hp => exact (Reps.none _ _)); intro v223 w10 ho11 hb hg_ hnew_; clear hg_ hnew_; (first | rw [← Ny222.out] at ho11 | (simp only [Int.reduceToNat] at ho11; rw [← Ny222.out] at ho11)); have n_ := z (Kd.S_lower ho11 (below_size zc_)) <| z1 (below_step zc_ hb); clear HB; obtain ⟨HO224, HB⟩ := n_; clear hb ho11))
    go_loopg [8, 24] kj3 (fun kq v8 v24 w' => ∃ (x8_2 : List (List Int)) (x24_2 : Int), v24 = .int .i64 x24_2 ∧ Aside0 (impl_MovePoints.l0 kq l2 x8_2 l0 (l0.length : Int) x24_2 = some (r1, r2)) ∧ Aside0 (kq ≤ kj3) ∧ Aside0 (Kd.S (Kd.slice 3 (Kd.int .i64)) 24 w' w.heap.size (fun _ => True) v8 x8_2) ∧ Aside0 (Below w.heap.size w w'))
    case atStart => exact ⟨(y222), (0), zb_, H', ⟨Nat.le_refl _⟩, ⟨zs HO224.out⟩, ⟨zc_⟩⟩
    case round =>
     clear H'; obtain ⟨x8_2, x24_2, rfl, HA, HK2, HO_8, HB⟩ := hrel
     cases gk with
     | zero => exact absurd HA.out (by simp [impl_MovePoints.l0])
     | succ k2 =>
      have H := HA.out; clear HA
      simp only [impl_MovePoints.l0] at H
      by_cases c12 : x24_2 < (l0.length : Int)
      ·rw [if_pos c12] at H
       have c12b0 := decide_eq_true c12; clear c12
       by_cases c13 : 0 ≤ x24_2
       ·rw [if_pos c13] at H
        have c13b0 := decide_eq_true c13; clear c13
        by_cases c14 : x24_2 < (l0.length : Int)
        ·rw [if_pos c14] at H
         have c14b0 := decide_eq_true c14; clear c14
         by_cases c15 : 0 < ((rd_L2 l0 x24_2).length : Int)
         ·rw [if_pos c15] at H
          have c15b0 := decide_eq_true c15; have c15b1 : decide (0 < (rd_L2 l0 x24_2).length) = true := decide_eq_true (by omega); clear c15
          by_cases c16 : 1 < ((rd_L2 l0 x24_2).length : Int)
          ·rw [if_pos c16] at H
           have c16b0 := decide_eq_true c16; have c16b1 : decide (1 < (rd_L2 l0 x24_2).length) = true := decide_eq_true (by omega); clear c16
           by_cases c17 : 0 ≤ (rd (rd_L2 l0 x24_2) 1)
           ·rw [if_pos c17] at H
            have c17b0 := decide_eq_true c17; clear c17
            by_cases c18 : (rd (rd_L2 l0 x24_2) 1) < (l2.length : Int)
            ·rw [if_pos c18] at H
             have c18b0 := decide_eq_true c18; clear c18; obtain ⟨y229, hy229⟩ : ∃ y_ : List Int, y_ = (([rd (rd_L2 l0 x24_2) 0, rd l2 (rd (rd_L2 l0 x24_2) 1)] : List Int)) := ⟨_, rfl⟩; replace H : (if x8_2.length < 5864062014805 then (impl_MovePoints.l0 k2 l2 (x8_2 ++ [y229]) l0 (l0.length : Int) (wrap64 (x24_2 + 1))) else (none)) = some (r1, r2) := by first | (rw [hy229]; with_reducible exact H) | (have H2_ := (oS _ _).symm.trans H; rw [hy229]; with_reducible exact H2_) | (have H2_ := (oS _ _).symm.trans H; with_reducible exact H2_) | with_reducible exact H | (rw [hy229]; exact H) | exact H
             have Ny229 := aM hy229; clear hy229
             by_cases c19 : x8_2.length < 5864062014805
             ·rw [if_pos c19] at H
              have LMc19 := aM c19; clear c19; obtain ⟨y232, hy232⟩ : ∃ y_ : List (List Int), y_ = (x8_2 ++ [y229]) := ⟨_, rfl⟩; replace H : (impl_MovePoints.l0 k2 l2 y232 l0 (l0.length : Int) (wrap64 (x24_2 + 1))) = some (r1, r2) := by first | (rw [hy232]; with_reducible exact H) | (have H2_ := (oS _ _).symm.trans H; rw [hy232]; with_reducible exact H2_) | (have H2_ := (oS _ _).symm.trans H; with_reducible exact H2_) | with_reducible exact H | (rw [hy232]; exact H) | exact H
              have Ny232 := aM hy232; clear hy232; have H' := aM H; clear H; have p225 : 0 ≤ (x24_2 : Int) := of_decide_eq_true za_; have q225 : x24_2 < (l0.length : Int) := of_decide_eq_true za_; obtain ⟨ad225, A225_0, c225_0, e225, hx225_0, hl225_0, hi225_0⟩ := at_L2 HR0.out x24_2 p225 q225
              cases e225
              (try (replace hx225_0 := (HB.out.cell (World.block_lt_of_cell? w _ hx225_0)).trans hx225_0)); have HR225_0 := aM hi225_0; have HC225_0 := aM hl225_0; clear hi225_0 hl225_0; replace p225 := eq_true p225; replace q225 := eq_true q225; (try go_wp2); have n_ := z (Kd.S_drew HO_8.out) <| z1 (p1 HB.out)
              clear HO_8 HB; obtain ⟨HO_8, HB⟩ := n_; have p226 : 0 ≤ (0 : Int) := (by omega); have q226 : 0 < ((rd_L2 l0 x24_2).length : Int) := of_decide_eq_true za_; obtain ⟨ad226, e226, hx226_0⟩ := Kd.at_int HR225_0.out 0 p226 q226; have hw226_0 := hx226_0; (try rw [show ((0 : Int)).toNat = 0 from rfl] at hw226_0); (try rw [show 0 * 1 = 0 from rfl] at hw226_0); (try rw [Addr.add_zero'] at hw226_0)
              cases e226
              have qi226 : (0 < (rd_L2 l0 x24_2).length) = True := eq_true (by omega); (try rw [show ((0 : Int)).toNat = 0 from rfl] at hx226_0); (try rw [Addr.add_zero'] at hx226_0); (try (replace hx226_0 := (HB.out.cell (World.block_lt_of_cell? w _ hx226_0)).trans hx226_0)); replace p226 := eq_true p226; replace q226 := eq_true q226; have p227 : 0 ≤ (1 : Int) := (by omega); have q227 : 1 < ((rd_L2 l0 x24_2).length : Int) := of_decide_eq_true za_; obtain ⟨ad227, e227, hx227_0⟩ := Kd.at_int HR225_0.out 1 p227 q227; have hw227_0 := hx227_0; (try rw [show ((1 : Int)).toNat = 1 from rfl] at hw227_0); (try rw [show 1 * 1 = 1 from rfl] at hw227_0); (try simp only [Nat.reduceMul, Nat.reduceEqDiff, Go.Addr.add, ↓reduceIte] at hw227_0); obtain rfl : ad226 = ad227 := (by injection e227); (try simp only [show (1 : Int).toNat = 1 from rfl, Nat.reduceMul, Nat.reduceEqDiff, Go.Addr.add, ↓reduceIte] at hx227_0); have qi227 : (1 < (rd_L2 l0 x24_2).length) = True := eq_true (by omega); (try rw [show ((1 : Int)).toNat = 1 from rfl] at hx227_0); (try (replace hx227_0 := (HB.out.cell (World.block_lt_of_cell? w _ hx227_0)).trans hx227_0)); replace p227 := eq_true p227; replace q227 := eq_true q227; have p228 : 0 ≤ ((rd (rd_L2 l0 x24_2) 1) : Int) := of_decide_eq_true za_; have q228 : (rd (rd_L2 l0 x24_2) 1) < (l2.length : Int) := of_decide_eq_true za_; obtain ⟨ad228, e228, hx228_0⟩ := Kd.at_int HR2.out (rd (rd_L2 l0 x24_2) 1) p228 q228; have hw228_0 := hx228_0
              cases e228
              (try (replace hx228_0 := (HB.out.cell (World.block_lt_of_cell? w _ hx228_0)).trans hx228_0)); replace p228 := eq_true p228; replace q228 := eq_true q228
              refine start_ (n := 14) (S := fun w' => w'.cell? ad226 = some (.int .i64 (rd (rd_L2 l0 x24_2) 0)) ∧ w'.cell? ⟨ad226.block, ad226.off + 1, none⟩ = some (.int .i64 (rd (rd_L2 l0 x24_2) 1)) ∧ w'.cell? (ad228.add ((rd (rd_L2 l0 x24_2) 1)).toNat) = some (.int .i64 (rd l2 (rd (rd_L2 l0 x24_2) 1)))) (ds := []) #[fi,fi,fi,fi,fi,fi,fi,fi,fi,fi,fi,fi,fi,fi] (by kernel_rfl) rfl rfl ⟨((HB.out.cell (World.block_lt_of_cell? w _ hw226_0)).trans hw226_0), ((HB.out.cell (World.block_lt_of_cell? w _ hw227_0)).trans hw227_0), ((HB.out.cell (World.block_lt_of_cell? w _ hw228_0)).trans hw228_0)⟩ (fun hHeld => ?_); refine with_tabW impl_MovePoints.tab7 impl_MovePoints.bits7 (fun HT_ HW_ => ?_)
              generalize wr.drew = w20 at HO_8 HB hx226_0 hx227_0 hx228_0 hHeld ⊢; refine py_ 0 28 HT_.out ?_; refine py_ 1 29 HT_.out ?_; refine py_ 2 30 HT_.out ?_; refine py_ 4 32 HT_.out ?_; refine py_ 5 33 HT_.out ?_; refine py_ 6 34 HT_.out ?_
              refine take_ (i := 3) (N := some 31) (v := ?_) (a' := ?_) #[ti,ti,ti,ti,ti,ti,ti,fi,fi,fi,fi,fi,fi,fi] rfl rfl (take_ofW HT_.out HW_.out (by kernel_rfl)) (fun _ _ _ h => h) (Or.inl ⟨by rfl, ?_⟩) hHeld ?_ ?_
              rotate_left
              ·rintro w' ⟨s0, s1, s2⟩
               go_simp
               with_reducible rfl
              rotate_left
              ·simp only [Act.put, sI, s0, sS, i64_w, i32_w]
               rfl
              refine take_ (i := 7) (N := some 35) (v := ?_) (a' := ?_) #[ti,ti,ti,ti,ti,ti,ti,ti,fi,fi,fi,fi,fi,fi] rfl rfl (take_ofW HT_.out HW_.out (by kernel_rfl)) (fun _ _ _ h => h) (Or.inl ⟨by rfl, ?_⟩) hHeld ?_ ?_
              rotate_left
              ·rintro w' ⟨s0, s1, s2⟩
               go_simp
               with_reducible rfl
              rotate_left
              ·simp only [Act.put, sI, s0, sS, i64_w, i32_w]
               rfl
              refine py_ 8 36 HT_.out ?_
              refine take_ (i := 9) (N := some 37) (v := ?_) (a' := ?_) #[ti,ti,ti,ti,ti,ti,ti,ti,ti,ti,fi,fi,fi,fi] rfl rfl (take_ofW HT_.out HW_.out (by kernel_rfl)) (fun _ _ _ h => h) (Or.inl ⟨by rfl, ?_⟩) hHeld ?_ ?_
              rotate_left
              ·rintro w' ⟨s0, s1, s2⟩
               go_simp
               with_reducible rfl
              rotate_left
              ·simp only [Act.put, sI, s0, sS, i64_w, i32_w]
               rfl
              refine one_ (i := 10) (N := some 38) #[ti,ti,ti,ti,ti,ti,ti,ti,ti,ti,ti,fi,fi,fi] rfl rfl (one_of HT_.out (by kernel_rfl)) (by decide) (fun K hK => ?_)
              refine Kd.R_lit_step (Kd.int .i64) _ 3 ?hg (N := 38) ?hd (xs := ([rd (rd_L2 l0 x24_2) 0, rd l2 (rd (rd_L2 l0 x24_2) 1)] : List Int)) (inner := [.int .i64 (rd (rd_L2 l0 x24_2) 0), .int .i64 (rd l2 (rd (rd_L2 l0 x24_2) 1))]) (ok := fun _ => True) (okp := fun _ => True) ?hr ?hp (fun _ hk => hk) trivial (Below.refl _ _) (Nat.le_refl _) (by simp) ?_; (case hd => rfl); (case hg => rfl); (case hr => exact ze_); (case hp => exact (Reps.one (show Kd.M (Kd.int .i64) _ _ _ (rd (rd_L2 l0 x24_2) 0) [.int .i64 (rd (rd_L2 l0 x24_2) 0)] from rfl) (Reps.one (show Kd.M (Kd.int .i64) _ _ _ (rd l2 (rd (rd_L2 l0 x24_2) 1)) [.int .i64 (rd l2 (rd (rd_L2 l0 x24_2) 1))] from rfl) (Reps.none _ _))))
              intro v230 w21 ho22 hb hg_ hnew_
              clear hg_ hnew_; (first | rw [← Ny229.out] at ho22 | (simp only [Int.reduceToNat] at ho22; rw [← Ny229.out] at ho22)); have n_ := z (Kd.S_elder' (zs HO_8.out) (Kd.R_base ho22) hb) <| z (Kd.R_lower ho22 (below_size zc_)) <| z1 (below_step zc_ hb)
              clear HO_8 HB; obtain ⟨HO_8, HO231, HB⟩ := n_; clear hb ho22; obtain ⟨Ao24, co24, eo24⟩ := Kd.R_slice HO231.out; (first | subst eo24 | (injection eo24 with f1_ f2_ f3_; have f4_ := f1_.symm; have f5_ := f3_.symm; clear f1_ f2_ f3_; subst f4_; subst f5_))
              refine hK.out _ _ ⟨((HB.out.cell (World.block_lt_of_cell? w _ hw226_0)).trans hw226_0), ((HB.out.cell (World.block_lt_of_cell? w _ hw227_0)).trans hw227_0), ((HB.out.cell (World.block_lt_of_cell? w _ hw228_0)).trans hw228_0)⟩ (fun hHeld => ?_)
              clear hK K
              refine norm_ (a' := ?_) ?_ ?_
              rotate_left
              ·show Act.put _ (some 38) _ = _
               simp only [Act.put, sI, s0, sS, i64_w, i32_w]
               rfl
              refine one_ (i := 11) (N := some 39) #[ti,ti,ti,ti,ti,ti,ti,ti,ti,ti,ti,ti,fi,fi] rfl rfl (one_of HT_.out (by kernel_rfl)) (by decide) (fun K hK => ?_)
              refine value_ (w1 := ?_) (v := ?_) (by rfl) rfl ?_ ?_
              rotate_left 2
              ·go_simp
               constructor
               ·rfl
               ·rfl
              refine hK.out _ _ ⟨(World.cell?_alloc_lt _ _ _ (World.block_lt_of_cell? _ _ (((HB.out.cell (World.block_lt_of_cell? w _ hw226_0)).trans hw226_0)))).trans (((HB.out.cell (World.block_lt_of_cell? w _ hw226_0)).trans hw226_0)), (World.cell?_alloc_lt _ _ _ (World.block_lt_of_cell? _ _ (((HB.out.cell (World.block_lt_of_cell? w _ hw227_0)).trans hw227_0)))).trans (((HB.out.cell (World.block_lt_of_cell? w _ hw227_0)).trans hw227_0)), (World.cell?_alloc_lt _ _ _ (World.block_lt_of_cell? _ _ (((HB.out.cell (World.block_lt_of_cell? w _ hw228_0)).trans hw228_0)))).trans (((HB.out.cell (World.block_lt_of_cell? w _ hw228_0)).trans hw228_0))⟩ (fun hHeld => ?_)
              clear hK K
              refine norm_ (a' := ?_) ?_ ?_
              rotate_left
              ·show Act.put _ (some 39) _ = _
               simp only [Act.put, sI, s0, sS, i64_w, i32_w]
               rfl
              refine one_ (i := 12) (N := some 40) #[ti,ti,ti,ti,ti,ti,ti,ti,ti,ti,ti,ti,ti,fi] rfl rfl (one_of HT_.out (by kernel_rfl)) (by decide) (fun K hK => ?_)
              refine Kd.S_append_step (Kd.slice 3 (Kd.int .i64)) (w0 := w) w.heap.size (by rfl) (.tmp 28) (.tmp 39) 52 24 (.slice none 0 0) 24 rfl Try.underlying52 info24 rfl (by decide) (by omega) u8 x8_2 y229 [.slice Ao24 y229.length co24] (fun _ => True) (fun k_ => some k_ = (.slice Ao24 y229.length co24 : Value).ownBlock) rfl rfl ?aP (fun k_ hk_ => ((Kd.R_mono (ok' := fun k_ => ((fun _ => True)) k_ ∧ some k_ ≠ (u8 : Value).ownBlock) (Kd.R_apart' (HO231.out) (Kd.S_typed HO_8.out) (by decide)) (fun k_ hk => ⟨trivial, hk.2⟩))).1 k_ hk_.symm) ?aF ?aO ?aB ?aS ?aL ?_
              (case aP => exact Kd.M_row (Kd.R_mono (Kd.R_tight rfl (Kd.R_mono (ok' := fun k_ => ((fun _ => True)) k_ ∧ some k_ ≠ (u8 : Value).ownBlock) (Kd.R_apart' (HO231.out) (Kd.S_typed HO_8.out) (by decide)) (fun k_ hk => ⟨trivial, hk.2⟩))) (fun _ h_ => h_)))
              (case aB => exact zdh_)
              (case aF => exact zda_)
              (case aO => exact (by refine zs ?_; exact Kd.S_mono HO_8.out (fun k_ hk => ⟨trivial, fun e_ => hk.2 e_⟩)))
              (case aS => exact zdi_)
              (case aL => have := LMc19.out; omega)
              intro v233 w23 ho hb hg hat
              rw [← Ny232.out] at ho; have n_ := z (hb) <| z1 (ho)
              clear HB HO_8 HO231; obtain ⟨HB, HO234⟩ := n_; clear ho hb hg hat
              refine hK.out _ _ ⟨((HB.out.cell (World.block_lt_of_cell? w _ hw226_0)).trans hw226_0), ((HB.out.cell (World.block_lt_of_cell? w _ hw227_0)).trans hw227_0), ((HB.out.cell (World.block_lt_of_cell? w _ hw228_0)).trans hw228_0)⟩ (fun hHeld => ?_)
              clear hK K
              refine norm_ (a' := ?_) ?_ ?_
              rotate_left
              ·show Act.put _ (some 40) _ = _
               simp only [Act.put, sI, s0, sS, i64_w, i32_w]
               rfl
              refine py_ 13 8 HT_.out ?_
              refine done_ (done_of HT_.out (by kernel_rfl)) ?_
              (try go_wp2)
              go_roundg k2
              case measure => have := HJ3.out; have := HK2.out; omega
              case rel => exact ⟨(y232), (wrap64 (x24_2 + 1)), zb_, H', ⟨by have := HJ3.out; have := HK2.out; omega⟩, ⟨zs HO234.out⟩, ⟨zc_⟩⟩
             ·rw [if_neg c19] at H
              exact absurd H (by simp)
            ·rw [if_neg c18] at H
             exact absurd H (by simp)
           ·rw [if_neg c17] at H
            exact absurd H (by simp)
          ·rw [if_neg c16] at H
           exact absurd H (by simp)
         ·rw [if_neg c15] at H
          exact absurd H (by simp)
        ·rw [if_neg c14] at H
         exact absurd H (by simp)
       ·rw [if_neg c13] at H
        exact absurd H (by simp)
      ·rw [if_neg c12] at H
       have c12b0 := decide_eq_false c12; clear c12
       simp only [Option.some.injEq, Prod.mk.injEq] at H
       obtain ⟨rfl, rfl⟩ := H
       go_wp2
       go_ret2
       exact ⟨_, zg_, by refine zs ?_; exact HO_8.out, zc_⟩
def spec_l1Has.l0 : Nat → Int → List Int → Int → Int → Option (Bool)
 | 0, _, _, _, _ => none
 | k + 1, x1, x7, x8, x9 => if x9 < x8 then (if 0 ≤ x9 then (if x9 < (x7.length : Int) then (if (rd x7 x9) = x1 then (some true) else (spec_l1Has.l0 k x1 x7 x8 (wrap64 (x9 + 1)))) else (none)) else (none)) else (some false)
def spec_l1Has.f (k : Nat) (l0 : List Int) (a1 : Int) : Option (Bool) := spec_l1Has.l0 k a1 l0 (l0.length : Int) 0
theorem spec_l1Has.calls (k : Nat) (A0 : Option Addr) (c0 : Nat) (l0 : List Int) (a1 : Int) (r : Bool) (w : World) (hr0 : Kd.C (Kd.int .i64) w A0 l0.length l0) (hc0 : l0.length ≤ c0) (h : spec_l1Has.f k l0 a1 = some r) :
  Calls Try.prog 184 #[.slice A0 l0.length c0, .int .i64 a1] w fun e w' => e = .returned (.bool r) ∧ Drawn0 w w' := by
 have HR0 := aM hr0
 have HC0 := aM hc0
 clear hr0 hc0
 have H : (spec_l1Has.l0 k a1 l0 (l0.length : Int) 0) = some r := h
 clear h
 have H' := aM H
 clear H
 go_enter Try.func184, Try.ntmps184
 go_wp2
 go_loopg [9] k (fun kq v9 w' => ∃ (x9_1 : Int), v9 = .int .i64 x9_1 ∧ Aside0 (spec_l1Has.l0 kq a1 l0 (l0.length : Int) x9_1 = some r) ∧ Aside0 (kq ≤ k) ∧ Drawn0 w w')
 case atStart => exact ⟨(0), zb_, H', ⟨Nat.le_refl _⟩, zf_⟩
 case round =>
  clear H'; obtain ⟨x9_1, rfl, HA, HK1, ⟨m1, rfl⟩⟩ := hrel
  cases gk with
  | zero => exact absurd HA.out (by simp [spec_l1Has.l0])
  | succ k1 =>
   have H := HA.out; clear HA
   simp only [spec_l1Has.l0] at H
   by_cases c3 : x9_1 < (l0.length : Int)
   ·rw [if_pos c3] at H
    have c3b0 := decide_eq_true c3; clear c3
    by_cases c4 : 0 ≤ x9_1
    ·rw [if_pos c4] at H
     have c4b0 := decide_eq_true c4; clear c4
     by_cases c5 : x9_1 < (l0.length : Int)
     ·rw [if_pos c5] at H
      have c5b0 := decide_eq_true c5; clear c5
      by_cases c6 : (rd l0 x9_1) = a1
      ·rw [if_pos c6] at H
       have c6b0 := beq_iff_eq.mpr c6; have c6b1 := bne_eq_false_iff_eq.mpr c6; clear c6; obtain rfl := Option.some.inj H; have p235 : 0 ≤ (x9_1 : Int) := of_decide_eq_true za_; have q235 : x9_1 < (l0.length : Int) := of_decide_eq_true za_; obtain ⟨ad235, e235, hx235_0⟩ := Kd.at_int HR0.out x9_1 p235 q235
       cases e235
       replace p235 := eq_true p235; replace q235 := eq_true q235
       go_wp2
       go_ret
       exact ⟨zb_, zf_⟩
      ·rw [if_neg c6] at H
       have c6b0 := beq_eq_false_iff_ne.mpr c6; have c6b1 := bne_iff_ne.mpr c6; have H' := aM H; clear H; have p235 : 0 ≤ (x9_1 : Int) := of_decide_eq_true za_; have q235 : x9_1 < (l0.length : Int) := of_decide_eq_true za_; obtain ⟨ad235, e235, hx235_0⟩ := Kd.at_int HR0.out x9_1 p235 q235
       cases e235
       replace p235 := eq_true p235; replace q235 := eq_true q235
       go_wp2
       go_roundg k1
       case measure => have := HK1.out; omega
       case rel => exact ⟨(wrap64 (x9_1 + 1)), zb_, H', ⟨zbd_⟩, zf_⟩
     ·rw [if_neg c5] at H
      exact absurd H (by simp)
    ·rw [if_neg c4] at H
     exact absurd H (by simp)
   ·rw [if_neg c3] at H
    have c3b0 := decide_eq_false c3; clear c3; obtain rfl := Option.some.inj H
    go_wp2
    go_ret
    exact ⟨zb_, zf_⟩
def spec_ddOrder.l0 : Nat → List Int → Int → List Int → Int → Int → Option (Bool)
 | 0, _, _, _, _, _ => none
 | k + 1, x0, x1, x7, x8, x9 => if x9 < x8 then (if 0 ≤ x9 then (if x9 < (x7.length : Int) then ((spec_l1In.f (rd x7 x9) 0 (wrap64 (x1 - 1))).bind fun t237 => (if t237 = true then (if x9 ≤ (x0.length : Int) then ((spec_l1Has.f k (x0.take (x9 : Int).toNat) (rd x7 x9)).bind fun t239 => (if t239 = true then (some false) else (spec_ddOrder.l0 k x0 x1 x7 x8 (wrap64 (x9 + 1))))) else (none)) else (some false))) else (none)) else (none)) else (some ((x0.length : Int) == x1))
def spec_ddOrder.f (k : Nat) (l0 : List Int) (a1 : Int) : Option (Bool) := spec_ddOrder.l0 k l0 a1 l0 (l0.length : Int) 0
theorem spec_ddOrder.calls (k : Nat) (A0 : Option Addr) (c0 : Nat) (l0 : List Int) (a1 : Int) (r : Bool) (w : World) (hr0 : Kd.C (Kd.int .i64) w A0 l0.length l0) (hc0 : l0.length ≤ c0) (h : spec_ddOrder.f k l0 a1 = some r) :
  Calls Try.prog 153 #[.slice A0 l0.length c0, .int .i64 a1] w fun e w' => e = .returned (.bool r) ∧ Drawn0 w w' := by
 have HR0 := aM hr0
 have HC0 := aM hc0
 clear hr0 hc0
 have H : (spec_ddOrder.l0 k l0 a1 l0 (l0.length : Int) 0) = some r := h
 clear h
 have H' := aM H
 clear H
 go_enter Try.func153, Try.ntmps153
 go_wp2
 go_loopg [9] k (fun kq v9 w' => ∃ (x9_1 : Int), v9 = .int .i64 x9_1 ∧ Aside0 (spec_ddOrder.l0 kq l0 a1 l0 (l0.length : Int) x9_1 = some r) ∧ Aside0 (kq ≤ k) ∧ Drawn0 w w')
 case atStart => exact ⟨(0), zb_, H', ⟨Nat.le_refl _⟩, zf_⟩
 case round =>
  clear H'; obtain ⟨x9_1, rfl, HA, HK1, ⟨m1, rfl⟩⟩ := hrel
  cases gk with
  | zero => exact absurd HA.out (by simp [spec_ddOrder.l0])
  | succ k1 =>
   have H := HA.out; clear HA
   simp only [spec_ddOrder.l0] at H
   by_cases c3 : x9_1 < (l0.length : Int)
   ·rw [if_pos c3] at H
    have c3b0 := decide_eq_true c3; clear c3
    by_cases c4 : 0 ≤ x9_1
    ·rw [if_pos c4] at H
     have c4b0 := decide_eq_true c4; clear c4
     by_cases c5 : x9_1 < (l0.length : Int)
     ·rw [if_pos c5] at H
      have c5b0 := decide_eq_true c5; clear c5; replace H := oB.mp H; obtain ⟨t237, A60, H⟩ := H; replace H : (if t237 = true then (if x9_1 ≤ (l0.length : Int) then ((spec_l1Has.f k1 (l0.take (x9_1 : Int).toNat) (rd l0 x9_1)).bind fun t239 => (if t239 = true then (some false) else (spec_ddOrder.l0 k1 l0 a1 l0 (l0.length : Int) (wrap64 (x9_1 + 1))))) else (none)) else (some false)) = some r := H; have A6 := aM A60; clear A60
      by_cases c7 : t237 = true
      ·subst c7
       have H1 : (if x9_1 ≤ (l0.length : Int) then ((spec_l1Has.f k1 (l0.take (x9_1 : Int).toNat) (rd l0 x9_1)).bind fun t239 => (if t239 = true then (some false) else (spec_ddOrder.l0 k1 l0 a1 l0 (l0.length : Int) (wrap64 (x9_1 + 1))))) else (none)) = some r := by rw [if_pos rfl] at H; exact H
       clear H; have H := H1; clear H1; have c8b0 := eq_true (of_decide_eq_true za_ : 0 ≤ x9_1)
       by_cases c9 : x9_1 ≤ (l0.length : Int)
       ·rw [if_pos c9] at H
        have c9b0 := eq_true c9; have c9b1 := decide_eq_true c9; clear c9; replace H := oB.mp H; obtain ⟨t239, A100, H⟩ := H; replace H : (if t239 = true then (some false) else (spec_ddOrder.l0 k1 l0 a1 l0 (l0.length : Int) (wrap64 (x9_1 + 1)))) = some r := H; have A10 := aM A100; clear A100
        by_cases c11 : t239 = true
        ·subst c11
         have H1 : (some false) = some r := by rw [if_pos rfl] at H; exact H
         clear H; have H := H1; clear H1; obtain rfl := Option.some.inj H; have p236 : 0 ≤ (x9_1 : Int) := of_decide_eq_true za_; have q236 : x9_1 < (l0.length : Int) := of_decide_eq_true za_; obtain ⟨ad236, e236, hx236_0⟩ := Kd.at_int HR0.out x9_1 p236 q236
         cases e236
         replace p236 := eq_true p236; replace q236 := eq_true q236
         go_wp2_with (first | ((with_reducible refine gate_callee (f := 108) rfl ?_); refine goesL_ (some 17) rfl rfl Try.func108 (by kernel_rfl) rfl #[.int .i64 (rd l0 x9_1), .int .i64 0, .int .i64 (wrap64 (a1 - 1))] rfl zd_ ?_; (with_reducible refine (spec_l1In.calls (rd l0 x9_1) 0 (wrap64 (a1 - 1)) true _ A6.out).mono ?_); rintro e w' ⟨rfl, ⟨nd, rfl⟩⟩; refine ⟨_, rfl, ?_⟩; obtain ⟨i012, hi012, _, hsz12, _⟩ := info_parts info3; obtain ⟨hcut12, hA12, hC12⟩ := print_take_of (P := Try.prog) (Value.int .i64) 0 24 3 .i64 Try.underlying24 hi012 hsz12 (some ad236) c0 l0 x9_1 (of_decide_eq_true za_) (of_decide_eq_true za_) HC0.out; have HR238 := aM (Kd.C_of_reads (h1 := fun _ => rfl) (hA12 _ (Kd.reads_of_C HR0.out))); have HC238 := aM hC12; clear hA12 hC12 hi012 hsz12) | (go_at_call 184; (with_reducible refine (calls_len_ (show (l0.take (x9_1 : Int).toNat).length = (x9_1 : Int).toNat from by have z1_ := of_eq_true p236; have z2_ := of_eq_true q236; rw [lT]; omega) (spec_l1Has.calls k1 _ _ (l0.take (x9_1 : Int).toNat) (rd l0 x9_1) true _ ?side1 ?side2 A10.out)).mono ?_); (case side1 => repeat (first | exact HR238.out | (with_reducible refine cA ?_ _) | (with_reducible refine cN ?_ _) | (with_reducible refine cD ?_))); (case side2 => exact HC238.out); rintro e w' ⟨rfl, ⟨nd, rfl⟩⟩))
         go_ret
         exact ⟨zb_, zf_⟩
        ·replace c11 := Bool.eq_false_iff.mpr c11
         subst c11; have H1 : (spec_ddOrder.l0 k1 l0 a1 l0 (l0.length : Int) (wrap64 (x9_1 + 1))) = some r := by rw [if_neg (show ¬ (false = true) by decide)] at H; exact H
         clear H; have H := H1; clear H1; have H' := aM H; clear H; have p236 : 0 ≤ (x9_1 : Int) := of_decide_eq_true za_; have q236 : x9_1 < (l0.length : Int) := of_decide_eq_true za_; obtain ⟨ad236, e236, hx236_0⟩ := Kd.at_int HR0.out x9_1 p236 q236
         cases e236
         replace p236 := eq_true p236; replace q236 := eq_true q236
         go_wp2_with (first | ((with_reducible refine gate_callee (f := 108) rfl ?_); refine goesL_ (some 17) rfl rfl Try.func108 (by kernel_rfl) rfl #[.int .i64 (rd l0 x9_1), .int .i64 0, .int .i64 (wrap64 (a1 - 1))] rfl zd_ ?_; (with_reducible refine (spec_l1In.calls (rd l0 x9_1) 0 (wrap64 (a1 - 1)) true _ A6.out).mono ?_); rintro e w' ⟨rfl, ⟨nd, rfl⟩⟩; refine ⟨_, rfl, ?_⟩; obtain ⟨i013, hi013, _, hsz13, _⟩ := info_parts info3; obtain ⟨hcut13, hA13, hC13⟩ := print_take_of (P := Try.prog) (Value.int .i64) 0 24 3 .i64 Try.underlying24 hi013 hsz13 (some ad236) c0 l0 x9_1 (of_decide_eq_true za_) (of_decide_eq_true za_) HC0.out; have HR238 := aM (Kd.C_of_reads (h1 := fun _ => rfl) (hA13 _ (Kd.reads_of_C HR0.out))); have HC238 := aM hC13; clear hA13 hC13 hi013 hsz13) | (go_at_call 184; (with_reducible refine (calls_len_ (show (l0.take (x9_1 : Int).toNat).length = (x9_1 : Int).toNat from by have z1_ := of_eq_true p236; have z2_ := of_eq_true q236; rw [lT]; omega) (spec_l1Has.calls k1 _ _ (l0.take (x9_1 : Int).toNat) (rd l0 x9_1) false _ ?side1 ?side2 A10.out)).mono ?_); (case side1 => repeat (first | exact HR238.out | (with_reducible refine cA ?_ _) | (with_reducible refine cN ?_ _) | (with_reducible refine cD ?_))); (case side2 => exact HC238.out); rintro e w' ⟨rfl, ⟨nd, rfl⟩⟩))
         go_roundg k1
         case measure => have := HK1.out; omega
         case rel => exact ⟨(wrap64 (x9_1 + 1)), zb_, H', ⟨zbd_⟩, zf_⟩
       ·rw [if_neg c9] at H
        exact absurd H (by simp)
      ·replace c7 := Bool.eq_false_iff.mpr c7
       subst c7; have H1 : (some false) = some r := by rw [if_neg (show ¬ (false = true) by decide)] at H; exact H
       clear H; have H := H1; clear H1; obtain rfl := Option.some.inj H; have p236 : 0 ≤ (x9_1 : Int) := of_decide_eq_true za_; have q236 : x9_1 < (l0.length : Int) := of_decide_eq_true za_; obtain ⟨ad236, e236, hx236_0⟩ := Kd.at_int HR0.out x9_1 p236 q236
       cases e236
       replace p236 := eq_true p236; replace q236 := eq_true q236
       go_wp2_with (first | ((with_reducible refine gate_callee (f := 108) rfl ?_); refine goesL_ (some 17) rfl rfl Try.func108 (by kernel_rfl) rfl #[.int .i64 (rd l0 x9_1), .int .i64 0, .int .i64 (wrap64 (a1 - 1))] rfl zd_ ?_; (with_reducible refine (spec_l1In.calls (rd l0 x9_1) 0 (wrap64 (a1 - 1)) false _ A6.out).mono ?_); rintro e w' ⟨rfl, ⟨nd, rfl⟩⟩; refine ⟨_, rfl, ?_⟩))
       go_ret
       exact ⟨zb_, zf_⟩
     ·rw [if_neg c5] at H
      exact absurd H (by simp)
    ·rw [if_neg c4] at H
     exact absurd H (by simp)
   ·rw [if_neg c3] at H
    have c3b0 := decide_eq_false c3; clear c3; obtain rfl := Option.some.inj H
    go_wp2
    go_ret
    exact ⟨zb_, zf_⟩
end Go.Proofs.Ytbkighlfgaifeaa.QFnCrossings
