/- Functions of FnLeastSums, each as a Lean function, with the proof that the Go code comes to its answers. -/
import Derived.Test.YtbkighlfgaifeaaSFnLeastSumsx0
namespace Go.Proofs.Ytbkighlfgaifeaa.QFnLeastSums
open Go.RowKit Go.Proofs.YtbkighlfgaifeaaW.PrintWords Go.Proofs.YtbkighlfgaifeaaW.PrintLast Go.Proofs.YtbkighlfgaifeaaW.PrintMore
open Go.Proofs.YtbkighlfgaifeaaW.PrintWords renaming pw_below_drewN → pN, below_drew1 → p1, below_alloc → pA
open Go.Proofs.YtbkighlfgaifeaaW.PrintWords.Kd renaming R_alloc → kA, R_drewN → kN, R_drew → kD, Q_alloc → qA, Q_drewN → qN, Q_drew → qD, C_alloc → cA, C_drewN → cN, C_drew → cD
open Go.Proofs.YtbkighlfgaifeaaW.PrintWords.Aside0 renaming mk → aM
open List renaming setIfInBounds_toArray → sI, set_cons_zero → s0, set_cons_succ → sS, map_toArray → mT, length_take → lT, length_drop → lD, map_cons → mC, map_nil → mN
open Option renaming bind_eq_some_iff → oB, bind_some → oS
attribute [local go_sem] max2_int min2_int max_two min_two max_three min_three max_four min_four
set_option maxHeartbeats 8000000
set_option maxRecDepth 100000
set_option linter.unusedVariables false
set_option linter.unusedSimpArgs false
mutual
def spec_nfApart.l0 : Nat → List Int → List Int → Int → List Int → Int → Option (List Int)
 | 0, _, _, _, _, _ => none
 | k + 1, x0, x1, x3, x9, x10 => if x10 < (x0.length : Int) then (if 0 ≤ x10 then (if 0 ≤ (IntKind.u64.wrap (rd x0 x10)) then (if (Go.bits .and .i64 (shr .i64 x3 (IntKind.u64.wrap (rd x0 x10))) 1) = 1 then (spec_nfApart.j1 k x0 x1 x3 x9 x10 true) else (spec_nfApart.j1 k x0 x1 x3 x9 x10 (decide ((wrap64 ((x0.length : Int) - x10)) ≤ (x9.length : Int))))) else (none)) else (none)) else (some x9)
def spec_nfApart.j1 : Nat → List Int → List Int → Int → List Int → Int → Bool → Option (List Int)
 | 0, _, _, _, _, _, _ => none
 | k + 1, x0, x1, x3, x9, x10, x36 => if x36 = true then (spec_nfApart.l0 k x0 x1 x3 x9 (wrap64 (x10 + 1))) else (if 0 ≤ x10 then (if x10 < (x0.length : Int) then ((some (([rd x0 x10] : List Int) : List Int)).bind fun y343 => (if 0 ≤ (rd x0 x10) then (if (rd x0 x10) < (x1.length : Int) then ((spec_nfApart.f k x0 x1 (wrap64 (x10 + 1)) (Go.bits .or .i64 x3 (rd x1 (rd x0 x10)))).bind fun t348 => (if y343.length + t348.length < 17592186044416 then ((some (y343 ++ t348 : List Int)).bind fun y351 => (if (y351.length : Int) > (x9.length : Int) then (spec_nfApart.l0 k x0 x1 x3 y351 (wrap64 (x10 + 1))) else (spec_nfApart.l0 k x0 x1 x3 x9 (wrap64 (x10 + 1))))) else (none))) else (none)) else (none))) else (none)) else (none))
def spec_nfApart.f : Nat → List Int → List Int → Int → Int → Option (List Int)
 | 0, _, _, _, _ => none
 | k + 1, l0, l1, a2, a3 => spec_nfApart.l0 k l0 l1 a3 ([] : List Int) a2
end
def spec_nfApart.T6 : Bool × List (List Nat × List Nat) := (true, [([], []), ([], []), ([0, 1], [0, 1]), ([2], [2]), ([3], [3]), ([], []), ([], []), ([], []), ([7], [7]), ([], []), ([], []), ([], []), ([], []), ([11, 12], [11, 12]), ([13], [13]), ([10, 14], [10, 14]), ([15], [15]), ([9, 16], [9, 16]), ([5, 6, 8, 17], [5, 6, 8, 17]), ([4, 18, 18], [4, 18]), ([19, 19, 0, 1, 2, 3, 4, 5, 6, 7, 8, 9, 10, 11, 12, 13, 14, 15, 16, 17, 18, 19], [19])])
def spec_nfApart.B6 : List Nat := [0, 0, 3, 7, 15, 0, 0, 0, 128, 0, 0, 0, 0, 6144, 14336, 31744, 64512, 130560, 262112, 524287, 1048575]
theorem spec_nfApart.tab6 : rtab .any (opsOf Try.f171 6) = spec_nfApart.T6 := by kernel_rfl
theorem spec_nfApart.bits6 : waitsOk spec_nfApart.T6.2 spec_nfApart.B6 = true := by kernel_rfl
theorem spec_nfApart.calls (k : Nat) : ∀ (A0 : Option Addr) (c0 : Nat) (l0 : List Int) (A1 : Option Addr) (c1 : Nat) (l1 : List Int) (a2 : Int) (a3 : Int) (r : List Int) (w : World) (hr0 : Kd.C (Kd.int .i64) w A0 l0.length l0) (hc0 : l0.length ≤ c0) (hr1 : Kd.C (Kd.int .i64) w A1 l1.length l1) (hc1 : l1.length ≤ c1) (h : spec_nfApart.f k l0 l1 a2 a3 = some r),
  Calls Try.prog 171 #[.slice A0 l0.length c0, .slice A1 l1.length c1, .int .i64 a2, .int .i64 a3] w fun e w' => ∃ v0_ : Value, e = .returned (v0_) ∧ Kd.R (Kd.int .i64) 3 w' w.heap.size (fun _ => True) v0_ r ∧ Below w.heap.size w w' := by
 induction k using Nat.strongRecOn with
 | _ k ih =>
 intro A0 c0 l0 A1 c1 l1 a2 a3 r w hr0 hc0 hr1 hc1 h
 cases k with
 | zero => exact absurd h (by simp [spec_nfApart.f])
 | succ k =>
 simp only [spec_nfApart.f] at h
 have HR0 := aM hr0
 have HC0 := aM hc0
 clear hr0 hc0
 have HR1 := aM hr1
 have HC1 := aM hc1
 clear hr1 hc1
 have HB := aM (Below.refl w.heap.size w)
 have H : (spec_nfApart.l0 k l0 l1 a3 ([] : List Int) a2) = some r := h
 clear h
 have H' := aM H
 clear H
 go_enter Try.func171, Try.ntmps171
 go_wp2
 go_loopg [9, 10] k (fun kq v9 v10 w' => ∃ (x9_1 : List Int) (x10_1 : Int), v10 = .int .i64 x10_1 ∧ Aside0 (spec_nfApart.l0 kq l0 l1 a3 x9_1 x10_1 = some r) ∧ Aside0 (kq ≤ k) ∧ Aside0 (Kd.R (Kd.int .i64) 3 w' w.heap.size (fun _ => True) v9 x9_1) ∧ Aside0 (Below w.heap.size w w'))
 case atStart => exact ⟨(([] : List Int)), (a2), zb_, H', ⟨Nat.le_refl _⟩, ⟨zbi_⟩, ⟨za_⟩⟩
 case round =>
  clear H'; (try clear c1); obtain ⟨x9_1, x10_1, rfl, HA, HK1, HO_9, HB⟩ := hrel
  cases gk with
  | zero => exact absurd HA.out (by simp [spec_nfApart.l0])
  | succ k1 =>
   have H := HA.out; clear HA
   simp only [spec_nfApart.l0] at H
   by_cases c5 : x10_1 < (l0.length : Int)
   ·rw [if_pos c5] at H
    have c5b0 := decide_eq_true c5; clear c5; have HC6 := aM H; clear H
    go_upto_region 5 with (fail)
    go_cut [36] (fun v36 wc => ∃ (kq : Nat) (x36_5 : Bool), v36 = .bool x36_5 ∧ Aside0 (spec_nfApart.j1 kq l0 l1 a3 x9_1 x10_1 x36_5 = some r) ∧ Aside0 (kq ≤ k1) ∧ Aside0 (Kd.R (Kd.int .i64) 3 wc w.heap.size (fun _ => True) u9 x9_1) ∧ Aside0 (Below w.heap.size w wc))
    case first =>
     have H := HC6.out; clear HC6
     by_cases c7 : 0 ≤ x10_1
     ·rw [if_pos c7] at H
      have c7b0 := decide_eq_true c7; clear c7; (first | rw [c7b0] | (simp only [i64_w, i32_w]; rw [c7b0]) | skip); obtain ⟨ji8, hji8⟩ : ∃ j_ : Int, (IntKind.u64.wrap (rd l0 x10_1)) = j_ := ⟨_, rfl⟩; replace H : (if 0 ≤ (ji8) then (if (Go.bits .and .i64 (shr .i64 a3 (ji8)) 1) = 1 then (spec_nfApart.j1 k1 l0 l1 a3 x9_1 x10_1 true) else (spec_nfApart.j1 k1 l0 l1 a3 x9_1 x10_1 (decide ((wrap64 ((l0.length : Int) - x10_1)) ≤ (x9_1.length : Int))))) else (none)) = some r := by first | (rw [hji8] at H; exact H) | (simp only [hji8] at H ⊢; exact H)
      by_cases c9 : 0 ≤ (ji8)
      ·rw [if_pos c9] at H
       have c9b0 := eq_true c9; have c9b1 := decide_eq_true c9; clear c9; obtain ⟨ji10, hji10⟩ : ∃ j_ : Int, (shr .i64 a3 (ji8)) = j_ := ⟨_, rfl⟩; replace H : (if (Go.bits .and .i64 (ji10) 1) = 1 then (spec_nfApart.j1 k1 l0 l1 a3 x9_1 x10_1 true) else (spec_nfApart.j1 k1 l0 l1 a3 x9_1 x10_1 (decide ((wrap64 ((l0.length : Int) - x10_1)) ≤ (x9_1.length : Int))))) = some r := by first | (rw [hji10] at H; exact H) | (simp only [hji10] at H ⊢; exact H)
       have hji10_ : (a3 / 2 ^ min (ji8).toNat 64) = ji10 := hji10; have hji10z : (ji8) ≤ 64 → (a3 / 2 ^ (ji8).toNat) = ji10 := shr_small hji10
       by_cases c11 : (Go.bits .and .i64 (ji10) 1) = 1
       ·rw [if_pos c11] at H
        have c11b0 := beq_iff_eq.mpr c11; have c11b1 := bne_eq_false_iff_eq.mpr c11; clear c11; have H' := aM H; clear H; have p341 : 0 ≤ (x10_1 : Int) := of_decide_eq_true zd_; have q341 : x10_1 < (l0.length : Int) := of_decide_eq_true zd_; obtain ⟨ad341, e341, hx341_0⟩ := Kd.at_int HR0.out x10_1 p341 q341
        cases e341
        (try (replace hx341_0 := (HB.out.cell (World.block_lt_of_cell? w _ hx341_0)).trans hx341_0)); replace p341 := eq_true p341; replace q341 := eq_true q341
        go_wp2
        go_meet
        case rel => exact ⟨_, (true), zb_, H', ⟨by have := HK1.out; first | omega | exact Nat.le_refl _⟩, ⟨zr HO_9.out⟩, ⟨za_⟩⟩
       ·rw [if_neg c11] at H
        have c11b0 := beq_eq_false_iff_ne.mpr c11; have c11b1 := bne_iff_ne.mpr c11; have H' := aM H; clear H; have p341 : 0 ≤ (x10_1 : Int) := of_decide_eq_true zd_; have q341 : x10_1 < (l0.length : Int) := of_decide_eq_true zd_; obtain ⟨ad341, e341, hx341_0⟩ := Kd.at_int HR0.out x10_1 p341 q341
        cases e341
        (try (replace hx341_0 := (HB.out.cell (World.block_lt_of_cell? w _ hx341_0)).trans hx341_0)); replace p341 := eq_true p341; replace q341 := eq_true q341; obtain ⟨Ao12, co12, eo12⟩ := Kd.R_slice HO_9.out; subst eo12
        go_wp2
        go_meet
        case rel => exact ⟨_, (decide ((wrap64 ((l0.length : Int) - x10_1)) ≤ (x9_1.length : Int))), zb_, H', ⟨by have := HK1.out; first | omega | exact Nat.le_refl _⟩, ⟨zr HO_9.out⟩, ⟨za_⟩⟩
      ·rw [if_neg c9] at H
       exact absurd H (by simp)
     ·rw [if_neg c7] at H
      exact absurd H (by simp)
    case rest =>
     clear HC6; (try clear c5b0); obtain ⟨kq, x36_5, rfl, HA, HJ5, HO_9, HB⟩ := hcut
     cases kq with
     | zero => exact absurd HA.out (by simp [spec_nfApart.j1])
     | succ kj5 =>
      have H := HA.out; clear HA
      simp only [spec_nfApart.j1] at H
      by_cases c13 : x36_5 = true
      ·subst c13
       have H1 : (spec_nfApart.l0 kj5 l0 l1 a3 x9_1 (wrap64 (x10_1 + 1))) = some r := by rw [if_pos rfl] at H; exact H
       clear H; have H := H1; clear H1; have H' := aM H; clear H
       go_wp2
       go_roundg kj5
       case measure => have := HK1.out; have := HJ5.out; omega
       case rel => exact ⟨(x9_1), (wrap64 (x10_1 + 1)), zb_, H', ⟨zfg_⟩, ⟨zr HO_9.out⟩, ⟨za_⟩⟩
      ·replace c13 := Bool.eq_false_iff.mpr c13
       subst c13; have H1 : (if 0 ≤ x10_1 then (if x10_1 < (l0.length : Int) then ((some (([rd l0 x10_1] : List Int) : List Int)).bind fun y343 => (if 0 ≤ (rd l0 x10_1) then (if (rd l0 x10_1) < (l1.length : Int) then ((spec_nfApart.f kj5 l0 l1 (wrap64 (x10_1 + 1)) (Go.bits .or .i64 a3 (rd l1 (rd l0 x10_1)))).bind fun t348 => (if y343.length + t348.length < 17592186044416 then ((some (y343 ++ t348 : List Int)).bind fun y351 => (if (y351.length : Int) > (x9_1.length : Int) then (spec_nfApart.l0 kj5 l0 l1 a3 y351 (wrap64 (x10_1 + 1))) else (spec_nfApart.l0 kj5 l0 l1 a3 x9_1 (wrap64 (x10_1 + 1))))) else (none))) else (none)) else (none))) else (none)) else (none)) = some r := by rw [if_neg (show ¬ (false = true) by decide)] at H; exact H
       clear H; have H := H1; clear H1
       by_cases c14 : 0 ≤ x10_1
       ·rw [if_pos c14] at H
        have c14b0 := decide_eq_true c14; clear c14
        by_cases c15 : x10_1 < (l0.length : Int)
        ·rw [if_pos c15] at H
         have c15b0 := decide_eq_true c15; clear c15; obtain ⟨y343, hy343⟩ : ∃ y_ : List Int, y_ = (([rd l0 x10_1] : List Int)) := ⟨_, rfl⟩; replace H : (if 0 ≤ (rd l0 x10_1) then (if (rd l0 x10_1) < (l1.length : Int) then ((spec_nfApart.f kj5 l0 l1 (wrap64 (x10_1 + 1)) (Go.bits .or .i64 a3 (rd l1 (rd l0 x10_1)))).bind fun t348 => (if y343.length + t348.length < 17592186044416 then ((some (y343 ++ t348 : List Int)).bind fun y351 => (if (y351.length : Int) > (x9_1.length : Int) then (spec_nfApart.l0 kj5 l0 l1 a3 y351 (wrap64 (x10_1 + 1))) else (spec_nfApart.l0 kj5 l0 l1 a3 x9_1 (wrap64 (x10_1 + 1))))) else (none))) else (none)) else (none)) = some r := by first | (rw [hy343]; with_reducible exact H) | (have H2_ := (oS _ _).symm.trans H; rw [hy343]; with_reducible exact H2_) | (have H2_ := (oS _ _).symm.trans H; with_reducible exact H2_) | with_reducible exact H | (rw [hy343]; exact H) | exact H
         have Ny343 := aM hy343; clear hy343
         by_cases c16 : 0 ≤ (rd l0 x10_1)
         ·rw [if_pos c16] at H
          have c16b0 := decide_eq_true c16; clear c16
          by_cases c17 : (rd l0 x10_1) < (l1.length : Int)
          ·rw [if_pos c17] at H
           have c17b0 := decide_eq_true c17; clear c17; replace H := oB.mp H; obtain ⟨t348, A180, H⟩ := H; replace H : (if y343.length + t348.length < 17592186044416 then ((some (y343 ++ t348 : List Int)).bind fun y351 => (if (y351.length : Int) > (x9_1.length : Int) then (spec_nfApart.l0 kj5 l0 l1 a3 y351 (wrap64 (x10_1 + 1))) else (spec_nfApart.l0 kj5 l0 l1 a3 x9_1 (wrap64 (x10_1 + 1))))) else (none)) = some r := H; have A18 := aM A180; clear A180
           by_cases c19 : y343.length + t348.length < 17592186044416
           ·rw [if_pos c19] at H
            have LMc19 := aM c19; clear c19; obtain ⟨y351, hy351⟩ : ∃ y_ : List Int, y_ = (y343 ++ t348) := ⟨_, rfl⟩; replace H : (if (y351.length : Int) > (x9_1.length : Int) then (spec_nfApart.l0 kj5 l0 l1 a3 y351 (wrap64 (x10_1 + 1))) else (spec_nfApart.l0 kj5 l0 l1 a3 x9_1 (wrap64 (x10_1 + 1)))) = some r := by first | (rw [hy351]; with_reducible exact H) | (have H2_ := (oS _ _).symm.trans H; rw [hy351]; with_reducible exact H2_) | (have H2_ := (oS _ _).symm.trans H; with_reducible exact H2_) | with_reducible exact H | (rw [hy351]; exact H) | exact H
            have Ny351 := aM hy351; clear hy351
            by_cases c20 : (y351.length : Int) > (x9_1.length : Int)
            ·rw [if_pos c20] at H
             have c20b0 : decide ((x9_1.length : Int) < (y351.length : Int)) = true := decide_eq_true c20; have c20b1 : decide (x9_1.length < y351.length) = true := decide_eq_true (Int.ofNat_lt.mp c20); clear c20; have H' := aM H; clear H; (try go_wp2); have n_ := z (kD HO_9.out) <| z1 (p1 HB.out)
             clear HO_9 HB; obtain ⟨HO_9, HB⟩ := n_; have p342 : 0 ≤ (x10_1 : Int) := of_decide_eq_true zd_; have q342 : x10_1 < (l0.length : Int) := of_decide_eq_true zd_; obtain ⟨ad342, e342, hx342_0⟩ := Kd.at_int HR0.out x10_1 p342 q342; have hw342_0 := hx342_0
             cases e342
             (try (replace hx342_0 := (HB.out.cell (World.block_lt_of_cell? w _ hx342_0)).trans hx342_0)); replace p342 := eq_true p342; replace q342 := eq_true q342; have p346 : 0 ≤ (x10_1 : Int) := of_decide_eq_true zd_; have q346 : x10_1 < (l0.length : Int) := of_decide_eq_true zd_; obtain ⟨ad346, e346, hx346_0⟩ := Kd.at_int HR0.out x10_1 p346 q346; have hw346_0 := hx346_0; obtain rfl : ad342 = ad346 := (by injection e346); (try (replace hx346_0 := (HB.out.cell (World.block_lt_of_cell? w _ hx346_0)).trans hx346_0)); replace p346 := eq_true p346; replace q346 := eq_true q346; have p347 : 0 ≤ ((rd l0 x10_1) : Int) := of_decide_eq_true zd_; have q347 : (rd l0 x10_1) < (l1.length : Int) := of_decide_eq_true zd_; obtain ⟨ad347, e347, hx347_0⟩ := Kd.at_int HR1.out (rd l0 x10_1) p347 q347; have hw347_0 := hx347_0
             cases e347
             (try (replace hx347_0 := (HB.out.cell (World.block_lt_of_cell? w _ hx347_0)).trans hx347_0)); replace p347 := eq_true p347; replace q347 := eq_true q347
             refine start_ (n := 21) (S := fun w' => w'.cell? (ad342.add (x10_1).toNat) = some (.int .i64 (rd l0 x10_1)) ∧ w'.cell? (ad342.add (x10_1).toNat) = some (.int .i64 (rd l0 x10_1)) ∧ w'.cell? (ad347.add ((rd l0 x10_1)).toNat) = some (.int .i64 (rd l1 (rd l0 x10_1)))) (ds := []) #[fi,fi,fi,fi,fi,fi,fi,fi,fi,fi,fi,fi,fi,fi,fi,fi,fi,fi,fi,fi,fi] (by kernel_rfl) rfl rfl ⟨((HB.out.cell (World.block_lt_of_cell? w _ hw342_0)).trans hw342_0), ((HB.out.cell (World.block_lt_of_cell? w _ hw346_0)).trans hw346_0), ((HB.out.cell (World.block_lt_of_cell? w _ hw347_0)).trans hw347_0)⟩ (fun hHeld => ?_); refine with_tabW spec_nfApart.tab6 spec_nfApart.bits6 (fun HT_ HW_ => ?_)
             generalize wc.drew = w21 at HO_9 HB hx342_0 hx346_0 hx347_0 hHeld ⊢; refine py_ 0 37 HT_.out ?_; refine py_ 1 38 HT_.out ?_; refine py_ 2 39 HT_.out ?_; refine py_ 5 42 HT_.out ?_; refine py_ 6 43 HT_.out ?_; refine py_ 7 44 HT_.out ?_; refine py_ 8 45 HT_.out ?_; refine py_ 9 46 HT_.out ?_; refine py_ 10 47 HT_.out ?_; refine py_ 11 48 HT_.out ?_; refine py_ 12 49 HT_.out ?_; refine py_ 13 50 HT_.out ?_
             refine take_ (i := 3) (N := some 40) (v := ?_) (a' := ?_) #[ti,ti,ti,ti,fi,ti,ti,ti,ti,ti,ti,ti,ti,ti,fi,fi,fi,fi,fi,fi,fi] rfl rfl (take_ofW HT_.out HW_.out (by kernel_rfl)) (fun _ _ _ h => h) (Or.inl ⟨by rfl, ?_⟩) hHeld ?_ ?_
             rotate_left
             ·rintro w' ⟨s0, s1, s2⟩
              go_simp
              with_reducible rfl
             rotate_left
             ·simp only [Act.put, sI, s0, sS, i64_w, i32_w]
              rfl
             refine take_ (i := 14) (N := some 51) (v := ?_) (a' := ?_) #[ti,ti,ti,ti,fi,ti,ti,ti,ti,ti,ti,ti,ti,ti,ti,fi,fi,fi,fi,fi,fi] rfl rfl (take_ofW HT_.out HW_.out (by kernel_rfl)) (fun _ _ _ h => h) (Or.inl ⟨by rfl, ?_⟩) hHeld ?_ ?_
             rotate_left
             ·rintro w' ⟨s0, s1, s2⟩
              go_simp
              with_reducible rfl
             rotate_left
             ·simp only [Act.put, sI, s0, sS, i64_w, i32_w]
              rfl
             refine py_ 15 52 HT_.out ?_
             refine take_ (i := 16) (N := some 53) (v := ?_) (a' := ?_) #[ti,ti,ti,ti,fi,ti,ti,ti,ti,ti,ti,ti,ti,ti,ti,ti,ti,fi,fi,fi,fi] rfl rfl (take_ofW HT_.out HW_.out (by kernel_rfl)) (fun _ _ _ h => h) (Or.inl ⟨by rfl, ?_⟩) hHeld ?_ ?_
             rotate_left
             ·rintro w' ⟨s0, s1, s2⟩
              go_simp
              with_reducible rfl
             rotate_left
             ·simp only [Act.put, sI, s0, sS, i64_w, i32_w]
              rfl
             refine py_ 17 54 HT_.out ?_
             refine join_ (σ := Value × Value) 2 #[ti,ti,ti,ti,ti,ti,ti,ti,ti,ti,ti,ti,ti,ti,ti,ti,ti,ti,ti,fi,fi] (fun s_ => [(41, s_.1), (55, s_.2)]) (fun s_ w' => (w'.cell? (ad342.add (x10_1).toNat) = some (.int .i64 (rd l0 x10_1)) ∧ w'.cell? (ad342.add (x10_1).toNat) = some (.int .i64 (rd l0 x10_1)) ∧ w'.cell? (ad347.add ((rd l0 x10_1)).toNat) = some (.int .i64 (rd l1 (rd l0 x10_1)))) ∧ (Kd.R (Kd.int .i64) 3 w' w.heap.size (fun k_ => some k_ ≠ (s_.2 : Value).ownBlock ∧ some k_ ≠ (u9 : Value).ownBlock) s_.1 y343) ∧ (Kd.R (Kd.int .i64) 3 w' w.heap.size (fun k_ => some k_ ≠ (s_.1 : Value).ownBlock ∧ some k_ ≠ (u9 : Value).ownBlock) s_.2 t348) ∧ (Kd.R (Kd.int .i64) 3 w' w.heap.size (fun k_ => some k_ ≠ (s_.1 : Value).ownBlock ∧ some k_ ≠ (s_.2 : Value).ownBlock) u9 x9_1) ∧ (Below w.heap.size w w')) ?_ ?_
             rotate_left
             ·intro hCont
              refine two_ (i := 4) (j := 18) (Ni := some 41) (Nj := some 55) #[ti,ti,ti,ti,ti,ti,ti,ti,ti,ti,ti,ti,ti,ti,ti,ti,ti,ti,fi,fi,fi] #[ti,ti,ti,ti,fi,ti,ti,ti,ti,ti,ti,ti,ti,ti,ti,ti,ti,ti,ti,fi,fi] rfl rfl rfl rfl (two_of HT_.out (by kernel_rfl)) (by decide) (by decide) (fun K hK => ?_) (fun K hK => ?_)
              ·skip
               refine Kd.R_lit_step (Kd.int .i64) _ 3 ?hg (N := 41) ?hd (xs := ([rd l0 x10_1] : List Int)) (inner := [.int .i64 (rd l0 x10_1)]) (ok := fun _ => True) (okp := fun _ => True) ?hr ?hp (fun _ hk => hk) trivial (Below.refl _ _) (Nat.le_refl _) (by simp) ?_; (case hd => rfl); (case hg => rfl); (case hr => exact zc_); (case hp => exact zjg_)
               intro v344 w22 ho23 hb hg_ hnew_
               clear hg_ hnew_; (first | rw [← Ny343.out] at ho23 | (simp only [Int.reduceToNat] at ho23; rw [← Ny343.out] at ho23)); have n_ := z (Kd.R_elder' (zr HO_9.out) (Kd.R_base ho23) hb) <| z (Kd.R_lower (Kd.R_new' ho23 (Kd.R_lt (zr HO_9.out))) (below_size za_)) <| z1 (below_step za_ hb)
               clear HO_9 HB; obtain ⟨HO_9, HO345, HB⟩ := n_; clear hb ho23
               refine hK.out _ _ ⟨((HB.out.cell (World.block_lt_of_cell? w _ hw342_0)).trans hw342_0), ((HB.out.cell (World.block_lt_of_cell? w _ hw346_0)).trans hw346_0), ((HB.out.cell (World.block_lt_of_cell? w _ hw347_0)).trans hw347_0)⟩ (fun hHeld => ?_)
               clear hK K
               refine norm_ (a' := ?_) ?_ ?_
               rotate_left
               ·show Act.put _ (some 41) _ = _
                simp only [Act.put, sI, s0, sS, i64_w, i32_w]
                rfl
               refine one_ (i := 18) (N := some 55) #[ti,ti,ti,ti,ti,ti,ti,ti,ti,ti,ti,ti,ti,ti,ti,ti,ti,ti,ti,fi,fi] rfl rfl (one_of HT_.out (by kernel_rfl)) (by decide) (fun K hK => ?_)
               refine goes_ Try.func171 (by kernel_rfl) rfl #[.slice (some ad342) l0.length c0, .slice (some ad347) l1.length c1, .int .i64 (wrap64 (x10_1 + 1)), .int .i64 (Go.bits .or .i64 a3 (rd l1 (rd l0 x10_1)))] (by rfl) rfl rfl ze_ ?_
               with_reducible refine (ih kj5 zfg_ _ _ l0 _ _ l1 (wrap64 (x10_1 + 1)) (Go.bits .or .i64 a3 (rd l1 (rd l0 x10_1))) t348 _ ?side1 ?side2 ?side3 ?side4 A18.out).mono ?_
               (case side1 => exact zeg_)
               (case side2 => exact HC0.out)
               (case side3 => exact zig_)
               (case side4 => exact HC1.out)
               rintro e w24 ⟨v349, rfl, ho0, hb⟩
               refine ⟨_, rfl, ?_⟩
               have n_ := z (Kd.R_elder' (zr HO_9.out) (Kd.R_base ho0) hb) <| z (Kd.R_elder' (zr HO345.out) (Kd.R_base ho0) hb) <| z (Kd.R_lower (Kd.R_new' (Kd.R_new' ho0 (Kd.R_lt (zr HO_9.out))) (Kd.R_lt (zr HO345.out))) (below_size za_)) <| z1 (below_step za_ hb)
               clear HO_9 HO345 HB; obtain ⟨HO_9, HO345, HO350, HB⟩ := n_; (try clear hb); (try clear hb2); (try clear hk); (try clear hi); (try clear ho0)
               refine hK.out _ _ ⟨((HB.out.cell (World.block_lt_of_cell? w _ hw342_0)).trans hw342_0), ((HB.out.cell (World.block_lt_of_cell? w _ hw346_0)).trans hw346_0), ((HB.out.cell (World.block_lt_of_cell? w _ hw347_0)).trans hw347_0)⟩ (fun hHeld => ?_)
               clear hK K
               refine norm_ (a' := ?_) ?_ ?_
               rotate_left
               ·show Act.put _ (some 55) _ = _
                simp only [Act.put, sI, s0, sS, i64_w, i32_w]
                rfl
               exact norm_ (by simp only [putAll, Act.put, sI, s0, sS]) (hCont (v344, v349) _ ⟨hHeld, zjh_, zji_, (by refine zr ?_; exact Kd.R_mono HO_9.out (fun _ hk => ⟨hk.1.2, hk.2⟩)), za_⟩)
              ·skip
               refine goes_ Try.func171 (by kernel_rfl) rfl #[.slice (some ad342) l0.length c0, .slice (some ad347) l1.length c1, .int .i64 (wrap64 (x10_1 + 1)), .int .i64 (Go.bits .or .i64 a3 (rd l1 (rd l0 x10_1)))] (by rfl) rfl rfl ze_ ?_
               with_reducible refine (ih kj5 zfg_ _ _ l0 _ _ l1 (wrap64 (x10_1 + 1)) (Go.bits .or .i64 a3 (rd l1 (rd l0 x10_1))) t348 _ ?side1 ?side2 ?side3 ?side4 A18.out).mono ?_
               (case side1 => exact zeg_)
               (case side2 => exact HC0.out)
               (case side3 => exact zig_)
               (case side4 => exact HC1.out)
               rintro e w22 ⟨v349, rfl, ho0, hb⟩
               refine ⟨_, rfl, ?_⟩
               have n_ := z (Kd.R_elder' (zr HO_9.out) (Kd.R_base ho0) hb) <| z (Kd.R_lower (Kd.R_new' ho0 (Kd.R_lt (zr HO_9.out))) (below_size za_)) <| z1 (below_step za_ hb)
               clear HO_9 HB; obtain ⟨HO_9, HO350, HB⟩ := n_; (try clear hb); (try clear hb2); (try clear hk); (try clear hi); (try clear ho0)
               refine hK.out _ _ ⟨((HB.out.cell (World.block_lt_of_cell? w _ hw342_0)).trans hw342_0), ((HB.out.cell (World.block_lt_of_cell? w _ hw346_0)).trans hw346_0), ((HB.out.cell (World.block_lt_of_cell? w _ hw347_0)).trans hw347_0)⟩ (fun hHeld => ?_)
               clear hK K
               refine norm_ (a' := ?_) ?_ ?_
               rotate_left
               ·show Act.put _ (some 55) _ = _
                simp only [Act.put, sI, s0, sS, i64_w, i32_w]
                rfl
               refine one_ (i := 4) (N := some 41) #[ti,ti,ti,ti,ti,ti,ti,ti,ti,ti,ti,ti,ti,ti,ti,ti,ti,ti,ti,fi,fi] rfl rfl (one_of HT_.out (by kernel_rfl)) (by decide) (fun K hK => ?_)
               refine Kd.R_lit_step (Kd.int .i64) _ 3 ?hg (N := 41) ?hd (xs := ([rd l0 x10_1] : List Int)) (inner := [.int .i64 (rd l0 x10_1)]) (ok := fun _ => True) (okp := fun _ => True) ?hr ?hp (fun _ hk => hk) trivial (Below.refl _ _) (Nat.le_refl _) (by simp) ?_; (case hd => rfl); (case hg => rfl); (case hr => exact zc_); (case hp => exact zjg_)
               intro v344 w23 ho24 hb hg_ hnew_
               clear hg_ hnew_; (first | rw [← Ny343.out] at ho24 | (simp only [Int.reduceToNat] at ho24; rw [← Ny343.out] at ho24)); have n_ := z (Kd.R_elder' (zr HO_9.out) (Kd.R_base ho24) hb) <| z (Kd.R_elder' (zr HO350.out) (Kd.R_base ho24) hb) <| z (Kd.R_lower (Kd.R_new' (Kd.R_new' ho24 (Kd.R_lt (zr HO_9.out))) (Kd.R_lt (zr HO350.out))) (below_size za_)) <| z1 (below_step za_ hb)
               clear HO_9 HO350 HB; obtain ⟨HO_9, HO350, HO345, HB⟩ := n_; clear hb ho24
               refine hK.out _ _ ⟨((HB.out.cell (World.block_lt_of_cell? w _ hw342_0)).trans hw342_0), ((HB.out.cell (World.block_lt_of_cell? w _ hw346_0)).trans hw346_0), ((HB.out.cell (World.block_lt_of_cell? w _ hw347_0)).trans hw347_0)⟩ (fun hHeld => ?_)
               clear hK K
               refine norm_ (a' := ?_) ?_ ?_
               rotate_left
               ·show Act.put _ (some 41) _ = _
                simp only [Act.put, sI, s0, sS, i64_w, i32_w]
                rfl
               exact norm_ (by simp only [putAll, Act.put, sI, s0, sS]) (hCont (v344, v349) _ ⟨hHeld, zjh_, zji_, (by refine zr ?_; exact Kd.R_mono HO_9.out (fun _ hk => ⟨hk.2, hk.1.2⟩)), za_⟩)
             rintro ⟨v344, v349⟩ w25 ⟨hS_, h0_, h1_, h2_, h3_⟩
             have n0_ : Aside0 (Kd.R (Kd.int .i64) 3 w25 w.heap.size (fun k_ => some k_ ≠ (v349 : Value).ownBlock ∧ some k_ ≠ (u9 : Value).ownBlock) v344 y343) := ⟨h0_⟩; have n1_ : Aside0 (Kd.R (Kd.int .i64) 3 w25 w.heap.size (fun k_ => some k_ ≠ (v344 : Value).ownBlock ∧ some k_ ≠ (u9 : Value).ownBlock) v349 t348) := ⟨h1_⟩; have n2_ : Aside0 (Kd.R (Kd.int .i64) 3 w25 w.heap.size (fun k_ => some k_ ≠ (v344 : Value).ownBlock ∧ some k_ ≠ (v349 : Value).ownBlock) u9 x9_1) := ⟨h2_⟩; have n3_ : Aside0 (Below w.heap.size w w25) := ⟨h3_⟩; clear HO_9 HB h0_ h1_ h2_ h3_; have HO345 := n0_; have HO350 := n1_; have HO_9 := n2_; have HB := n3_; clear n0_ n1_ n2_ n3_; have hHeld : w25.cell? (ad342.add (x10_1).toNat) = some (.int .i64 (rd l0 x10_1)) ∧ w25.cell? (ad342.add (x10_1).toNat) = some (.int .i64 (rd l0 x10_1)) ∧ w25.cell? (ad347.add ((rd l0 x10_1)).toNat) = some (.int .i64 (rd l1 (rd l0 x10_1))) := hS_; obtain ⟨Ao27, co27, eo27⟩ := Kd.R_slice HO350.out; (first | subst eo27 | (injection eo27 with f1_ f2_ f3_; have f4_ := f1_.symm; have f5_ := f3_.symm; clear f1_ f2_ f3_; subst f4_; subst f5_))
             refine norm_ (a' := ?_) ?_ ?_
             rotate_left
             ·simp only [putAll, Act.put, sI, s0, sS]
              rfl
             refine one_ (i := 19) (N := some 56) #[ti,ti,ti,ti,ti,ti,ti,ti,ti,ti,ti,ti,ti,ti,ti,ti,ti,ti,ti,ti,fi] rfl rfl (one_of HT_.out (by kernel_rfl)) (by decide) (fun K hK => ?_)
             refine Kd.R_append_rows_step (Kd.int .i64) (w0 := w) w.heap.size (by rfl) (.tmp 41) (.tmp 55) 24 3 (.int .i64 0) 8 rfl Try.underlying24 info3 rfl (by decide) (by omega) v344 y343 t348 _ _ _ (fun k_ => some k_ ≠ (u9 : Value).ownBlock ∧ some k_ ≠ (.slice Ao27 t348.length co27 : Value).ownBlock) (fun _ => False) rfl rfl ?aO ?aR (fun _ _ h => h) (fun _ h => h.elim) ?aF ?aB ?aS ?aL ?_
             (case aR => repeat (first | exact (Kd.R_reads' HO350.out).2.2 | (with_reducible refine cA ?_ _) | (with_reducible refine cN ?_ _) | (with_reducible refine cD ?_)))
             (case aB => exact zbbd_)
             (case aF => exact (fun k_ hk => ⟨Kd.fresh' (Kd.R_lt (zr HO_9.out)) k_ hk, Kd.fresh' (Kd.R_lt (zr HO350.out)) k_ hk⟩))
             (case aO => exact (by refine zr ?_; exact Kd.R_mono HO345.out (fun _ hk => ⟨hk.2, hk.1⟩)))
             (case aS => exact zbbe_)
             (case aL => have := LMc19.out; omega)
             intro v352 w26 ho hb hg hat
             rw [← Ny351.out] at ho; have n_ := z (Kd.R_after (ok := (fun k_ => some k_ ≠ (.slice Ao27 t348.length co27 : Value).ownBlock)) (by refine zr ?_; exact Kd.R_mono HO_9.out (fun _ hk => ⟨hk.2, hk.1⟩)) hg hat) <| z (Kd.R_after (ok := (fun k_ => some k_ ≠ (u9 : Value).ownBlock)) (by refine zr ?_; exact Kd.R_mono HO350.out (fun _ hk => ⟨hk.2, hk.1⟩)) hg hat) <| z (hb) <| z1 (ho)
             clear HO_9 HO350 HB HO345; obtain ⟨HO_9, HO350, HB, HO353⟩ := n_; clear ho hb hg hat
             refine hK.out _ _ ⟨((HB.out.cell (World.block_lt_of_cell? w _ hw342_0)).trans hw342_0), ((HB.out.cell (World.block_lt_of_cell? w _ hw346_0)).trans hw346_0), ((HB.out.cell (World.block_lt_of_cell? w _ hw347_0)).trans hw347_0)⟩ (fun hHeld => ?_)
             clear hK K
             refine norm_ (a' := ?_) ?_ ?_
             rotate_left
             ·show Act.put _ (some 56) _ = _
              simp only [Act.put, sI, s0, sS, i64_w, i32_w]
              rfl
             refine py_ 20 11 HT_.out ?_
             refine done_ (done_of HT_.out (by kernel_rfl)) ?_
             obtain ⟨Ao28, co28, eo28⟩ := Kd.R_slice HO353.out; subst eo28; obtain ⟨Ao29, co29, eo29⟩ := Kd.R_slice HO_9.out; subst eo29; (try go_wp2)
             go_roundg kj5
             case measure => have := HK1.out; have := HJ5.out; omega
             case rel => exact ⟨(y351), (wrap64 (x10_1 + 1)), zb_, H', ⟨zfg_⟩, ⟨by refine zr ?_; exact Kd.R_mono HO353.out (fun _ hk => trivial)⟩, ⟨za_⟩⟩
            ·rw [if_neg c20] at H
             have c20b0 : decide ((x9_1.length : Int) < (y351.length : Int)) = false := decide_eq_false c20; have c20b1 : decide (x9_1.length < y351.length) = false := decide_eq_false (fun h => c20 (Int.ofNat_lt.mpr h)); clear c20; have H' := aM H; clear H; (try go_wp2); have n_ := z (kD HO_9.out) <| z1 (p1 HB.out)
             clear HO_9 HB; obtain ⟨HO_9, HB⟩ := n_; have p342 : 0 ≤ (x10_1 : Int) := of_decide_eq_true zd_; have q342 : x10_1 < (l0.length : Int) := of_decide_eq_true zd_; obtain ⟨ad342, e342, hx342_0⟩ := Kd.at_int HR0.out x10_1 p342 q342; have hw342_0 := hx342_0
             cases e342
             (try (replace hx342_0 := (HB.out.cell (World.block_lt_of_cell? w _ hx342_0)).trans hx342_0)); replace p342 := eq_true p342; replace q342 := eq_true q342; have p346 : 0 ≤ (x10_1 : Int) := of_decide_eq_true zd_; have q346 : x10_1 < (l0.length : Int) := of_decide_eq_true zd_; obtain ⟨ad346, e346, hx346_0⟩ := Kd.at_int HR0.out x10_1 p346 q346; have hw346_0 := hx346_0; obtain rfl : ad342 = ad346 := (by injection e346); (try (replace hx346_0 := (HB.out.cell (World.block_lt_of_cell? w _ hx346_0)).trans hx346_0)); replace p346 := eq_true p346; replace q346 := eq_true q346; have p347 : 0 ≤ ((rd l0 x10_1) : Int) := of_decide_eq_true zd_; have q347 : (rd l0 x10_1) < (l1.length : Int) := of_decide_eq_true zd_; obtain ⟨ad347, e347, hx347_0⟩ := Kd.at_int HR1.out (rd l0 x10_1) p347 q347; have hw347_0 := hx347_0
             cases e347
             (try (replace hx347_0 := (HB.out.cell (World.block_lt_of_cell? w _ hx347_0)).trans hx347_0)); replace p347 := eq_true p347; replace q347 := eq_true q347
             refine start_ (n := 21) (S := fun w' => w'.cell? (ad342.add (x10_1).toNat) = some (.int .i64 (rd l0 x10_1)) ∧ w'.cell? (ad342.add (x10_1).toNat) = some (.int .i64 (rd l0 x10_1)) ∧ w'.cell? (ad347.add ((rd l0 x10_1)).toNat) = some (.int .i64 (rd l1 (rd l0 x10_1)))) (ds := []) #[fi,fi,fi,fi,fi,fi,fi,fi,fi,fi,fi,fi,fi,fi,fi,fi,fi,fi,fi,fi,fi] (by kernel_rfl) rfl rfl ⟨((HB.out.cell (World.block_lt_of_cell? w _ hw342_0)).trans hw342_0), ((HB.out.cell (World.block_lt_of_cell? w _ hw346_0)).trans hw346_0), ((HB.out.cell (World.block_lt_of_cell? w _ hw347_0)).trans hw347_0)⟩ (fun hHeld => ?_); refine with_tabW spec_nfApart.tab6 spec_nfApart.bits6 (fun HT_ HW_ => ?_)
             generalize wc.drew = w30 at HO_9 HB hx342_0 hx346_0 hx347_0 hHeld ⊢; refine py_ 0 37 HT_.out ?_; refine py_ 1 38 HT_.out ?_; refine py_ 2 39 HT_.out ?_; refine py_ 5 42 HT_.out ?_; refine py_ 6 43 HT_.out ?_; refine py_ 7 44 HT_.out ?_; refine py_ 8 45 HT_.out ?_; refine py_ 9 46 HT_.out ?_; refine py_ 10 47 HT_.out ?_; refine py_ 11 48 HT_.out ?_; refine py_ 12 49 HT_.out ?_; refine py_ 13 50 HT_.out ?_
             refine take_ (i := 3) (N := some 40) (v := ?_) (a' := ?_) #[ti,ti,ti,ti,fi,ti,ti,ti,ti,ti,ti,ti,ti,ti,fi,fi,fi,fi,fi,fi,fi] rfl rfl (take_ofW HT_.out HW_.out (by kernel_rfl)) (fun _ _ _ h => h) (Or.inl ⟨by rfl, ?_⟩) hHeld ?_ ?_
             rotate_left
             ·rintro w' ⟨s0, s1, s2⟩
              go_simp
              with_reducible rfl
             rotate_left
             ·simp only [Act.put, sI, s0, sS, i64_w, i32_w]
              rfl
             refine take_ (i := 14) (N := some 51) (v := ?_) (a' := ?_) #[ti,ti,ti,ti,fi,ti,ti,ti,ti,ti,ti,ti,ti,ti,ti,fi,fi,fi,fi,fi,fi] rfl rfl (take_ofW HT_.out HW_.out (by kernel_rfl)) (fun _ _ _ h => h) (Or.inl ⟨by rfl, ?_⟩) hHeld ?_ ?_
             rotate_left
             ·rintro w' ⟨s0, s1, s2⟩
              go_simp
              with_reducible rfl
             rotate_left
             ·simp only [Act.put, sI, s0, sS, i64_w, i32_w]
              rfl
             refine py_ 15 52 HT_.out ?_
             refine take_ (i := 16) (N := some 53) (v := ?_) (a' := ?_) #[ti,ti,ti,ti,fi,ti,ti,ti,ti,ti,ti,ti,ti,ti,ti,ti,ti,fi,fi,fi,fi] rfl rfl (take_ofW HT_.out HW_.out (by kernel_rfl)) (fun _ _ _ h => h) (Or.inl ⟨by rfl, ?_⟩) hHeld ?_ ?_
             rotate_left
             ·rintro w' ⟨s0, s1, s2⟩
              go_simp
              with_reducible rfl
             rotate_left
             ·simp only [Act.put, sI, s0, sS, i64_w, i32_w]
              rfl
             refine py_ 17 54 HT_.out ?_
             refine join_ (σ := Value × Value) 2 #[ti,ti,ti,ti,ti,ti,ti,ti,ti,ti,ti,ti,ti,ti,ti,ti,ti,ti,ti,fi,fi] (fun s_ => [(41, s_.1), (55, s_.2)]) (fun s_ w' => (w'.cell? (ad342.add (x10_1).toNat) = some (.int .i64 (rd l0 x10_1)) ∧ w'.cell? (ad342.add (x10_1).toNat) = some (.int .i64 (rd l0 x10_1)) ∧ w'.cell? (ad347.add ((rd l0 x10_1)).toNat) = some (.int .i64 (rd l1 (rd l0 x10_1)))) ∧ (Kd.R (Kd.int .i64) 3 w' w.heap.size (fun k_ => some k_ ≠ (s_.2 : Value).ownBlock ∧ some k_ ≠ (u9 : Value).ownBlock) s_.1 y343) ∧ (Kd.R (Kd.int .i64) 3 w' w.heap.size (fun k_ => some k_ ≠ (s_.1 : Value).ownBlock ∧ some k_ ≠ (u9 : Value).ownBlock) s_.2 t348) ∧ (Kd.R (Kd.int .i64) 3 w' w.heap.size (fun k_ => some k_ ≠ (s_.1 : Value).ownBlock ∧ some k_ ≠ (s_.2 : Value).ownBlock) u9 x9_1) ∧ (Below w.heap.size w w')) ?_ ?_
             rotate_left
             ·intro hCont
              refine two_ (i := 4) (j := 18) (Ni := some 41) (Nj := some 55) #[ti,ti,ti,ti,ti,ti,ti,ti,ti,ti,ti,ti,ti,ti,ti,ti,ti,ti,fi,fi,fi] #[ti,ti,ti,ti,fi,ti,ti,ti,ti,ti,ti,ti,ti,ti,ti,ti,ti,ti,ti,fi,fi] rfl rfl rfl rfl (two_of HT_.out (by kernel_rfl)) (by decide) (by decide) (fun K hK => ?_) (fun K hK => ?_)
              ·skip
               refine Kd.R_lit_step (Kd.int .i64) _ 3 ?hg (N := 41) ?hd (xs := ([rd l0 x10_1] : List Int)) (inner := [.int .i64 (rd l0 x10_1)]) (ok := fun _ => True) (okp := fun _ => True) ?hr ?hp (fun _ hk => hk) trivial (Below.refl _ _) (Nat.le_refl _) (by simp) ?_; (case hd => rfl); (case hg => rfl); (case hr => exact zc_); (case hp => exact zjg_)
               intro v344 w31 ho32 hb hg_ hnew_
               clear hg_ hnew_; (first | rw [← Ny343.out] at ho32 | (simp only [Int.reduceToNat] at ho32; rw [← Ny343.out] at ho32)); have n_ := z (Kd.R_elder' (zr HO_9.out) (Kd.R_base ho32) hb) <| z (Kd.R_lower (Kd.R_new' ho32 (Kd.R_lt (zr HO_9.out))) (below_size za_)) <| z1 (below_step za_ hb)
               clear HO_9 HB; obtain ⟨HO_9, HO345, HB⟩ := n_; clear hb ho32
               refine hK.out _ _ ⟨((HB.out.cell (World.block_lt_of_cell? w _ hw342_0)).trans hw342_0), ((HB.out.cell (World.block_lt_of_cell? w _ hw346_0)).trans hw346_0), ((HB.out.cell (World.block_lt_of_cell? w _ hw347_0)).trans hw347_0)⟩ (fun hHeld => ?_)
               clear hK K
               refine norm_ (a' := ?_) ?_ ?_
               rotate_left
               ·show Act.put _ (some 41) _ = _
                simp only [Act.put, sI, s0, sS, i64_w, i32_w]
                rfl
               refine one_ (i := 18) (N := some 55) #[ti,ti,ti,ti,ti,ti,ti,ti,ti,ti,ti,ti,ti,ti,ti,ti,ti,ti,ti,fi,fi] rfl rfl (one_of HT_.out (by kernel_rfl)) (by decide) (fun K hK => ?_)
               refine goes_ Try.func171 (by kernel_rfl) rfl #[.slice (some ad342) l0.length c0, .slice (some ad347) l1.length c1, .int .i64 (wrap64 (x10_1 + 1)), .int .i64 (Go.bits .or .i64 a3 (rd l1 (rd l0 x10_1)))] (by rfl) rfl rfl ze_ ?_
               with_reducible refine (ih kj5 zfg_ _ _ l0 _ _ l1 (wrap64 (x10_1 + 1)) (Go.bits .or .i64 a3 (rd l1 (rd l0 x10_1))) t348 _ ?side1 ?side2 ?side3 ?side4 A18.out).mono ?_
               (case side1 => exact zeg_)
               (case side2 => exact HC0.out)
               (case side3 => exact zig_)
               (case side4 => exact HC1.out)
               rintro e w33 ⟨v349, rfl, ho0, hb⟩
               refine ⟨_, rfl, ?_⟩
               have n_ := z (Kd.R_elder' (zr HO_9.out) (Kd.R_base ho0) hb) <| z (Kd.R_elder' (zr HO345.out) (Kd.R_base ho0) hb) <| z (Kd.R_lower (Kd.R_new' (Kd.R_new' ho0 (Kd.R_lt (zr HO_9.out))) (Kd.R_lt (zr HO345.out))) (below_size za_)) <| z1 (below_step za_ hb)
               clear HO_9 HO345 HB; obtain ⟨HO_9, HO345, HO350, HB⟩ := n_; (try clear hb); (try clear hb2); (try clear hk); (try clear hi); (try clear ho0)
               refine hK.out _ _ ⟨((HB.out.cell (World.block_lt_of_cell? w _ hw342_0)).trans hw342_0), ((HB.out.cell (World.block_lt_of_cell? w _ hw346_0)).trans hw346_0), ((HB.out.cell (World.block_lt_of_cell? w _ hw347_0)).trans hw347_0)⟩ (fun hHeld => ?_)
               clear hK K
               refine norm_ (a' := ?_) ?_ ?_
               rotate_left
               ·show Act.put _ (some 55) _ = _
                simp only [Act.put, sI, s0, sS, i64_w, i32_w]
                rfl
               exact norm_ (by simp only [putAll, Act.put, sI, s0, sS]) (hCont (v344, v349) _ ⟨hHeld, zjh_, zji_, (by refine zr ?_; exact Kd.R_mono HO_9.out (fun _ hk => ⟨hk.1.2, hk.2⟩)), za_⟩)
              ·skip
               refine goes_ Try.func171 (by kernel_rfl) rfl #[.slice (some ad342) l0.length c0, .slice (some ad347) l1.length c1, .int .i64 (wrap64 (x10_1 + 1)), .int .i64 (Go.bits .or .i64 a3 (rd l1 (rd l0 x10_1)))] (by rfl) rfl rfl ze_ ?_
               with_reducible refine (ih kj5 zfg_ _ _ l0 _ _ l1 (wrap64 (x10_1 + 1)) (Go.bits .or .i64 a3 (rd l1 (rd l0 x10_1))) t348 _ ?side1 ?side2 ?side3 ?side4 A18.out).mono ?_
               (case side1 => exact zeg_)
               (case side2 => exact HC0.out)
               (case side3 => exact zig_)
               (case side4 => exact HC1.out)
               rintro e w31 ⟨v349, rfl, ho0, hb⟩
               refine ⟨_, rfl, ?_⟩
               have n_ := z (Kd.R_elder' (zr HO_9.out) (Kd.R_base ho0) hb) <| z (Kd.R_lower (Kd.R_new' ho0 (Kd.R_lt (zr HO_9.out))) (below_size za_)) <| z1 (below_step za_ hb)
               clear HO_9 HB; obtain ⟨HO_9, HO350, HB⟩ := n_; (try clear hb); (try clear hb2); (try clear hk); (try clear hi); (try clear ho0)
               refine hK.out _ _ ⟨((HB.out.cell (World.block_lt_of_cell? w _ hw342_0)).trans hw342_0), ((HB.out.cell (World.block_lt_of_cell? w _ hw346_0)).trans hw346_0), ((HB.out.cell (World.block_lt_of_cell? w _ hw347_0)).trans hw347_0)⟩ (fun hHeld => ?_)
               clear hK K
               refine norm_ (a' := ?_) ?_ ?_
               rotate_left
               ·show Act.put _ (some 55) _ = _
                simp only [Act.put, sI, s0, sS, i64_w, i32_w]
                rfl
               refine one_ (i := 4) (N := some 41) #[ti,ti,ti,ti,ti,ti,ti,ti,ti,ti,ti,ti,ti,ti,ti,ti,ti,ti,ti,fi,fi] rfl rfl (one_of HT_.out (by kernel_rfl)) (by decide) (fun K hK => ?_)
               refine Kd.R_lit_step (Kd.int .i64) _ 3 ?hg (N := 41) ?hd (xs := ([rd l0 x10_1] : List Int)) (inner := [.int .i64 (rd l0 x10_1)]) (ok := fun _ => True) (okp := fun _ => True) ?hr ?hp (fun _ hk => hk) trivial (Below.refl _ _) (Nat.le_refl _) (by simp) ?_; (case hd => rfl); (case hg => rfl); (case hr => exact zc_); (case hp => exact zjg_)
               intro v344 w32 ho33 hb hg_ hnew_
               clear hg_ hnew_; (first | rw [← Ny343.out] at ho33 | (simp only [Int.reduceToNat] at ho33; rw [← Ny343.out] at ho33)); have n_ := z (Kd.R_elder' (zr HO_9.out) (Kd.R_base ho33) hb) <| z (Kd.R_elder' (zr HO350.out) (Kd.R_base ho33) hb) <| z (Kd.R_lower (Kd.R_new' (Kd.R_new' ho33 (Kd.R_lt (zr HO_9.out))) (Kd.R_lt (zr HO350.out))) (below_size za_)) <| z1 (below_step za_ hb)
               clear HO_9 HO350 HB; obtain ⟨HO_9, HO350, HO345, HB⟩ := n_; clear hb ho33
               refine hK.out _ _ ⟨((HB.out.cell (World.block_lt_of_cell? w _ hw342_0)).trans hw342_0), ((HB.out.cell (World.block_lt_of_cell? w _ hw346_0)).trans hw346_0), ((HB.out.cell (World.block_lt_of_cell? w _ hw347_0)).trans hw347_0)⟩ (fun hHeld => ?_)
               clear hK K
               refine norm_ (a' := ?_) ?_ ?_
               rotate_left
               ·show Act.put _ (some 41) _ = _
                simp only [Act.put, sI, s0, sS, i64_w, i32_w]
                rfl
               exact norm_ (by simp only [putAll, Act.put, sI, s0, sS]) (hCont (v344, v349) _ ⟨hHeld, zjh_, zji_, (by refine zr ?_; exact Kd.R_mono HO_9.out (fun _ hk => ⟨hk.2, hk.1.2⟩)), za_⟩)
             rintro ⟨v344, v349⟩ w34 ⟨hS_, h0_, h1_, h2_, h3_⟩
             have n0_ : Aside0 (Kd.R (Kd.int .i64) 3 w34 w.heap.size (fun k_ => some k_ ≠ (v349 : Value).ownBlock ∧ some k_ ≠ (u9 : Value).ownBlock) v344 y343) := ⟨h0_⟩; have n1_ : Aside0 (Kd.R (Kd.int .i64) 3 w34 w.heap.size (fun k_ => some k_ ≠ (v344 : Value).ownBlock ∧ some k_ ≠ (u9 : Value).ownBlock) v349 t348) := ⟨h1_⟩; have n2_ : Aside0 (Kd.R (Kd.int .i64) 3 w34 w.heap.size (fun k_ => some k_ ≠ (v344 : Value).ownBlock ∧ some k_ ≠ (v349 : Value).ownBlock) u9 x9_1) := ⟨h2_⟩; have n3_ : Aside0 (Below w.heap.size w w34) := ⟨h3_⟩; clear HO_9 HB h0_ h1_ h2_ h3_; have HO345 := n0_; have HO350 := n1_; have HO_9 := n2_; have HB := n3_; clear n0_ n1_ n2_ n3_; have hHeld : w34.cell? (ad342.add (x10_1).toNat) = some (.int .i64 (rd l0 x10_1)) ∧ w34.cell? (ad342.add (x10_1).toNat) = some (.int .i64 (rd l0 x10_1)) ∧ w34.cell? (ad347.add ((rd l0 x10_1)).toNat) = some (.int .i64 (rd l1 (rd l0 x10_1))) := hS_; obtain ⟨Ao36, co36, eo36⟩ := Kd.R_slice HO350.out; (first | subst eo36 | (injection eo36 with f1_ f2_ f3_; have f4_ := f1_.symm; have f5_ := f3_.symm; clear f1_ f2_ f3_; subst f4_; subst f5_))
             refine norm_ (a' := ?_) ?_ ?_
             rotate_left
             ·simp only [putAll, Act.put, sI, s0, sS]
              rfl
             refine one_ (i := 19) (N := some 56) #[ti,ti,ti,ti,ti,ti,ti,ti,ti,ti,ti,ti,ti,ti,ti,ti,ti,ti,ti,ti,fi] rfl rfl (one_of HT_.out (by kernel_rfl)) (by decide) (fun K hK => ?_)
             refine Kd.R_append_rows_step (Kd.int .i64) (w0 := w) w.heap.size (by rfl) (.tmp 41) (.tmp 55) 24 3 (.int .i64 0) 8 rfl Try.underlying24 info3 rfl (by decide) (by omega) v344 y343 t348 _ _ _ (fun k_ => some k_ ≠ (u9 : Value).ownBlock ∧ some k_ ≠ (.slice Ao36 t348.length co36 : Value).ownBlock) (fun _ => False) rfl rfl ?aO ?aR (fun _ _ h => h) (fun _ h => h.elim) ?aF ?aB ?aS ?aL ?_
             (case aR => repeat (first | exact (Kd.R_reads' HO350.out).2.2 | (with_reducible refine cA ?_ _) | (with_reducible refine cN ?_ _) | (with_reducible refine cD ?_)))
             (case aB => exact zbbd_)
             (case aF => exact (fun k_ hk => ⟨Kd.fresh' (Kd.R_lt (zr HO_9.out)) k_ hk, Kd.fresh' (Kd.R_lt (zr HO350.out)) k_ hk⟩))
             (case aO => exact (by refine zr ?_; exact Kd.R_mono HO345.out (fun _ hk => ⟨hk.2, hk.1⟩)))
             (case aS => exact zbbe_)
             (case aL => have := LMc19.out; omega)
             intro v352 w35 ho hb hg hat
             rw [← Ny351.out] at ho; have n_ := z (Kd.R_after (ok := (fun k_ => some k_ ≠ (.slice Ao36 t348.length co36 : Value).ownBlock)) (by refine zr ?_; exact Kd.R_mono HO_9.out (fun _ hk => ⟨hk.2, hk.1⟩)) hg hat) <| z (Kd.R_after (ok := (fun k_ => some k_ ≠ (u9 : Value).ownBlock)) (by refine zr ?_; exact Kd.R_mono HO350.out (fun _ hk => ⟨hk.2, hk.1⟩)) hg hat) <| z (hb) <| z1 (ho)
             clear HO_9 HO350 HB HO345; obtain ⟨HO_9, HO350, HB, HO353⟩ := n_; clear ho hb hg hat
             refine hK.out _ _ ⟨((HB.out.cell (World.block_lt_of_cell? w _ hw342_0)).trans hw342_0), ((HB.out.cell (World.block_lt_of_cell? w _ hw346_0)).trans hw346_0), ((HB.out.cell (World.block_lt_of_cell? w _ hw347_0)).trans hw347_0)⟩ (fun hHeld => ?_)
             clear hK K
             refine norm_ (a' := ?_) ?_ ?_
             rotate_left
             ·show Act.put _ (some 56) _ = _
              simp only [Act.put, sI, s0, sS, i64_w, i32_w]
              rfl
             refine py_ 20 11 HT_.out ?_
             refine done_ (done_of HT_.out (by kernel_rfl)) ?_
             obtain ⟨Ao37, co37, eo37⟩ := Kd.R_slice HO353.out; subst eo37; obtain ⟨Ao38, co38, eo38⟩ := Kd.R_slice HO_9.out; subst eo38; (try go_wp2)
             go_roundg kj5
             case measure => have := HK1.out; have := HJ5.out; omega
             case rel => exact ⟨(x9_1), (wrap64 (x10_1 + 1)), zb_, H', ⟨zfg_⟩, ⟨by refine zr ?_; exact Kd.R_mono HO_9.out (fun _ hk => trivial)⟩, ⟨za_⟩⟩
           ·rw [if_neg c19] at H
            exact absurd H (by simp)
          ·rw [if_neg c17] at H
           exact absurd H (by simp)
         ·rw [if_neg c16] at H
          exact absurd H (by simp)
        ·rw [if_neg c15] at H
         exact absurd H (by simp)
       ·rw [if_neg c14] at H
        exact absurd H (by simp)
   ·rw [if_neg c5] at H
    have c5b0 := decide_eq_false c5; clear c5; obtain rfl := Option.some.inj H
    go_wp2
    go_ret
    exact ⟨_, zf_, by refine zr ?_; exact HO_9.out, za_⟩
end Go.Proofs.Ytbkighlfgaifeaa.QFnLeastSums
