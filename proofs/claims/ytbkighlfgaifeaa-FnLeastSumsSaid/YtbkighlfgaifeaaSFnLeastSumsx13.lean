/- Functions of FnLeastSums, each as a Lean function, with the proof that the Go code comes to its answers. -/
import Derived.Test.YtbkighlfgaifeaaSFnLeastSumsx0
import Derived.Test.YtbkighlfgaifeaaSFnLeastSumsx2
import Derived.Test.YtbkighlfgaifeaaSFnLeastSumsx3
import Derived.Test.YtbkighlfgaifeaaSFnLeastSumsx10
import Derived.Test.YtbkighlfgaifeaaSFnLeastSumsx12
namespace Go.Proofs.Ytbkighlfgaifeaa.QFnLeastSums
open Go.RowKit Go.Proofs.YtbkighlfgaifeaaW.PrintWords Go.Proofs.YtbkighlfgaifeaaW.PrintLast Go.Proofs.YtbkighlfgaifeaaW.PrintMore
open Go.Proofs.YtbkighlfgaifeaaW.PrintWords renaming pw_below_drewN → pN, below_drew1 → p1, below_alloc → pA
open Go.Proofs.YtbkighlfgaifeaaW.PrintWords.Kd renaming R_alloc → kA, R_drewN → kN, R_drew → kD, Q_alloc → qA, Q_drewN → qN, Q_drew → qD, C_alloc → cA, C_drewN → cN, C_drew → cD
open Go.Proofs.YtbkighlfgaifeaaW.PrintWords.Aside0 renaming mk → aM
open List renaming setIfInBounds_toArray → sI, set_cons_zero → s0, set_cons_succ → sS, map_toArray → mT, length_take → lT, length_drop → lD, map_cons → mC, map_nil → mN
open Option renaming bind_eq_some_iff → oB, bind_some → oS
attribute [local go_sem] max2_int min2_int max_two min_two max_three min_three max_four min_four
set_option maxHeartbeats 8000000
set_option maxRecDepth 100000
set_option linter.unusedVariables false
set_option linter.unusedSimpArgs false
mutual
def spec_SeparateOnes.l0 : Nat → List Int → List Int → Int → Int → Int → List Int → Option (List Int × Bool)
 | 0, _, _, _, _, _, _ => none
 | k + 1, x4, x18, x19, x20, x355000, x355001 => if x20 < x19 then (if 0 ≤ x20 then (if x20 < (x18.length : Int) then (spec_SeparateOnes.l1 k x4 (rd x18 x20) x18 x19 x20 (x4.length : Int) 0 x355000 x355001) else (none)) else (none)) else ((spec_ttOnes.f k x355000 x355001).bind fun t365 => ((spec_nfApart.f k t365 x4 0 0).bind fun t368 => (some (t368, true))))
def spec_SeparateOnes.l1 : Nat → List Int → Int → List Int → Int → Int → Int → Int → Int → List Int → Option (List Int × Bool)
 | 0, _, _, _, _, _, _, _, _, _ => none
 | k + 1, x4, x6, x18, x19, x20, x25, x26, x355000, x355001 => if x26 < x25 then (if 0 ≤ (IntKind.u64.wrap (x26)) then (if (Go.bits .and .i64 (shr .i64 x6 (IntKind.u64.wrap (x26))) 1) = 1 then (if 0 ≤ x26 then (if x26 < (x4.length : Int) then (spec_SeparateOnes.l1 k (x4.set (x26 : Int).toNat (Go.bits .or .i64 (rd x4 x26) x6)) x6 x18 x19 x20 x25 (wrap64 (x26 + 1)) x355000 x355001) else (none)) else (none)) else (spec_SeparateOnes.l1 k x4 x6 x18 x19 x20 x25 (wrap64 (x26 + 1)) x355000 x355001)) else (none)) else (spec_SeparateOnes.l0 k x4 x18 x19 (wrap64 (x20 + 1)) x355000 x355001)
end
def spec_SeparateOnes.f (k : Nat) (a0_0 : Int) (l0_1 : List Int) : Option (List Int × Bool) := (spec_ttGood.f k a0_0 l0_1).bind fun t355 => (if t355 = true then (if 0 ≤ (l0_1.length : Int) then (if ((l0_1.length : Int) : Int).toNat ≤ 35184372088832 then ((spec_nfPrimes.f k a0_0 l0_1).bind fun t359 => ((spec_nfCovers.f k a0_0 l0_1 t359).bind fun t362 => (spec_SeparateOnes.l0 k (List.replicate ((l0_1.length : Int) : Int).toNat 0) t362 (t362.length : Int) 0 a0_0 l0_1))) else (none)) else (none)) else (some (([] : List Int), false)))
theorem spec_SeparateOnes.calls (k : Nat) (a0_0 : Int) (A0_1 : Option Addr) (c0_1 : Nat) (l0_1 : List Int) (r1 : List Int) (r2 : Bool) (w : World) (hr0_1 : Kd.C (Kd.int .i64) w A0_1 l0_1.length l0_1) (hc0_1 : l0_1.length ≤ c0_1) (h : spec_SeparateOnes.f k a0_0 l0_1 = some (r1, r2)) :
  Calls Try.prog 94 #[.agg #[.int .i64 a0_0, .slice A0_1 l0_1.length c0_1]] w fun e w' => ∃ v0_ : Value, e = .returned (.tuple #[v0_, .bool r2]) ∧ Kd.R (Kd.int .i64) 3 w' w.heap.size (fun _ => True) v0_ r1 ∧ Below w.heap.size w w' := by
 have hu60 := Try.underlying60
 have HR0_1 := aM hr0_1
 have HC0_1 := aM hc0_1
 clear hr0_1 hc0_1
 have HB := aM (Below.refl w.heap.size w)
 have H : ((spec_ttGood.f k a0_0 l0_1).bind fun t355 => (if t355 = true then (if 0 ≤ (l0_1.length : Int) then (if ((l0_1.length : Int) : Int).toNat ≤ 35184372088832 then ((spec_nfPrimes.f k a0_0 l0_1).bind fun t359 => ((spec_nfCovers.f k a0_0 l0_1 t359).bind fun t362 => (spec_SeparateOnes.l0 k (List.replicate ((l0_1.length : Int) : Int).toNat 0) t362 (t362.length : Int) 0 a0_0 l0_1))) else (none)) else (none)) else (some (([] : List Int), false)))) = some (r1, r2) := h
 clear h
 replace H := oB.mp H
 obtain ⟨t355, A20, H⟩ := H
 replace H : (if t355 = true then (if 0 ≤ (l0_1.length : Int) then (if ((l0_1.length : Int) : Int).toNat ≤ 35184372088832 then ((spec_nfPrimes.f k a0_0 l0_1).bind fun t359 => ((spec_nfCovers.f k a0_0 l0_1 t359).bind fun t362 => (spec_SeparateOnes.l0 k (List.replicate ((l0_1.length : Int) : Int).toNat 0) t362 (t362.length : Int) 0 a0_0 l0_1))) else (none)) else (none)) else (some (([] : List Int), false))) = some (r1, r2) := H
 have A2 := aM A20
 clear A20
 by_cases c3 : t355 = true
 ·subst c3
  have H1 : (if 0 ≤ (l0_1.length : Int) then (if ((l0_1.length : Int) : Int).toNat ≤ 35184372088832 then ((spec_nfPrimes.f k a0_0 l0_1).bind fun t359 => ((spec_nfCovers.f k a0_0 l0_1 t359).bind fun t362 => (spec_SeparateOnes.l0 k (List.replicate ((l0_1.length : Int) : Int).toNat 0) t362 (t362.length : Int) 0 a0_0 l0_1))) else (none)) else (none)) = some (r1, r2) := by rw [if_pos rfl] at H; exact H
  clear H; have H := H1; clear H1
  by_cases c4 : 0 ≤ (l0_1.length : Int)
  ·rw [if_pos c4] at H
   have c4b0 := eq_true c4; have c4b1 := decide_eq_true c4; clear c4
   by_cases c5 : ((l0_1.length : Int) : Int).toNat ≤ 35184372088832
   ·rw [if_pos c5] at H
    have c5b0 := eq_true c5; have c5b1 := decide_eq_true c5; clear c5; obtain ⟨y356, hy356⟩ : ∃ y_ : List Int, y_ = (List.replicate ((l0_1.length : Int) : Int).toNat 0) := ⟨_, rfl⟩; replace H : ((spec_nfPrimes.f k a0_0 l0_1).bind fun t359 => ((spec_nfCovers.f k a0_0 l0_1 t359).bind fun t362 => (spec_SeparateOnes.l0 k y356 t362 (t362.length : Int) 0 a0_0 l0_1))) = some (r1, r2) := by first | (rw [hy356]; with_reducible exact H) | (have H2_ := (oS _ _).symm.trans H; rw [hy356]; with_reducible exact H2_) | (have H2_ := (oS _ _).symm.trans H; with_reducible exact H2_) | with_reducible exact H | (rw [hy356]; exact H) | exact H
    have Ny356 := aM hy356; clear hy356; replace H := oB.mp H; obtain ⟨t359, A60, H⟩ := H; replace H : ((spec_nfCovers.f k a0_0 l0_1 t359).bind fun t362 => (spec_SeparateOnes.l0 k y356 t362 (t362.length : Int) 0 a0_0 l0_1)) = some (r1, r2) := H; have A6 := aM A60; clear A60; replace H := oB.mp H; obtain ⟨t362, A70, H⟩ := H; replace H : (spec_SeparateOnes.l0 k y356 t362 (t362.length : Int) 0 a0_0 l0_1) = some (r1, r2) := H; have A7 := aM A70; clear A70; have H' := aM H; clear H
    go_enter Try.func94, Try.ntmps94
    (try go_wp2_with (first | ((with_reducible refine gate_dst (N := 1) rfl ?_); refine box_event ?hg (N := 1) ?hd (cs := #[.int .i64 a0_0, .slice A0_1 l0_1.length c0_1]) (t := 60) ?hr ?_; (case hd => rfl); (case hg => rfl); (case hr => exact zc_); intro gb354 hg w8 hbox hb; have n_ := z (below_step za_ hb) <| z (hbox) <| z ((by rw [hg]; exact (below_size za_) : w.heap.size ≤ gb354)) <| z1 ((by rw [hg]; exact (below_size za_) : w.heap.size ≤ gb354)); clear HB; obtain ⟨HB, BK354, GW354, GE354⟩ := n_; clear hb hbox hg; have hcz9_0 : w8.cell? ⟨gb354, 0, none⟩ = some (.int .i64 a0_0) := (blk_cell BK354.out 0).trans rfl; have hcz9_1 : w8.cell? ⟨gb354, 1, none⟩ = some (.slice A0_1 l0_1.length c0_1) := (blk_cell BK354.out 1).trans rfl; have hfz9_0 := blk_frozen BK354.out 0; have hfz9_1 := blk_frozen BK354.out 1) | ((with_reducible refine gate_callee (f := 131) rfl ?_); refine goesL_ (some 9) rfl rfl Try.func131 (by kernel_rfl) rfl #[.agg #[.int .i64 a0_0, .slice A0_1 l0_1.length c0_1]] rfl ze_ ?_; (with_reducible refine (spec_ttGood.calls k a0_0 _ _ l0_1 true _ ?side1 ?side2 A2.out).mono ?_); (case side1 => exact zi_); (case side2 => exact HC0_1.out); rintro e w10 ⟨rfl, hb⟩; refine ⟨_, rfl, ?_⟩; have n_ := z (blk_below (zb BK354.out) hb) <| z1 (below_step zcb_ hb); clear BK354 HB; obtain ⟨BK354, HB⟩ := n_; clear hb; have hcz11_0 : w10.cell? ⟨gb354, 0, none⟩ = some (.int .i64 a0_0) := (blk_cell BK354.out 0).trans rfl; have hcz11_1 : w10.cell? ⟨gb354, 1, none⟩ = some (.slice A0_1 l0_1.length c0_1) := (blk_cell BK354.out 1).trans rfl; have hfz11_0 := blk_frozen BK354.out 0; have hfz11_1 := blk_frozen BK354.out 1) | ((with_reducible refine gate_dst (N := 14) rfl ?_); refine Kd.R_make (Kd.int .i64) _ 3 rfl (N := 14) rfl 24 _ _ rfl (l0_1.length : Int) rfl rfl Try.underlying24 (.int .i64 0) 8 info3 rfl (by decide) (by omega) 0 (ok := fun _ => True) (okp := fun _ => True) rfl (fun _ hk => hk) trivial (of_decide_eq_true zd_) (Nat.le_trans (Nat.mul_le_mul_right _ (of_decide_eq_true zd_ : (l0_1.length : Int).toNat ≤ 35184372088832)) (by omega)) (Below.refl _ _) (Nat.le_refl _) ?_; intro v357 w12 ho13 hb hg_ hnew_; clear hg_ hnew_; (first | rw [← Ny356.out] at ho13 | (simp only [Int.reduceToNat] at ho13; rw [← Ny356.out] at ho13)); have n_ := z (Kd.R_lower ho13 (below_size zcb_)) <| z (blk_below (zb BK354.out) hb) <| z1 (below_step zcb_ hb); clear BK354 HB; obtain ⟨HO358, BK354, HB⟩ := n_; clear hb ho13))); have n_ := z (kD HO358.out) <| z (blk_drew BK354.out) <| z1 (p1 HB.out)
    clear HO358 BK354 HB; obtain ⟨HO358, BK354, HB⟩ := n_
    refine start_ (n := 6) (S := fun w' => w'.cell? ⟨gb354, 0, none⟩ = some (.int .i64 a0_0) ∧ w'.cell? ⟨gb354, 1, none⟩ = some (.slice A0_1 l0_1.length c0_1)) (ds := []) #[fi,fi,fi,fi,fi,fi] (by kernel_rfl) rfl rfl ⟨(blk_cell BK354.out 0).trans rfl, (blk_cell BK354.out 1).trans rfl⟩ (fun hHeld => ?_)
    generalize w12.drew = w14 at HO358 BK354 HB hHeld ⊢
    refine pure_ (i := 5) (N := some 20) (v := ?_) (a' := ?_) #[fi,fi,fi,fi,fi,ti] rfl rfl (by kernel_rfl) (fun _ _ _ h => h) (Or.inl ⟨by rfl, ?_⟩) ?_ ?_; rotate_left; (· (intro w'; go_simp; with_reducible rfl)); rotate_left; (· (simp only [Act.put, sI, s0, sS, i64_w, i32_w]; rfl))
    refine take_ (i := 0) (N := some 15) (v := ?_) (a' := ?_) #[ti,fi,fi,fi,fi,ti] rfl rfl (by kernel_rfl) (fun _ _ _ h => h) (Or.inl ⟨by rfl, ?_⟩) hHeld ?_ ?_
    rotate_left
    ·rintro w' ⟨s0, s1⟩
     go_simp
     with_reducible rfl
    rotate_left
    ·simp only [Act.put, sI, s0, sS, i64_w, i32_w]
     rfl
    refine take_ (i := 1) (N := some 16) (v := ?_) (a' := ?_) #[ti,ti,fi,fi,fi,ti] rfl rfl (by kernel_rfl) (fun _ _ _ h => h) (Or.inl ⟨by rfl, ?_⟩) hHeld ?_ ?_
    rotate_left
    ·rintro w' ⟨s0, s1⟩
     go_simp
     with_reducible rfl
    rotate_left
    ·simp only [Act.put, sI, s0, sS, i64_w, i32_w]
     rfl
    refine one_ (i := 2) (N := some 17) #[ti,ti,ti,fi,fi,ti] rfl rfl (by kernel_rfl) (by decide) (fun K hK => ?_)
    refine goes_ Try.func132 (by kernel_rfl) rfl #[.agg #[.int .i64 a0_0, .slice A0_1 l0_1.length c0_1]] (by rfl) rfl rfl ze_ ?_
    with_reducible refine (spec_nfPrimes.calls k a0_0 _ _ l0_1 t359 _ ?side1 ?side2 A6.out).mono ?_
    (case side1 => exact zi_)
    (case side2 => exact HC0_1.out)
    rintro e w15 ⟨v360, rfl, ho0, hb⟩
    refine ⟨_, rfl, ?_⟩
    have n_ := z (Kd.R_below (zr HO358.out) hb) <| z (Kd.R_lower ho0 (below_size zcb_)) <| z (blk_below (zb BK354.out) hb) <| z1 (below_step zcb_ hb)
    clear HO358 BK354 HB; obtain ⟨HO358, HO361, BK354, HB⟩ := n_; (try clear hb); (try clear hb2); (try clear hk); (try clear hi); (try clear ho0); obtain ⟨Ao16, co16, eo16⟩ := Kd.R_slice HO361.out; (first | subst eo16 | (injection eo16 with f1_ f2_ f3_; have f4_ := f1_.symm; have f5_ := f3_.symm; clear f1_ f2_ f3_; subst f4_; subst f5_))
    refine hK.out _ _ ⟨(blk_cell BK354.out 0).trans rfl, (blk_cell BK354.out 1).trans rfl⟩ (fun hHeld => ?_)
    clear hK K
    refine norm_ (a' := ?_) ?_ ?_
    rotate_left
    ·show Act.put _ (some 17) _ = _
     simp only [Act.put, sI, s0, sS, i64_w, i32_w]
     rfl
    refine one_ (i := 3) (N := some 18) #[ti,ti,ti,ti,fi,ti] rfl rfl (by kernel_rfl) (by decide) (fun K hK => ?_)
    refine goes_ Try.func133 (by kernel_rfl) rfl #[.agg #[.int .i64 a0_0, .slice A0_1 l0_1.length c0_1], .slice Ao16 t359.length co16] (by rfl) rfl rfl ze_ ?_
    with_reducible refine (spec_nfCovers.calls k a0_0 _ _ l0_1 _ _ t359 t362 _ ?side1 ?side2 ?side3 ?side4 A7.out).mono ?_
    (case side1 => exact zi_)
    (case side2 => exact HC0_1.out)
    (case side3 => repeat (first | exact (Kd.R_reads' HO361.out).2.2 | (with_reducible refine cA ?_ _) | (with_reducible refine cN ?_ _) | (with_reducible refine cD ?_)))
    (case side4 => exact (Kd.R_reads' HO361.out).2.1)
    rintro e w17 ⟨v363, rfl, ho0, hb⟩
    refine ⟨_, rfl, ?_⟩
    have n_ := z (Kd.R_elder' (zr HO358.out) (Kd.R_base ho0) hb) <| z (Kd.R_below (zr HO361.out) hb) <| z (Kd.R_lower (Kd.R_new' ho0 (Kd.R_lt (zr HO358.out))) (below_size zcb_)) <| z (blk_below (zb BK354.out) hb) <| z1 (below_step zcb_ hb)
    clear HO358 HO361 BK354 HB; obtain ⟨HO358, HO361, HO364, BK354, HB⟩ := n_; (try clear hb); (try clear hb2); (try clear hk); (try clear hi); (try clear ho0); obtain ⟨Ao18, co18, eo18⟩ := Kd.R_slice HO364.out; (first | subst eo18 | (injection eo18 with f1_ f2_ f3_; have f4_ := f1_.symm; have f5_ := f3_.symm; clear f1_ f2_ f3_; subst f4_; subst f5_))
    refine hK.out _ _ ⟨(blk_cell BK354.out 0).trans rfl, (blk_cell BK354.out 1).trans rfl⟩ (fun hHeld => ?_)
    clear hK K
    refine norm_ (a' := ?_) ?_ ?_
    rotate_left
    ·show Act.put _ (some 18) _ = _
     simp only [Act.put, sI, s0, sS, i64_w, i32_w]
     rfl
    refine pure_ (i := 4) (N := some 19) (v := ?_) (a' := ?_) #[ti,ti,ti,ti,ti,ti] rfl rfl (by kernel_rfl) (fun _ _ _ h => h) (Or.inl ⟨by rfl, ?_⟩) ?_ ?_; rotate_left; (· (intro w'; go_simp; with_reducible rfl)); rotate_left; (· (simp only [Act.put, sI, s0, sS, i64_w, i32_w]; rfl))
    refine done_ (by kernel_rfl) ?_
    (try go_wp2)
    go_loopg [20] k (fun kq v20 w' => ∃ (x4_1 : List Int) (x20_1 : Int), v20 = .int .i64 x20_1 ∧ Aside0 (spec_SeparateOnes.l0 kq x4_1 t362 (t362.length : Int) x20_1 a0_0 l0_1 = some (r1, r2)) ∧ Aside0 (kq ≤ k) ∧ Aside0 (Kd.R (Kd.int .i64) 3 w' w.heap.size (fun k_ => some k_ ≠ ((.slice Ao18 t362.length co18) : Value).ownBlock) v357 x4_1) ∧ Aside0 (Kd.R (Kd.int .i64) 3 w' w.heap.size (fun k_ => some k_ ≠ (v357 : Value).ownBlock) (.slice Ao18 t362.length co18) t362) ∧ Aside0 (w'.heap[gb354]? = some (.cells #[.int .i64 a0_0, (.slice A0_1 l0_1.length c0_1)] 60 (0, 0))) ∧ Aside0 (Below w.heap.size w w'))
    case atStart => exact ⟨(y356), (0), zb_, H', ⟨Nat.le_refl _⟩, ⟨by refine zr ?_; exact Kd.R_mono HO358.out (fun _ hk => hk.2)⟩, ⟨by refine zr ?_; exact Kd.R_mono HO364.out (fun _ hk => hk.2)⟩, ⟨zb BK354.out⟩, ⟨zcb_⟩⟩
    case round =>
     clear H'; (try clear c4b0); (try clear c4b1); (try clear c5b0); (try clear c5b1); (try clear hcz11_0); (try clear hcz11_1); (try clear hcz9_0); (try clear hcz9_1); (try clear hfz11_0); (try clear hfz11_1); (try clear hfz9_0); (try clear hfz9_1); obtain ⟨x4_1, x20_1, rfl, HA, HK1, HO_4, HO_18, BK354, HB⟩ := hrel
     cases gk with
     | zero => exact absurd HA.out (by simp [spec_SeparateOnes.l0])
     | succ k1 =>
      have H := HA.out; clear HA
      simp only [spec_SeparateOnes.l0] at H
      by_cases c19 : x20_1 < (t362.length : Int)
      ·rw [if_pos c19] at H
       have c19b0 := decide_eq_true c19; clear c19
       by_cases c20 : 0 ≤ x20_1
       ·rw [if_pos c20] at H
        have c20b0 := decide_eq_true c20; clear c20
        by_cases c21 : x20_1 < (t362.length : Int)
        ·rw [if_pos c21] at H
         have c21b0 := decide_eq_true c21; clear c21; have H' := aM H; clear H; have p371 : 0 ≤ (x20_1 : Int) := of_decide_eq_true zd_; have q371 : x20_1 < (t362.length : Int) := of_decide_eq_true zd_; obtain ⟨ad371, e371, hx371_0⟩ := Kd.at_int (Kd.R_reads' HO_18.out).2.2 x20_1 p371 q371
         cases e371
         replace p371 := eq_true p371; replace q371 := eq_true q371; obtain ⟨Ao22, co22, eo22⟩ := Kd.R_slice HO_4.out; subst eo22
         go_wp2
         go_loopg [26] k1 (fun kq v26 w' => ∃ (x4_2 : List Int) (x26_2 : Int), v26 = .int .i64 x26_2 ∧ Aside0 (spec_SeparateOnes.l1 kq x4_2 (rd t362 x20_1) t362 (t362.length : Int) x20_1 (x4_1.length : Int) x26_2 a0_0 l0_1 = some (r1, r2)) ∧ Aside0 (kq ≤ k1) ∧ Aside0 (Kd.R (Kd.int .i64) 3 w' w.heap.size (fun k_ => some k_ ≠ ((.slice (some ad371) t362.length co18) : Value).ownBlock) (.slice Ao22 x4_1.length co22) x4_2) ∧ Aside0 (Kd.R (Kd.int .i64) 3 w' w.heap.size (fun k_ => some k_ ≠ ((.slice Ao22 x4_1.length co22) : Value).ownBlock) (.slice (some ad371) t362.length co18) t362) ∧ Aside0 (w'.heap[gb354]? = some (.cells #[.int .i64 a0_0, (.slice A0_1 l0_1.length c0_1)] 60 (0, 0))) ∧ Aside0 (Below w.heap.size w w'))
         case atStart => exact ⟨(x4_1), (0), zb_, H', ⟨Nat.le_refl _⟩, ⟨zr HO_4.out⟩, ⟨zr HO_18.out⟩, ⟨zb BK354.out⟩, ⟨zcb_⟩⟩
         case round =>
          clear H'; (try clear c19b0); (try clear c20b0); (try clear c21b0); (try clear hx371_0); (try clear p371); (try clear q371); obtain ⟨x4_2, x26_2, rfl, HA, HK2, HO_4, HO_18, BK354, HB⟩ := hrel; have hl4_2 := (Kd.R_reads' HO_4.out).1; rw [hl4_2] at HO_4; (try simp only [hl4_2]); (try simp only [hl4_2] at BK354); (try simp only [hl4_2] at HO_18)
          cases gk with
          | zero => exact absurd HA.out (by simp [spec_SeparateOnes.l1])
          | succ k2 =>
           have H := HA.out; clear HA
           simp only [spec_SeparateOnes.l1] at H
           by_cases c23 : x26_2 < (x4_1.length : Int)
           ·rw [if_pos c23] at H
            have c23b0 := decide_eq_true c23; (try (have c23z0 := c23b0; rw [hl4_2] at c23z0)); clear c23; obtain ⟨ji24, hji24⟩ : ∃ j_ : Int, (IntKind.u64.wrap (x26_2)) = j_ := ⟨_, rfl⟩; replace H : (if 0 ≤ (ji24) then (if (Go.bits .and .i64 (shr .i64 (rd t362 x20_1) (ji24)) 1) = 1 then (if 0 ≤ x26_2 then (if x26_2 < (x4_2.length : Int) then (spec_SeparateOnes.l1 k2 (x4_2.set (x26_2 : Int).toNat (Go.bits .or .i64 (rd x4_2 x26_2) (rd t362 x20_1))) (rd t362 x20_1) t362 (t362.length : Int) x20_1 (x4_1.length : Int) (wrap64 (x26_2 + 1)) a0_0 l0_1) else (none)) else (none)) else (spec_SeparateOnes.l1 k2 x4_2 (rd t362 x20_1) t362 (t362.length : Int) x20_1 (x4_1.length : Int) (wrap64 (x26_2 + 1)) a0_0 l0_1)) else (none)) = some (r1, r2) := by first | (rw [hji24] at H; exact H) | (simp only [hji24] at H ⊢; exact H)
            by_cases c25 : 0 ≤ (ji24)
            ·rw [if_pos c25] at H
             have c25b0 := eq_true c25; have c25b1 := decide_eq_true c25; clear c25; obtain ⟨ji26, hji26⟩ : ∃ j_ : Int, (shr .i64 (rd t362 x20_1) (ji24)) = j_ := ⟨_, rfl⟩; replace H : (if (Go.bits .and .i64 (ji26) 1) = 1 then (if 0 ≤ x26_2 then (if x26_2 < (x4_2.length : Int) then (spec_SeparateOnes.l1 k2 (x4_2.set (x26_2 : Int).toNat (Go.bits .or .i64 (rd x4_2 x26_2) (rd t362 x20_1))) (rd t362 x20_1) t362 (t362.length : Int) x20_1 (x4_1.length : Int) (wrap64 (x26_2 + 1)) a0_0 l0_1) else (none)) else (none)) else (spec_SeparateOnes.l1 k2 x4_2 (rd t362 x20_1) t362 (t362.length : Int) x20_1 (x4_1.length : Int) (wrap64 (x26_2 + 1)) a0_0 l0_1)) = some (r1, r2) := by first | (rw [hji26] at H; exact H) | (simp only [hji26] at H ⊢; exact H)
             have hji26_ : ((rd t362 x20_1) / 2 ^ min (ji24).toNat 64) = ji26 := hji26; have hji26z : (ji24) ≤ 64 → ((rd t362 x20_1) / 2 ^ (ji24).toNat) = ji26 := shr_small hji26
             by_cases c27 : (Go.bits .and .i64 (ji26) 1) = 1
             ·rw [if_pos c27] at H
              have c27b0 := beq_iff_eq.mpr c27; have c27b1 := bne_eq_false_iff_eq.mpr c27; clear c27
              by_cases c28 : 0 ≤ x26_2
              ·rw [if_pos c28] at H
               have c28b0 := decide_eq_true c28; clear c28
               by_cases c29 : x26_2 < (x4_2.length : Int)
               ·rw [if_pos c29] at H
                have c29b0 := decide_eq_true c29; (try (have c29z0 := c29b0; rw [hl4_2] at c29z0)); clear c29; obtain ⟨y373, hy373⟩ : ∃ y_ : List Int, y_ = (x4_2.set (x26_2 : Int).toNat (Go.bits .or .i64 (rd x4_2 x26_2) (rd t362 x20_1))) := ⟨_, rfl⟩; replace H : (spec_SeparateOnes.l1 k2 y373 (rd t362 x20_1) t362 (t362.length : Int) x20_1 (x4_1.length : Int) (wrap64 (x26_2 + 1)) a0_0 l0_1) = some (r1, r2) := by first | (rw [hy373]; with_reducible exact H) | (have H2_ := (oS _ _).symm.trans H; rw [hy373]; with_reducible exact H2_) | (have H2_ := (oS _ _).symm.trans H; with_reducible exact H2_) | with_reducible exact H | (rw [hy373]; exact H) | exact H
                have Ny373 := aM hy373; clear hy373; have H' := aM H; clear H; have p372 : 0 ≤ (x26_2 : Int) := of_decide_eq_true zd_; have q372 : x26_2 < (x4_2.length : Int) := of_decide_eq_true zd_; obtain ⟨ad372, e372, hx372_0⟩ := Kd.at_int (Kd.R_reads' HO_4.out).2.2 x26_2 p372 q372
                cases e372
                replace p372 := eq_true p372; replace q372 := eq_true q372; have p30 : 0 ≤ (x26_2 : Int) := of_decide_eq_true zd_; have q30 : (x26_2 : Int) < ((x4_2.length : Int) : Int) := of_decide_eq_true zd_; obtain ⟨go30, co30, eo30, gb30, gl30, cl30, HG30⟩ := Kd.R_form HO_4.out (by omega); (first | cases eo30 | (injection eo30 with ea_ en_ ec_; (first | subst ea_ | (injection ea_ with ea_; subst ea_)); subst ec_; clear en_)); have GB30 := aM gb30; have GG30 := aM HG30; clear gb30 gl30 HG30; (first | simp only [add_plain] at hx372_0 | skip); obtain ⟨hx30_0, hf30_0⟩ := Kd.R_celln 0 HO_4.out (x26_2 : Int) p30 q30; replace p30 := eq_true p30; replace q30 := eq_true q30; have HP31 := Kd.R_putg HO_4.out (x26_2 : Int) (Go.bits .or .i64 (rd x4_2 x26_2) (rd t362 x20_1))
                go_wp2_with (first | ((with_reducible refine gate_store (t := 3) (p := 41) rfl ?_); refine store_event (t := 3) (p := 41) (v := ?vo_w32) (w1 := (wr.setCell ⟨go30, (x26_2 : Int).toNat, none⟩ (.int .i64 (Go.bits .or .i64 (rd x4_2 x26_2) (rd t362 x20_1))))) ?hg ?ho ?hn ?hr ?_; (case ho => rfl); (case hg => rfl); (case hn => rfl); (case hr => exact zc_); intro w32 hw; have hg : wr.grownBy w32 (some go30) := (by rw [hw]; exact HP31.2); have hp_ : Kd.R (Kd.int .i64) 3 w32 w.heap.size (fun k_ => some k_ ≠ (.slice (some ad371) t362.length co18 : Value).ownBlock) (.slice (some ⟨go30, 0, none⟩) x4_2.length co22) y373 := (by rw [hw, Ny373.out]; exact HP31.1); clear HP31; have n_ := z (hp_) <| z (Kd.R_after (v := (.slice (some ⟨go30, 0, none⟩) x4_2.length co22)) (v1 := (.slice (some ⟨go30, 0, none⟩) x4_2.length co22)) (ok := (fun _ => True)) (by refine zr ?_; exact Kd.R_mono HO_18.out (fun _ hk => ⟨trivial, hk⟩)) hg (.inl rfl)) <| z (blk_grown (g := gb354) (o := .cells #[.int .i64 a0_0, .slice A0_1 l0_1.length c0_1] 60 (0, 0)) (zb BK354.out) hg (Kd.R_ne HO_4.out BK354.out (by decide))) <| z1 ((by rw [hw]; exact below_set (HB.out) GB30.out : Below w.heap.size w w32)); clear HO_4 HO_18 BK354 HB; obtain ⟨HO_4, HO_18, BK354, HB⟩ := n_; clear hg hw hp_))
                (try simp only [← hl4_2])
                go_roundg k2
                case measure => have := HK1.out; have := HK2.out; omega
                case rel => exact ⟨(y373), (wrap64 (x26_2 + 1)), zb_, H', ⟨zci_⟩, ⟨by (try simp only [hl4_2]); refine zr ?_; exact HO_4.out⟩, ⟨by (try simp only [hl4_2]); refine zr ?_; exact Kd.R_mono HO_18.out (fun _ hk => hk.2)⟩, ⟨by (try simp only [hl4_2]); refine zb ?_; exact BK354.out⟩, ⟨zcb_⟩⟩
               ·rw [if_neg c29] at H
                exact absurd H (by simp)
              ·rw [if_neg c28] at H
               exact absurd H (by simp)
             ·rw [if_neg c27] at H
              have c27b0 := beq_eq_false_iff_ne.mpr c27; have c27b1 := bne_iff_ne.mpr c27; have H' := aM H; clear H
              go_wp2
              (try simp only [← hl4_2])
              go_roundg k2
              case measure => have := HK1.out; have := HK2.out; omega
              case rel => exact ⟨(x4_2), (wrap64 (x26_2 + 1)), zb_, H', ⟨zci_⟩, ⟨by (try simp only [hl4_2]); refine zr ?_; exact HO_4.out⟩, ⟨by (try simp only [hl4_2]); refine zr ?_; exact HO_18.out⟩, ⟨by (try simp only [hl4_2]); refine zb ?_; exact BK354.out⟩, ⟨zcb_⟩⟩
            ·rw [if_neg c25] at H
             exact absurd H (by simp)
           ·rw [if_neg c23] at H
            have c23b0 := decide_eq_false c23; (try (have c23z0 := c23b0; rw [hl4_2] at c23z0)); clear c23; have H' := aM H; clear H
            go_wp2
            (try simp only [← hl4_2])
            go_roundg k2
            case measure => have := HK1.out; have := HK2.out; omega
            case rel => exact ⟨(x4_2), (wrap64 (x20_1 + 1)), zb_, H', ⟨zci_⟩, ⟨by (try simp only [hl4_2]); refine zr ?_; exact HO_4.out⟩, ⟨by (try simp only [hl4_2]); refine zr ?_; exact HO_18.out⟩, ⟨by (try simp only [hl4_2]); refine zb ?_; exact BK354.out⟩, ⟨zcb_⟩⟩
        ·rw [if_neg c21] at H
         exact absurd H (by simp)
       ·rw [if_neg c20] at H
        exact absurd H (by simp)
      ·rw [if_neg c19] at H
       have c19b0 := decide_eq_false c19; clear c19; replace H := oB.mp H; obtain ⟨t365, A330, H⟩ := H; replace H : ((spec_nfApart.f k1 t365 x4_1 0 0).bind fun t368 => (some (t368, true))) = some (r1, r2) := H; have A33 := aM A330; clear A330; replace H := oB.mp H; obtain ⟨t368, A340, H⟩ := H; replace H : (some (t368, true)) = some (r1, r2) := H; have A34 := aM A340; clear A340
       simp only [Option.some.injEq, Prod.mk.injEq] at H
       obtain ⟨rfl, rfl⟩ := H; have hcz35_0 : wr.cell? ⟨gb354, 0, none⟩ = some (.int .i64 a0_0) := (blk_cell BK354.out 0).trans rfl; have hcz35_1 : wr.cell? ⟨gb354, 1, none⟩ = some (.slice A0_1 l0_1.length c0_1) := (blk_cell BK354.out 1).trans rfl; have hfz35_0 := blk_frozen BK354.out 0; have hfz35_1 := blk_frozen BK354.out 1
       go_wp2_with (first | ((with_reducible refine gate_callee (f := 172) rfl ?_); refine goesL_ (some 45) rfl rfl Try.func172 (by kernel_rfl) rfl #[.agg #[.int .i64 a0_0, .slice A0_1 l0_1.length c0_1]] rfl ze_ ?_; (with_reducible refine (spec_ttOnes.calls k1 a0_0 _ _ l0_1 t365 _ ?side1 ?side2 A33.out).mono ?_); (case side1 => exact zi_); (case side2 => exact HC0_1.out); rintro e w36 ⟨v366, rfl, ho0, hb⟩; refine ⟨_, rfl, ?_⟩; have n_ := z (Kd.R_elder' (zr HO_4.out) (Kd.R_base ho0) hb) <| z (Kd.R_elder' (zr HO_18.out) (Kd.R_base ho0) hb) <| z (Kd.R_lower (Kd.R_new' (Kd.R_new' ho0 (Kd.R_lt (zr HO_4.out))) (Kd.R_lt (zr HO_18.out))) (below_size zcb_)) <| z (blk_below (zb BK354.out) hb) <| z1 (below_step zcb_ hb); clear HO_4 HO_18 BK354 HB; obtain ⟨HO_4, HO_18, HO367, BK354, HB⟩ := n_; clear hb; (try clear ho0); obtain ⟨Ao37, co37, eo37⟩ := Kd.R_slice HO367.out; subst eo37; obtain ⟨Ao38, co38, eo38⟩ := Kd.R_slice HO_4.out; subst eo38) | ((with_reducible refine gate_callee (f := 171) rfl ?_); refine goesL_ (some 47) rfl rfl Try.func171 (by kernel_rfl) rfl #[.slice Ao37 t365.length co37, .slice Ao38 x4_1.length co38, .int .i64 0, .int .i64 0] rfl ze_ ?_; (with_reducible refine (spec_nfApart.calls k1 _ _ t365 _ _ x4_1 0 0 t368 _ ?side1 ?side2 ?side3 ?side4 A34.out).mono ?_); (case side1 => repeat (first | exact (Kd.R_reads' HO367.out).2.2 | (with_reducible refine cA ?_ _) | (with_reducible refine cN ?_ _) | (with_reducible refine cD ?_))); (case side2 => exact (Kd.R_reads' HO367.out).2.1); (case side3 => repeat (first | exact (Kd.R_reads' HO_4.out).2.2 | (with_reducible refine cA ?_ _) | (with_reducible refine cN ?_ _) | (with_reducible refine cD ?_))); (case side4 => exact (Kd.R_reads' HO_4.out).2.1); rintro e w39 ⟨v369, rfl, ho0, hb⟩; refine ⟨_, rfl, ?_⟩; have n_ := z (Kd.R_elder' (zr HO_4.out) (Kd.R_base ho0) hb) <| z (Kd.R_elder' (zr HO_18.out) (Kd.R_base ho0) hb) <| z (Kd.R_elder' (zr HO367.out) (Kd.R_base ho0) hb) <| z (Kd.R_lower (Kd.R_new' (Kd.R_new' (Kd.R_new' ho0 (Kd.R_lt (zr HO_4.out))) (Kd.R_lt (zr HO_18.out))) (Kd.R_lt (zr HO367.out))) (below_size zcb_)) <| z (blk_below (zb BK354.out) hb) <| z1 (below_step zcb_ hb); clear HO_4 HO_18 HO367 BK354 HB; obtain ⟨HO_4, HO_18, HO367, HO370, BK354, HB⟩ := n_; clear hb; (try clear ho0)))
       go_ret2
       exact ⟨_, zf_, by refine zr ?_; exact Kd.R_mono HO370.out (fun _ hk => trivial), zcb_⟩
   ·rw [if_neg c5] at H
    exact absurd H (by simp)
  ·rw [if_neg c4] at H
   exact absurd H (by simp)
 ·replace c3 := Bool.eq_false_iff.mpr c3
  subst c3; have H1 : (some (([] : List Int), false)) = some (r1, r2) := by rw [if_neg (show ¬ (false = true) by decide)] at H; exact H
  clear H; have H := H1; clear H1
  simp only [Option.some.injEq, Prod.mk.injEq] at H
  obtain ⟨rfl, rfl⟩ := H
  go_enter Try.func94, Try.ntmps94
  go_wp2_with (first | ((with_reducible refine gate_dst (N := 1) rfl ?_); refine box_event ?hg (N := 1) ?hd (cs := #[.int .i64 a0_0, .slice A0_1 l0_1.length c0_1]) (t := 60) ?hr ?_; (case hd => rfl); (case hg => rfl); (case hr => exact zc_); intro gb354 hg w40 hbox hb; have n_ := z (below_step za_ hb) <| z (hbox) <| z ((by rw [hg]; exact (below_size za_) : w.heap.size ≤ gb354)) <| z1 ((by rw [hg]; exact (below_size za_) : w.heap.size ≤ gb354)); clear HB; obtain ⟨HB, BK354, GW354, GE354⟩ := n_; clear hb hbox hg; have hcz41_0 : w40.cell? ⟨gb354, 0, none⟩ = some (.int .i64 a0_0) := (blk_cell BK354.out 0).trans rfl; have hcz41_1 : w40.cell? ⟨gb354, 1, none⟩ = some (.slice A0_1 l0_1.length c0_1) := (blk_cell BK354.out 1).trans rfl; have hfz41_0 := blk_frozen BK354.out 0; have hfz41_1 := blk_frozen BK354.out 1) | ((with_reducible refine gate_callee (f := 131) rfl ?_); refine goesL_ (some 9) rfl rfl Try.func131 (by kernel_rfl) rfl #[.agg #[.int .i64 a0_0, .slice A0_1 l0_1.length c0_1]] rfl ze_ ?_; (with_reducible refine (spec_ttGood.calls k a0_0 _ _ l0_1 false _ ?side1 ?side2 A2.out).mono ?_); (case side1 => exact zi_); (case side2 => exact HC0_1.out); rintro e w42 ⟨rfl, hb⟩; refine ⟨_, rfl, ?_⟩; have n_ := z (blk_below (zb BK354.out) hb) <| z1 (below_step zcb_ hb); clear BK354 HB; obtain ⟨BK354, HB⟩ := n_; clear hb))
  go_ret2
  exact ⟨_, zf_, zbi_, zcb_⟩
def spec_nfTerm.f (a0 : Int) (a1_0 : Int) (a1_1 : Int) : Option (Bool) := (spec_ttInputs.f a0).bind fun t375 => (if t375 = true then (if 0 ≤ (IntKind.u64.wrap (a0)) then ((spec_l1In.f a1_0 0 (wrap64 ((shl .i64 1 (IntKind.u64.wrap (a0))) - 1))).bind fun t376 => (if t376 = true then ((spec_l1In.f a1_1 0 a1_0).bind fun t377 => (if t377 = true then (some ((Go.bits .and .i64 a1_1 a1_0) == a1_1)) else (some false))) else (some false))) else (none)) else (some false))
theorem spec_nfTerm.calls (a0 : Int) (a1_0 : Int) (a1_1 : Int) (r : Bool) (w : World) (h : spec_nfTerm.f a0 a1_0 a1_1 = some r) :
  Calls Try.prog 135 #[.int .i64 a0, .agg #[.int .i64 a1_0, .int .i64 a1_1]] w fun e w' => e = .returned (.bool r) ∧ Below w.heap.size w w' := by
 have hu72 := Try.underlying72
 have HB := aM (Below.refl w.heap.size w)
 have H : ((spec_ttInputs.f a0).bind fun t375 => (if t375 = true then (if 0 ≤ (IntKind.u64.wrap (a0)) then ((spec_l1In.f a1_0 0 (wrap64 ((shl .i64 1 (IntKind.u64.wrap (a0))) - 1))).bind fun t376 => (if t376 = true then ((spec_l1In.f a1_1 0 a1_0).bind fun t377 => (if t377 = true then (some ((Go.bits .and .i64 a1_1 a1_0) == a1_1)) else (some false))) else (some false))) else (none)) else (some false))) = some r := h
 clear h
 replace H := oB.mp H
 obtain ⟨t375, A30, H⟩ := H
 replace H : (if t375 = true then (if 0 ≤ (IntKind.u64.wrap (a0)) then ((spec_l1In.f a1_0 0 (wrap64 ((shl .i64 1 (IntKind.u64.wrap (a0))) - 1))).bind fun t376 => (if t376 = true then ((spec_l1In.f a1_1 0 a1_0).bind fun t377 => (if t377 = true then (some ((Go.bits .and .i64 a1_1 a1_0) == a1_1)) else (some false))) else (some false))) else (none)) else (some false)) = some r := H
 have A3 := aM A30
 clear A30
 by_cases c4 : t375 = true
 ·subst c4
  have H1 : (if 0 ≤ (IntKind.u64.wrap (a0)) then ((spec_l1In.f a1_0 0 (wrap64 ((shl .i64 1 (IntKind.u64.wrap (a0))) - 1))).bind fun t376 => (if t376 = true then ((spec_l1In.f a1_1 0 a1_0).bind fun t377 => (if t377 = true then (some ((Go.bits .and .i64 a1_1 a1_0) == a1_1)) else (some false))) else (some false))) else (none)) = some r := by rw [if_pos rfl] at H; exact H
  clear H; have H := H1; clear H1; obtain ⟨ji5, hji5⟩ : ∃ j_ : Int, (IntKind.u64.wrap (a0)) = j_ := ⟨_, rfl⟩; replace H : (if 0 ≤ (ji5) then ((spec_l1In.f a1_0 0 (wrap64 ((shl .i64 1 (ji5)) - 1))).bind fun t376 => (if t376 = true then ((spec_l1In.f a1_1 0 a1_0).bind fun t377 => (if t377 = true then (some ((Go.bits .and .i64 a1_1 a1_0) == a1_1)) else (some false))) else (some false))) else (none)) = some r := by first | (rw [hji5] at H; exact H) | (simp only [hji5] at H ⊢; exact H)
  (try rw [hji5] at A3)
  by_cases c6 : 0 ≤ (ji5)
  ·rw [if_pos c6] at H
   have c6b0 := eq_true c6; have c6b1 := decide_eq_true c6; clear c6; obtain ⟨ji7, hji7⟩ : ∃ j_ : Int, (shl .i64 1 (ji5)) = j_ := ⟨_, rfl⟩; replace H : ((spec_l1In.f a1_0 0 (wrap64 ((ji7) - 1))).bind fun t376 => (if t376 = true then ((spec_l1In.f a1_1 0 a1_0).bind fun t377 => (if t377 = true then (some ((Go.bits .and .i64 a1_1 a1_0) == a1_1)) else (some false))) else (some false))) = some r := by first | (rw [hji7] at H; exact H) | (simp only [hji7] at H ⊢; exact H)
   (try rw [hji7] at A3); have hji7_ : (IntKind.i64.wrap (1 * 2 ^ min (ji5).toNat 64)) = ji7 := hji7; have hji7z : (ji5) ≤ 64 → (IntKind.i64.wrap (1 * 2 ^ (ji5).toNat)) = ji7 := shl_small hji7; have hji7u : (IntKind.i64.wrap (2 ^ min (ji5).toNat 64)) = ji7 := by have h_ := hji7_; rw [Int.one_mul] at h_; exact h_
   have hji7v : (ji5) ≤ 64 → (IntKind.i64.wrap (2 ^ (ji5).toNat)) = ji7 := fun hle_ => by have h_ := hji7z hle_; rw [Int.one_mul] at h_; exact h_
   have hji7y : (wrap64 (1 * 2 ^ min (ji5).toNat 64)) = ji7 := (i64_w _).symm.trans hji7_; have hji7x : (ji5) ≤ 64 → (wrap64 (1 * 2 ^ (ji5).toNat)) = ji7 := fun h_ => (i64_w _).symm.trans (hji7z h_)
   replace H := oB.mp H; obtain ⟨t376, A80, H⟩ := H; replace H : (if t376 = true then ((spec_l1In.f a1_1 0 a1_0).bind fun t377 => (if t377 = true then (some ((Go.bits .and .i64 a1_1 a1_0) == a1_1)) else (some false))) else (some false)) = some r := H; have A8 := aM A80; clear A80
   by_cases c9 : t376 = true
   ·subst c9
    have H1 : ((spec_l1In.f a1_1 0 a1_0).bind fun t377 => (if t377 = true then (some ((Go.bits .and .i64 a1_1 a1_0) == a1_1)) else (some false))) = some r := by rw [if_pos rfl] at H; exact H
    clear H; have H := H1; clear H1; replace H := oB.mp H; obtain ⟨t377, A100, H⟩ := H; replace H : (if t377 = true then (some ((Go.bits .and .i64 a1_1 a1_0) == a1_1)) else (some false)) = some r := H; have A10 := aM A100; clear A100
    by_cases c11 : t377 = true
    ·subst c11
     have H1 : (some ((Go.bits .and .i64 a1_1 a1_0) == a1_1)) = some r := by rw [if_pos rfl] at H; exact H
     clear H; have H := H1; clear H1; obtain rfl := Option.some.inj H
     go_enter Try.func135, Try.ntmps135
     go_wp2_with (first | ((with_reducible refine gate_dst (N := 3) rfl ?_); refine box_event ?hg (N := 3) ?hd (cs := #[.int .i64 a1_0, .int .i64 a1_1]) (t := 72) ?hr ?_; (case hd => rfl); (case hg => rfl); (case hr => exact zc_); intro gb374 hg w12 hbox hb; have n_ := z (below_step za_ hb) <| z (hbox) <| z ((by rw [hg]; exact (below_size za_) : w.heap.size ≤ gb374)) <| z1 ((by rw [hg]; exact (below_size za_) : w.heap.size ≤ gb374)); clear HB; obtain ⟨HB, BK374, GW374, GE374⟩ := n_; clear hb hbox hg) | ((with_reducible refine gate_callee (f := 144) rfl ?_); refine goesL_ (some 6) rfl rfl Try.func144 (by kernel_rfl) rfl #[.int .i64 a0] rfl ze_ ?_; (with_reducible refine (spec_ttInputs.calls a0 true _ A3.out).mono ?_); rintro e w' ⟨rfl, ⟨nd, rfl⟩⟩; refine ⟨_, rfl, ?_⟩; have hcz13_0 : w12.cell? ⟨gb374, 0, none⟩ = some (.int .i64 a1_0) := (blk_cell BK374.out 0).trans rfl; have hcz13_1 : w12.cell? ⟨gb374, 1, none⟩ = some (.int .i64 a1_1) := (blk_cell BK374.out 1).trans rfl; have hfz13_0 := blk_frozen BK374.out 0; have hfz13_1 := blk_frozen BK374.out 1) | (go_at_call 108; (with_reducible refine (spec_l1In.calls a1_0 0 (wrap64 ((ji7) - 1)) true _ A8.out).mono ?_); rintro e w' ⟨rfl, ⟨nd, rfl⟩⟩) | (go_at_call 108; (with_reducible refine (spec_l1In.calls a1_1 0 a1_0 true _ A10.out).mono ?_); rintro e w' ⟨rfl, ⟨nd, rfl⟩⟩))
     go_ret
     exact ⟨zgj_, zjj_⟩
    ·replace c11 := Bool.eq_false_iff.mpr c11
     subst c11; have H1 : (some false) = some r := by rw [if_neg (show ¬ (false = true) by decide)] at H; exact H
     clear H; have H := H1; clear H1; obtain rfl := Option.some.inj H
     go_enter Try.func135, Try.ntmps135
     go_wp2_with (first | ((with_reducible refine gate_dst (N := 3) rfl ?_); refine box_event ?hg (N := 3) ?hd (cs := #[.int .i64 a1_0, .int .i64 a1_1]) (t := 72) ?hr ?_; (case hd => rfl); (case hg => rfl); (case hr => exact zc_); intro gb374 hg w14 hbox hb; have n_ := z (below_step za_ hb) <| z (hbox) <| z ((by rw [hg]; exact (below_size za_) : w.heap.size ≤ gb374)) <| z1 ((by rw [hg]; exact (below_size za_) : w.heap.size ≤ gb374)); clear HB; obtain ⟨HB, BK374, GW374, GE374⟩ := n_; clear hb hbox hg) | ((with_reducible refine gate_callee (f := 144) rfl ?_); refine goesL_ (some 6) rfl rfl Try.func144 (by kernel_rfl) rfl #[.int .i64 a0] rfl ze_ ?_; (with_reducible refine (spec_ttInputs.calls a0 true _ A3.out).mono ?_); rintro e w' ⟨rfl, ⟨nd, rfl⟩⟩; refine ⟨_, rfl, ?_⟩; have hcz15_0 : w14.cell? ⟨gb374, 0, none⟩ = some (.int .i64 a1_0) := (blk_cell BK374.out 0).trans rfl; have hcz15_1 : w14.cell? ⟨gb374, 1, none⟩ = some (.int .i64 a1_1) := (blk_cell BK374.out 1).trans rfl; have hfz15_0 := blk_frozen BK374.out 0; have hfz15_1 := blk_frozen BK374.out 1) | (go_at_call 108; (with_reducible refine (spec_l1In.calls a1_0 0 (wrap64 ((ji7) - 1)) true _ A8.out).mono ?_); rintro e w' ⟨rfl, ⟨nd, rfl⟩⟩) | (go_at_call 108; (with_reducible refine (spec_l1In.calls a1_1 0 a1_0 false _ A10.out).mono ?_); rintro e w' ⟨rfl, ⟨nd, rfl⟩⟩))
     go_ret
     exact ⟨zgj_, zjj_⟩
   ·replace c9 := Bool.eq_false_iff.mpr c9
    subst c9; have H1 : (some false) = some r := by rw [if_neg (show ¬ (false = true) by decide)] at H; exact H
    clear H; have H := H1; clear H1; obtain rfl := Option.some.inj H
    go_enter Try.func135, Try.ntmps135
    go_wp2_with (first | ((with_reducible refine gate_dst (N := 3) rfl ?_); refine box_event ?hg (N := 3) ?hd (cs := #[.int .i64 a1_0, .int .i64 a1_1]) (t := 72) ?hr ?_; (case hd => rfl); (case hg => rfl); (case hr => exact zc_); intro gb374 hg w16 hbox hb; have n_ := z (below_step za_ hb) <| z (hbox) <| z ((by rw [hg]; exact (below_size za_) : w.heap.size ≤ gb374)) <| z1 ((by rw [hg]; exact (below_size za_) : w.heap.size ≤ gb374)); clear HB; obtain ⟨HB, BK374, GW374, GE374⟩ := n_; clear hb hbox hg) | ((with_reducible refine gate_callee (f := 144) rfl ?_); refine goesL_ (some 6) rfl rfl Try.func144 (by kernel_rfl) rfl #[.int .i64 a0] rfl ze_ ?_; (with_reducible refine (spec_ttInputs.calls a0 true _ A3.out).mono ?_); rintro e w' ⟨rfl, ⟨nd, rfl⟩⟩; refine ⟨_, rfl, ?_⟩; have hcz17_0 : w16.cell? ⟨gb374, 0, none⟩ = some (.int .i64 a1_0) := (blk_cell BK374.out 0).trans rfl; have hcz17_1 : w16.cell? ⟨gb374, 1, none⟩ = some (.int .i64 a1_1) := (blk_cell BK374.out 1).trans rfl; have hfz17_0 := blk_frozen BK374.out 0; have hfz17_1 := blk_frozen BK374.out 1) | (go_at_call 108; (with_reducible refine (spec_l1In.calls a1_0 0 (wrap64 ((ji7) - 1)) false _ A8.out).mono ?_); rintro e w' ⟨rfl, ⟨nd, rfl⟩⟩))
    go_ret
    exact ⟨zgj_, zjj_⟩
  ·rw [if_neg c6] at H
   exact absurd H (by simp)
 ·replace c4 := Bool.eq_false_iff.mpr c4
  subst c4; have H1 : (some false) = some r := by rw [if_neg (show ¬ (false = true) by decide)] at H; exact H
  clear H; have H := H1; clear H1; obtain rfl := Option.some.inj H
  go_enter Try.func135, Try.ntmps135
  go_wp2_with (first | ((with_reducible refine gate_dst (N := 3) rfl ?_); refine box_event ?hg (N := 3) ?hd (cs := #[.int .i64 a1_0, .int .i64 a1_1]) (t := 72) ?hr ?_; (case hd => rfl); (case hg => rfl); (case hr => exact zc_); intro gb374 hg w18 hbox hb; have n_ := z (below_step za_ hb) <| z (hbox) <| z ((by rw [hg]; exact (below_size za_) : w.heap.size ≤ gb374)) <| z1 ((by rw [hg]; exact (below_size za_) : w.heap.size ≤ gb374)); clear HB; obtain ⟨HB, BK374, GW374, GE374⟩ := n_; clear hb hbox hg) | ((with_reducible refine gate_callee (f := 144) rfl ?_); refine goesL_ (some 6) rfl rfl Try.func144 (by kernel_rfl) rfl #[.int .i64 a0] rfl ze_ ?_; (with_reducible refine (spec_ttInputs.calls a0 false _ A3.out).mono ?_); rintro e w' ⟨rfl, ⟨nd, rfl⟩⟩; refine ⟨_, rfl, ?_⟩))
  go_ret
  exact ⟨zf_, zjj_⟩
def spec_l1Most.f (a0 : Int) (a1 : Int) : Option (Int) := if a0 > a1 then (some a0) else (some a1)
theorem spec_l1Most.calls (a0 : Int) (a1 : Int) (r : Int) (w : World) (h : spec_l1Most.f a0 a1 = some r) :
  Calls Try.prog 106 #[.int .i64 a0, .int .i64 a1] w fun e w' => e = .returned (.int .i64 r) ∧ Drawn0 w w' := by
 have H : (if a0 > a1 then (some a0) else (some a1)) = some r := h
 clear h
 by_cases c3 : a0 > a1
 ·rw [if_pos c3] at H
  have c3b0 : decide (a1 < a0) = true := decide_eq_true c3; clear c3; obtain rfl := Option.some.inj H
  go_enter Try.func106, Try.ntmps106
  go_wp2
  go_ret
  exact ⟨zb_, zj_⟩
 ·rw [if_neg c3] at H
  have c3b0 : decide (a1 < a0) = false := decide_eq_false c3; clear c3; obtain rfl := Option.some.inj H
  go_enter Try.func106, Try.ntmps106
  go_wp2
  go_ret
  exact ⟨zb_, zj_⟩
def spec_l1Least.f (a0 : Int) (a1 : Int) : Option (Int) := if a0 < a1 then (some a0) else (some a1)
theorem spec_l1Least.calls (a0 : Int) (a1 : Int) (r : Int) (w : World) (h : spec_l1Least.f a0 a1 = some r) :
  Calls Try.prog 183 #[.int .i64 a0, .int .i64 a1] w fun e w' => e = .returned (.int .i64 r) ∧ Drawn0 w w' := by
 have H : (if a0 < a1 then (some a0) else (some a1)) = some r := h
 clear h
 by_cases c3 : a0 < a1
 ·rw [if_pos c3] at H
  have c3b0 := decide_eq_true c3; clear c3; obtain rfl := Option.some.inj H
  go_enter Try.func183, Try.ntmps183
  go_wp2
  go_ret
  exact ⟨zb_, zj_⟩
 ·rw [if_neg c3] at H
  have c3b0 := decide_eq_false c3; clear c3; obtain rfl := Option.some.inj H
  go_enter Try.func183, Try.ntmps183
  go_wp2
  go_ret
  exact ⟨zb_, zj_⟩
end Go.Proofs.Ytbkighlfgaifeaa.QFnLeastSums
