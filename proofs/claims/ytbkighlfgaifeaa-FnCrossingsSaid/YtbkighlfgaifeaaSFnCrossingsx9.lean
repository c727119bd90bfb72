/- Functions of FnCrossings, each as a Lean function, with the proof that the Go code comes to its answers. -/
import Derived.Test.YtbkighlfgaifeaaSFnCrossingsx0
import Derived.Test.YtbkighlfgaifeaaSFnCrossingsx5
import Derived.Test.YtbkighlfgaifeaaSFnCrossingsx8
namespace Go.Proofs.Ytbkighlfgaifeaa.QFnCrossings
open Go.RowKit Go.Proofs.YtbkighlfgaifeaaW.PrintWords Go.Proofs.YtbkighlfgaifeaaW.PrintLast Go.Proofs.YtbkighlfgaifeaaW.PrintMore
open Go.Proofs.YtbkighlfgaifeaaW.PrintWords renaming pw_below_drewN → pN, below_drew1 → p1, below_alloc → pA
open Go.Proofs.YtbkighlfgaifeaaW.PrintWords.Kd renaming R_alloc → kA, R_drewN → kN, R_drew → kD, Q_alloc → qA, Q_drewN → qN, Q_drew → qD, C_alloc → cA, C_drewN → cN, C_drew → cD
open Go.Proofs.YtbkighlfgaifeaaW.PrintWords.Aside0 renaming mk → aM
open List renaming setIfInBounds_toArray → sI, set_cons_zero → s0, set_cons_succ → sS, map_toArray → mT, length_take → lT, length_drop → lD, map_cons → mC, map_nil → mN
open Option renaming bind_eq_some_iff → oB, bind_some → oS
attribute [local go_sem] max2_int min2_int max_two min_two max_three min_three max_four min_four
set_option maxHeartbeats 8000000
set_option maxRecDepth 100000
set_option linter.unusedVariables false
set_option linter.unusedSimpArgs false
def spec_plMove.l0 : Nat → List Int → List (List Int) → List (List Int) → Int → Int → Option ((List (List Int)))
 | 0, _, _, _, _, _ => none
 | k + 1, x1, x5, x8, x9, x10 => if x10 < x9 then (if 0 ≤ x10 then (if x10 < (x8.length : Int) then (if 0 < ((rd_L2 x8 x10).length : Int) then (if 1 < ((rd_L2 x8 x10).length : Int) then (if 0 ≤ (rd (rd_L2 x8 x10) 1) then (if (rd (rd_L2 x8 x10) 1) < (x1.length : Int) then (if x5.length < 5864062014805 then (spec_plMove.l0 k x1 (x5 ++ [(([rd (rd_L2 x8 x10) 0, rd x1 (rd (rd_L2 x8 x10) 1)] : List Int))]) x8 x9 (wrap64 (x10 + 1))) else (none)) else (none)) else (none)) else (none)) else (none)) else (none)) else (none)) else (some x5)
def spec_plMove.f (k : Nat) (l0 : List (List Int)) (l1 : List Int) : Option ((List (List Int))) := spec_plMove.l0 k l1 ([] : List (List Int)) l0 (l0.length : Int) 0
def spec_plMove.T5 : Bool × List (List Nat × List Nat) := (true, [([], []), ([], []), ([1], [1]), ([2], [2]), ([], []), ([], []), ([5], [5]), ([6], [6]), ([4, 7], [4, 7]), ([8], [8]), ([3, 9], [3, 9]), ([10], [10]), ([0, 11], [0, 11]), ([12, 12, 0, 1, 2, 3, 4, 5, 6, 7, 8, 9, 10, 11, 12], [0, 12])])
def spec_plMove.B5 : List Nat := [0, 0, 2, 6, 0, 0, 32, 96, 240, 496, 1022, 2046, 4095, 8191]
theorem spec_plMove.tab5 : rtab .any (opsOf Try.f154 5) = spec_plMove.T5 := by kernel_rfl
theorem spec_plMove.bits5 : waitsOk spec_plMove.T5.2 spec_plMove.B5 = true := by kernel_rfl
theorem spec_plMove.calls (k : Nat) (A0 : Option Addr) (c0 : Nat) (l0 : List (List Int)) (A1 : Option Addr) (c1 : Nat) (l1 : List Int) (r : List (List Int)) (w : World) (hr0 : Kd.C (Kd.slice 3 (Kd.int .i64)) w A0 l0.length l0) (hc0 : l0.length ≤ c0) (hr1 : Kd.C (Kd.int .i64) w A1 l1.length l1) (hc1 : l1.length ≤ c1) (h : spec_plMove.f k l0 l1 = some r) :
  Calls Try.prog 154 #[.slice A0 l0.length c0, .slice A1 l1.length c1] w fun e w' => ∃ v0_ : Value, e = .returned (v0_) ∧ Kd.S (Kd.slice 3 (Kd.int .i64)) 24 w' w.heap.size (fun _ => True) v0_ r ∧ Below w.heap.size w w' := by
 have HR0 := aM hr0
 have HC0 := aM hc0
 clear hr0 hc0
 have HR1 := aM hr1
 have HC1 := aM hc1
 clear hr1 hc1
 have HB := aM (Below.refl w.heap.size w)
 have H : (spec_plMove.l0 k l1 ([] : List (List Int)) l0 (l0.length : Int) 0) = some r := h
 clear h
 have H' := aM H
 clear H
 go_enter Try.func154, Try.ntmps154
 go_wp2
 go_loopg [5, 10] k (fun kq v5 v10 w' => ∃ (x5_1 : List (List Int)) (x10_1 : Int), v10 = .int .i64 x10_1 ∧ Aside0 (spec_plMove.l0 kq l1 x5_1 l0 (l0.length : Int) x10_1 = some r) ∧ Aside0 (kq ≤ k) ∧ Aside0 (Kd.S (Kd.slice 3 (Kd.int .i64)) 24 w' w.heap.size (fun _ => True) v5 x5_1) ∧ Aside0 (Below w.heap.size w w'))
 case atStart => exact ⟨(([] : List (List Int))), (0), zb_, H', ⟨Nat.le_refl _⟩, ⟨zcf_⟩, ⟨zc_⟩⟩
 case round =>
  clear H'; obtain ⟨x5_1, x10_1, rfl, HA, HK1, HO_5, HB⟩ := hrel
  cases gk with
  | zero => exact absurd HA.out (by simp [spec_plMove.l0])
  | succ k1 =>
   have H := HA.out; clear HA
   simp only [spec_plMove.l0] at H
   by_cases c3 : x10_1 < (l0.length : Int)
   ·rw [if_pos c3] at H
    have c3b0 := decide_eq_true c3; clear c3
    by_cases c4 : 0 ≤ x10_1
    ·rw [if_pos c4] at H
     have c4b0 := decide_eq_true c4; clear c4
     by_cases c5 : x10_1 < (l0.length : Int)
     ·rw [if_pos c5] at H
      have c5b0 := decide_eq_true c5; clear c5
      by_cases c6 : 0 < ((rd_L2 l0 x10_1).length : Int)
      ·rw [if_pos c6] at H
       have c6b0 := decide_eq_true c6; have c6b1 : decide (0 < (rd_L2 l0 x10_1).length) = true := decide_eq_true (by omega); clear c6
       by_cases c7 : 1 < ((rd_L2 l0 x10_1).length : Int)
       ·rw [if_pos c7] at H
        have c7b0 := decide_eq_true c7; have c7b1 : decide (1 < (rd_L2 l0 x10_1).length) = true := decide_eq_true (by omega); clear c7
        by_cases c8 : 0 ≤ (rd (rd_L2 l0 x10_1) 1)
        ·rw [if_pos c8] at H
         have c8b0 := decide_eq_true c8; clear c8
         by_cases c9 : (rd (rd_L2 l0 x10_1) 1) < (l1.length : Int)
         ·rw [if_pos c9] at H
          have c9b0 := decide_eq_true c9; clear c9; obtain ⟨y244, hy244⟩ : ∃ y_ : List Int, y_ = (([rd (rd_L2 l0 x10_1) 0, rd l1 (rd (rd_L2 l0 x10_1) 1)] : List Int)) := ⟨_, rfl⟩; replace H : (if x5_1.length < 5864062014805 then (spec_plMove.l0 k1 l1 (x5_1 ++ [y244]) l0 (l0.length : Int) (wrap64 (x10_1 + 1))) else (none)) = some r := by first | (rw [hy244]; with_reducible exact H) | (have H2_ := (oS _ _).symm.trans H; rw [hy244]; with_reducible exact H2_) | (have H2_ := (oS _ _).symm.trans H; with_reducible exact H2_) | with_reducible exact H | (rw [hy244]; exact H) | exact H
          have Ny244 := aM hy244; clear hy244
          by_cases c10 : x5_1.length < 5864062014805
          ·rw [if_pos c10] at H
           have LMc10 := aM c10; clear c10; obtain ⟨y247, hy247⟩ : ∃ y_ : List (List Int), y_ = (x5_1 ++ [y244]) := ⟨_, rfl⟩; replace H : (spec_plMove.l0 k1 l1 y247 l0 (l0.length : Int) (wrap64 (x10_1 + 1))) = some r := by first | (rw [hy247]; with_reducible exact H) | (have H2_ := (oS _ _).symm.trans H; rw [hy247]; with_reducible exact H2_) | (have H2_ := (oS _ _).symm.trans H; with_reducible exact H2_) | with_reducible exact H | (rw [hy247]; exact H) | exact H
           have Ny247 := aM hy247; clear hy247; have H' := aM H; clear H; have p240 : 0 ≤ (x10_1 : Int) := of_decide_eq_true za_; have q240 : x10_1 < (l0.length : Int) := of_decide_eq_true za_; obtain ⟨ad240, A240_0, c240_0, e240, hx240_0, hl240_0, hi240_0⟩ := at_L2 HR0.out x10_1 p240 q240
           cases e240
           (try (replace hx240_0 := (HB.out.cell (World.block_lt_of_cell? w _ hx240_0)).trans hx240_0)); have HR240_0 := aM hi240_0; have HC240_0 := aM hl240_0; clear hi240_0 hl240_0; replace p240 := eq_true p240; replace q240 := eq_true q240; (try go_wp2); have n_ := z (Kd.S_drew HO_5.out) <| z1 (p1 HB.out)
           clear HO_5 HB; obtain ⟨HO_5, HB⟩ := n_; have p241 : 0 ≤ (0 : Int) := (by omega); have q241 : 0 < ((rd_L2 l0 x10_1).length : Int) := of_decide_eq_true za_; obtain ⟨ad241, e241, hx241_0⟩ := Kd.at_int HR240_0.out 0 p241 q241; have hw241_0 := hx241_0; (try rw [show ((0 : Int)).toNat = 0 from rfl] at hw241_0); (try rw [show 0 * 1 = 0 from rfl] at hw241_0); (try rw [Addr.add_zero'] at hw241_0)
           cases e241
           have qi241 : (0 < (rd_L2 l0 x10_1).length) = True := eq_true (by omega); (try rw [show ((0 : Int)).toNat = 0 from rfl] at hx241_0); (try rw [Addr.add_zero'] at hx241_0); (try (replace hx241_0 := (HB.out.cell (World.block_lt_of_cell? w _ hx241_0)).trans hx241_0)); replace p241 := eq_true p241; replace q241 := eq_true q241; have p242 : 0 ≤ (1 : Int) := (by omega); have q242 : 1 < ((rd_L2 l0 x10_1).length : Int) := of_decide_eq_true za_; obtain ⟨ad242, e242, hx242_0⟩ := Kd.at_int HR240_0.out 1 p242 q242; have hw242_0 := hx242_0; (try rw [show ((1 : Int)).toNat = 1 from rfl] at hw242_0); (try rw [show 1 * 1 = 1 from rfl] at hw242_0); (try simp only [Nat.reduceMul, Nat.reduceEqDiff, Go.Addr.add, ↓reduceIte] at hw242_0); obtain rfl : ad241 = ad242 := (by injection e242); (try simp only [show (1 : Int).toNat = 1 from rfl, Nat.reduceMul, Nat.reduceEqDiff, Go.Addr.add, ↓reduceIte] at hx242_0); have qi242 : (1 < (rd_L2 l0 x10_1).length) = True := eq_true (by omega); (try rw [show ((1 : Int)).toNat = 1 from rfl] at hx242_0); (try (replace hx242_0 := (HB.out.cell (World.block_lt_of_cell? w _ hx242_0)).trans hx242_0)); replace p242 := eq_true p242; replace q242 := eq_true q242; have p243 : 0 ≤ ((rd (rd_L2 l0 x10_1) 1) : Int) := of_decide_eq_true za_; have q243 : (rd (rd_L2 l0 x10_1) 1) < (l1.length : Int) := of_decide_eq_true za_; obtain ⟨ad243, e243, hx243_0⟩ := Kd.at_int HR1.out (rd (rd_L2 l0 x10_1) 1) p243 q243; have hw243_0 := hx243_0
           cases e243
           (try (replace hx243_0 := (HB.out.cell (World.block_lt_of_cell? w _ hx243_0)).trans hx243_0)); replace p243 := eq_true p243; replace q243 := eq_true q243
           refine start_ (n := 14) (S := fun w' => w'.cell? ad241 = some (.int .i64 (rd (rd_L2 l0 x10_1) 0)) ∧ w'.cell? ⟨ad241.block, ad241.off + 1, none⟩ = some (.int .i64 (rd (rd_L2 l0 x10_1) 1)) ∧ w'.cell? (ad243.add ((rd (rd_L2 l0 x10_1) 1)).toNat) = some (.int .i64 (rd l1 (rd (rd_L2 l0 x10_1) 1)))) (ds := []) #[fi,fi,fi,fi,fi,fi,fi,fi,fi,fi,fi,fi,fi,fi] (by kernel_rfl) rfl rfl ⟨((HB.out.cell (World.block_lt_of_cell? w _ hw241_0)).trans hw241_0), ((HB.out.cell (World.block_lt_of_cell? w _ hw242_0)).trans hw242_0), ((HB.out.cell (World.block_lt_of_cell? w _ hw243_0)).trans hw243_0)⟩ (fun hHeld => ?_); refine with_tabW spec_plMove.tab5 spec_plMove.bits5 (fun HT_ HW_ => ?_)
           generalize wr.drew = w11 at HO_5 HB hx241_0 hx242_0 hx243_0 hHeld ⊢; refine py_ 0 14 HT_.out ?_; refine py_ 1 15 HT_.out ?_; refine py_ 2 16 HT_.out ?_; refine py_ 4 18 HT_.out ?_; refine py_ 5 19 HT_.out ?_; refine py_ 6 20 HT_.out ?_
           refine take_ (i := 3) (N := some 17) (v := ?_) (a' := ?_) #[ti,ti,ti,ti,ti,ti,ti,fi,fi,fi,fi,fi,fi,fi] rfl rfl (take_ofW HT_.out HW_.out (by kernel_rfl)) (fun _ _ _ h => h) (Or.inl ⟨by rfl, ?_⟩) hHeld ?_ ?_
           rotate_left
           ·rintro w' ⟨s0, s1, s2⟩
            go_simp
            with_reducible rfl
           rotate_left
           ·simp only [Act.put, sI, s0, sS, i64_w, i32_w]
            rfl
           refine take_ (i := 7) (N := some 21) (v := ?_) (a' := ?_) #[ti,ti,ti,ti,ti,ti,ti,ti,fi,fi,fi,fi,fi,fi] rfl rfl (take_ofW HT_.out HW_.out (by kernel_rfl)) (fun _ _ _ h => h) (Or.inl ⟨by rfl, ?_⟩) hHeld ?_ ?_
           rotate_left
           ·rintro w' ⟨s0, s1, s2⟩
            go_simp
            with_reducible rfl
           rotate_left
           ·simp only [Act.put, sI, s0, sS, i64_w, i32_w]
            rfl
           refine py_ 8 22 HT_.out ?_
           refine take_ (i := 9) (N := some 23) (v := ?_) (a' := ?_) #[ti,ti,ti,ti,ti,ti,ti,ti,ti,ti,fi,fi,fi,fi] rfl rfl (take_ofW HT_.out HW_.out (by kernel_rfl)) (fun _ _ _ h => h) (Or.inl ⟨by rfl, ?_⟩) hHeld ?_ ?_
           rotate_left
           ·rintro w' ⟨s0, s1, s2⟩
            go_simp
            with_reducible rfl
           rotate_left
           ·simp only [Act.put, sI, s0, sS, i64_w, i32_w]
            rfl
           refine one_ (i := 10) (N := some 24) #[ti,ti,ti,ti,ti,ti,ti,ti,ti,ti,ti,fi,fi,fi] rfl rfl (one_of HT_.out (by kernel_rfl)) (by decide) (fun K hK => ?_)
           refine Kd.R_lit_step (Kd.int .i64) _ 3 ?hg (N := 24) ?hd (xs := ([rd (rd_L2 l0 x10_1) 0, rd l1 (rd (rd_L2 l0 x10_1) 1)] : List Int)) (inner := [.int .i64 (rd (rd_L2 l0 x10_1) 0), .int .i64 (rd l1 (rd (rd_L2 l0 x10_1) 1))]) (ok := fun _ => True) (okp := fun _ => True) ?hr ?hp (fun _ hk => hk) trivial (Below.refl _ _) (Nat.le_refl _) (by simp) ?_; (case hd => rfl); (case hg => rfl); (case hr => exact ze_); (case hp => exact (Reps.one (show Kd.M (Kd.int .i64) _ _ _ (rd (rd_L2 l0 x10_1) 0) [.int .i64 (rd (rd_L2 l0 x10_1) 0)] from rfl) (Reps.one (show Kd.M (Kd.int .i64) _ _ _ (rd l1 (rd (rd_L2 l0 x10_1) 1)) [.int .i64 (rd l1 (rd (rd_L2 l0 x10_1) 1))] from rfl) (Reps.none _ _))))
           intro v245 w12 ho13 hb hg_ hnew_
           clear hg_ hnew_; (first | rw [← Ny244.out] at ho13 | (simp only [Int.reduceToNat] at ho13; rw [← Ny244.out] at ho13)); have n_ := z (Kd.S_elder' (zs HO_5.out) (Kd.R_base ho13) hb) <| z (Kd.R_lower ho13 (below_size zc_)) <| z1 (below_step zc_ hb)
           clear HO_5 HB; obtain ⟨HO_5, HO246, HB⟩ := n_; clear hb ho13; obtain ⟨Ao15, co15, eo15⟩ := Kd.R_slice HO246.out; (first | subst eo15 | (injection eo15 with f1_ f2_ f3_; have f4_ := f1_.symm; have f5_ := f3_.symm; clear f1_ f2_ f3_; subst f4_; subst f5_))
           refine hK.out _ _ ⟨((HB.out.cell (World.block_lt_of_cell? w _ hw241_0)).trans hw241_0), ((HB.out.cell (World.block_lt_of_cell? w _ hw242_0)).trans hw242_0), ((HB.out.cell (World.block_lt_of_cell? w _ hw243_0)).trans hw243_0)⟩ (fun hHeld => ?_)
           clear hK K
           refine norm_ (a' := ?_) ?_ ?_
           rotate_left
           ·show Act.put _ (some 24) _ = _
            simp only [Act.put, sI, s0, sS, i64_w, i32_w]
            rfl
           refine one_ (i := 11) (N := some 25) #[ti,ti,ti,ti,ti,ti,ti,ti,ti,ti,ti,ti,fi,fi] rfl rfl (one_of HT_.out (by kernel_rfl)) (by decide) (fun K hK => ?_)
           refine value_ (w1 := ?_) (v := ?_) (by rfl) rfl ?_ ?_
           rotate_left 2
           ·go_simp
            constructor
            ·rfl
            ·rfl
           refine hK.out _ _ ⟨(World.cell?_alloc_lt _ _ _ (World.block_lt_of_cell? _ _ (((HB.out.cell (World.block_lt_of_cell? w _ hw241_0)).trans hw241_0)))).trans (((HB.out.cell (World.block_lt_of_cell? w _ hw241_0)).trans hw241_0)), (World.cell?_alloc_lt _ _ _ (World.block_lt_of_cell? _ _ (((HB.out.cell (World.block_lt_of_cell? w _ hw242_0)).trans hw242_0)))).trans (((HB.out.cell (World.block_lt_of_cell? w _ hw242_0)).trans hw242_0)), (World.cell?_alloc_lt _ _ _ (World.block_lt_of_cell? _ _ (((HB.out.cell (World.block_lt_of_cell? w _ hw243_0)).trans hw243_0)))).trans (((HB.out.cell (World.block_lt_of_cell? w _ hw243_0)).trans hw243_0))⟩ (fun hHeld => ?_)
           clear hK K
           refine norm_ (a' := ?_) ?_ ?_
           rotate_left
           ·show Act.put _ (some 25) _ = _
            simp only [Act.put, sI, s0, sS, i64_w, i32_w]
            rfl
           refine one_ (i := 12) (N := some 26) #[ti,ti,ti,ti,ti,ti,ti,ti,ti,ti,ti,ti,ti,fi] rfl rfl (one_of HT_.out (by kernel_rfl)) (by decide) (fun K hK => ?_)
           refine Kd.S_append_step (Kd.slice 3 (Kd.int .i64)) (w0 := w) w.heap.size (by rfl) (.tmp 14) (.tmp 25) 52 24 (.slice none 0 0) 24 rfl Try.underlying52 info24 rfl (by decide) (by omega) u5 x5_1 y244 [.slice Ao15 y244.length co15] (fun _ => True) (fun k_ => some k_ = (.slice Ao15 y244.length co15 : Value).ownBlock) rfl rfl ?aP (fun k_ hk_ => ((Kd.R_mono (ok' := fun k_ => ((fun _ => True)) k_ ∧ some k_ ≠ (u5 : Value).ownBlock) (Kd.R_apart' (HO246.out) (Kd.S_typed HO_5.out) (by decide)) (fun k_ hk => ⟨trivial, hk.2⟩))).1 k_ hk_.symm) ?aF ?aO ?aB ?aS ?aL ?_
           (case aP => exact Kd.M_row (Kd.R_mono (Kd.R_tight rfl (Kd.R_mono (ok' := fun k_ => ((fun _ => True)) k_ ∧ some k_ ≠ (u5 : Value).ownBlock) (Kd.R_apart' (HO246.out) (Kd.S_typed HO_5.out) (by decide)) (fun k_ hk => ⟨trivial, hk.2⟩))) (fun _ h_ => h_)))
           (case aB => exact zdh_)
           (case aF => exact zda_)
           (case aO => exact (by refine zs ?_; exact Kd.S_mono HO_5.out (fun k_ hk => ⟨trivial, fun e_ => hk.2 e_⟩)))
           (case aS => exact zdi_)
           (case aL => have := LMc10.out; omega)
           intro v248 w14 ho hb hg hat
           rw [← Ny247.out] at ho; have n_ := z (hb) <| z1 (ho)
           clear HB HO_5 HO246; obtain ⟨HB, HO249⟩ := n_; clear ho hb hg hat
           refine hK.out _ _ ⟨((HB.out.cell (World.block_lt_of_cell? w _ hw241_0)).trans hw241_0), ((HB.out.cell (World.block_lt_of_cell? w _ hw242_0)).trans hw242_0), ((HB.out.cell (World.block_lt_of_cell? w _ hw243_0)).trans hw243_0)⟩ (fun hHeld => ?_)
           clear hK K
           refine norm_ (a' := ?_) ?_ ?_
           rotate_left
           ·show Act.put _ (some 26) _ = _
            simp only [Act.put, sI, s0, sS, i64_w, i32_w]
            rfl
           refine py_ 13 5 HT_.out ?_
           refine done_ (done_of HT_.out (by kernel_rfl)) ?_
           (try go_wp2)
           go_roundg k1
           case measure => have := HK1.out; omega
           case rel => exact ⟨(y247), (wrap64 (x10_1 + 1)), zb_, H', ⟨zbd_⟩, ⟨zs HO249.out⟩, ⟨zc_⟩⟩
          ·rw [if_neg c10] at H
           exact absurd H (by simp)
         ·rw [if_neg c9] at H
          exact absurd H (by simp)
        ·rw [if_neg c8] at H
         exact absurd H (by simp)
       ·rw [if_neg c7] at H
        exact absurd H (by simp)
      ·rw [if_neg c6] at H
       exact absurd H (by simp)
     ·rw [if_neg c5] at H
      exact absurd H (by simp)
    ·rw [if_neg c4] at H
     exact absurd H (by simp)
   ·rw [if_neg c3] at H
    have c3b0 := decide_eq_false c3; clear c3; obtain rfl := Option.some.inj H
    go_wp2
    go_ret
    exact ⟨_, zg_, by refine zs ?_; exact HO_5.out, zc_⟩
def spec_MovePoints.f (k : Nat) (l0 : List (List Int)) (a1 : Int) (l2 : List Int) : Option ((List (List Int)) × Bool) := (spec_plWires.f k l0 a1).bind fun t250 => (if t250 = true then ((spec_ddOrder.f k l2 a1).bind fun t251 => (if t251 = true then ((spec_plMove.f k l0 l2).bind fun t252 => (some (t252, true))) else (some (([] : List (List Int)), false)))) else (some (([] : List (List Int)), false)))
theorem spec_MovePoints.calls (k : Nat) (A0 : Option Addr) (c0 : Nat) (l0 : List (List Int)) (a1 : Int) (A2 : Option Addr) (c2 : Nat) (l2 : List Int) (r1 : List (List Int)) (r2 : Bool) (w : World) (hr0 : Kd.C (Kd.slice 3 (Kd.int .i64)) w A0 l0.length l0) (hc0 : l0.length ≤ c0) (hr2 : Kd.C (Kd.int .i64) w A2 l2.length l2) (hc2 : l2.length ≤ c2) (h : spec_MovePoints.f k l0 a1 l2 = some (r1, r2)) :
  Calls Try.prog 68 #[.slice A0 l0.length c0, .int .i64 a1, .slice A2 l2.length c2] w fun e w' => ∃ v0_ : Value, e = .returned (.tuple #[v0_, .bool r2]) ∧ Kd.S (Kd.slice 3 (Kd.int .i64)) 24 w' w.heap.size (fun _ => True) v0_ r1 ∧ Below w.heap.size w w' := by
 have HR0 := aM hr0
 have HC0 := aM hc0
 clear hr0 hc0
 have HR2 := aM hr2
 have HC2 := aM hc2
 clear hr2 hc2
 have HB := aM (Below.refl w.heap.size w)
 have H : ((spec_plWires.f k l0 a1).bind fun t250 => (if t250 = true then ((spec_ddOrder.f k l2 a1).bind fun t251 => (if t251 = true then ((spec_plMove.f k l0 l2).bind fun t252 => (some (t252, true))) else (some (([] : List (List Int)), false)))) else (some (([] : List (List Int)), false)))) = some (r1, r2) := h
 clear h
 replace H := oB.mp H
 obtain ⟨t250, A40, H⟩ := H
 replace H : (if t250 = true then ((spec_ddOrder.f k l2 a1).bind fun t251 => (if t251 = true then ((spec_plMove.f k l0 l2).bind fun t252 => (some (t252, true))) else (some (([] : List (List Int)), false)))) else (some (([] : List (List Int)), false))) = some (r1, r2) := H
 have A4 := aM A40
 clear A40
 by_cases c5 : t250 = true
 ·subst c5
  have H1 : ((spec_ddOrder.f k l2 a1).bind fun t251 => (if t251 = true then ((spec_plMove.f k l0 l2).bind fun t252 => (some (t252, true))) else (some (([] : List (List Int)), false)))) = some (r1, r2) := by rw [if_pos rfl] at H; exact H
  clear H; have H := H1; clear H1; replace H := oB.mp H; obtain ⟨t251, A60, H⟩ := H; replace H : (if t251 = true then ((spec_plMove.f k l0 l2).bind fun t252 => (some (t252, true))) else (some (([] : List (List Int)), false))) = some (r1, r2) := H; have A6 := aM A60; clear A60
  by_cases c7 : t251 = true
  ·subst c7
   have H1 : ((spec_plMove.f k l0 l2).bind fun t252 => (some (t252, true))) = some (r1, r2) := by rw [if_pos rfl] at H; exact H
   clear H; have H := H1; clear H1; replace H := oB.mp H; obtain ⟨t252, A80, H⟩ := H; replace H : (some (t252, true)) = some (r1, r2) := H; have A8 := aM A80; clear A80
   simp only [Option.some.injEq, Prod.mk.injEq] at H
   obtain ⟨rfl, rfl⟩ := H
   go_enter Try.func68, Try.ntmps68
   go_wp2_with (first | ((with_reducible refine gate_callee (f := 147) rfl ?_); refine goesL_ (some 10) rfl rfl Try.func147 (by kernel_rfl) rfl #[.slice A0 l0.length c0, .int .i64 a1] rfl zd_ ?_; (with_reducible refine (spec_plWires.calls k _ _ l0 a1 true _ ?side1 ?side2 A4.out).mono ?_); (case side1 => exact zba_); (case side2 => exact HC0.out); rintro e w' ⟨rfl, ⟨nd, rfl⟩⟩; refine ⟨_, rfl, ?_⟩) | (go_at_call 153; (with_reducible refine (spec_ddOrder.calls k _ _ l2 a1 true _ ?side1 ?side2 A6.out).mono ?_); (case side1 => exact zgf_); (case side2 => exact HC2.out); rintro e w' ⟨rfl, ⟨nd, rfl⟩⟩) | ((with_reducible refine gate_callee (f := 154) rfl ?_); refine goesL_ (some 20) rfl rfl Try.func154 (by kernel_rfl) rfl #[.slice A0 l0.length c0, .slice A2 l2.length c2] rfl zd_ ?_; (with_reducible refine (spec_plMove.calls k _ _ l0 _ _ l2 t252 _ ?side1 ?side2 ?side3 ?side4 A8.out).mono ?_); (case side1 => exact zba_); (case side2 => exact HC0.out); (case side3 => exact zgf_); (case side4 => exact HC2.out); rintro e w9 ⟨v253, rfl, ho0, hb⟩; refine ⟨_, rfl, ?_⟩; have n_ := z (Kd.S_lower ho0 (below_size zc_)) <| z1 (below_step zc_ hb); clear HB; obtain ⟨HO254, HB⟩ := n_; clear hb; (try clear ho0)))
   go_ret2
   exact ⟨_, zg_, by refine zs ?_; exact HO254.out, zc_⟩
  ·replace c7 := Bool.eq_false_iff.mpr c7
   subst c7; have H1 : (some (([] : List (List Int)), false)) = some (r1, r2) := by rw [if_neg (show ¬ (false = true) by decide)] at H; exact H
   clear H; have H := H1; clear H1
   simp only [Option.some.injEq, Prod.mk.injEq] at H
   obtain ⟨rfl, rfl⟩ := H
   go_enter Try.func68, Try.ntmps68
   go_wp2_with (first | ((with_reducible refine gate_callee (f := 147) rfl ?_); refine goesL_ (some 10) rfl rfl Try.func147 (by kernel_rfl) rfl #[.slice A0 l0.length c0, .int .i64 a1] rfl zd_ ?_; (with_reducible refine (spec_plWires.calls k _ _ l0 a1 true _ ?side1 ?side2 A4.out).mono ?_); (case side1 => exact zba_); (case side2 => exact HC0.out); rintro e w' ⟨rfl, ⟨nd, rfl⟩⟩; refine ⟨_, rfl, ?_⟩) | (go_at_call 153; (with_reducible refine (spec_ddOrder.calls k _ _ l2 a1 false _ ?side1 ?side2 A6.out).mono ?_); (case side1 => exact zgf_); (case side2 => exact HC2.out); rintro e w' ⟨rfl, ⟨nd, rfl⟩⟩))
   go_ret2
   exact ⟨_, zg_, zcf_, zc_⟩
 ·replace c5 := Bool.eq_false_iff.mpr c5
  subst c5; have H1 : (some (([] : List (List Int)), false)) = some (r1, r2) := by rw [if_neg (show ¬ (false = true) by decide)] at H; exact H
  clear H; have H := H1; clear H1
  simp only [Option.some.injEq, Prod.mk.injEq] at H
  obtain ⟨rfl, rfl⟩ := H
  go_enter Try.func68, Try.ntmps68
  go_wp2_with (first | ((with_reducible refine gate_callee (f := 147) rfl ?_); refine goesL_ (some 10) rfl rfl Try.func147 (by kernel_rfl) rfl #[.slice A0 l0.length c0, .int .i64 a1] rfl zd_ ?_; (with_reducible refine (spec_plWires.calls k _ _ l0 a1 false _ ?side1 ?side2 A4.out).mono ?_); (case side1 => exact zba_); (case side2 => exact HC0.out); rintro e w' ⟨rfl, ⟨nd, rfl⟩⟩; refine ⟨_, rfl, ?_⟩))
  go_ret2
  exact ⟨_, zg_, zcf_, zc_⟩
end Go.Proofs.Ytbkighlfgaifeaa.QFnCrossings
