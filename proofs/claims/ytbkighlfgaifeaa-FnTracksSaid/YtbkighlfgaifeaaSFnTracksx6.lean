/- Functions of the law FnTracks, each as a Lean function, and the proofs that the Go code comes to their answers. Made by wip/gen/slim.py. Conditions: those of each theorem. -/
import Derived.Test.YtbkighlfgaifeaaSFnTracksx0
import Derived.Test.YtbkighlfgaifeaaSFnTracksx5
namespace Go.Proofs.Ytbkighlfgaifeaa.QFnTracks
open Go.RowKit Go.Proofs.YtbkighlfgaifeaaW.PrintWords Go.Proofs.YtbkighlfgaifeaaW.PrintLast Go.Proofs.YtbkighlfgaifeaaW.PrintMore
open Go.Proofs.YtbkighlfgaifeaaW.PrintWords renaming pw_below_drewN → pN, below_drew1 → p1, below_alloc → pA
open Go.Proofs.YtbkighlfgaifeaaW.PrintWords.Kd renaming R_alloc → kA, R_drewN → kN, R_drew → kD, Q_alloc → qA, Q_drewN → qN, Q_drew → qD, C_alloc → cA, C_drewN → cN, C_drew → cD
open Go.Proofs.YtbkighlfgaifeaaW.PrintWords.Aside0 renaming mk → aM
open List renaming setIfInBounds_toArray → sI, set_cons_zero → s0, set_cons_succ → sS, map_toArray → mT, length_take → lT, length_drop → lD, map_cons → mC, map_nil → mN
open Option renaming bind_eq_some_iff → oB, bind_some → oS
attribute [local go_sem] max2_int min2_int max_two min_two max_three min_three max_four min_four
set_option maxHeartbeats 8000000
set_option maxRecDepth 100000
set_option linter.unusedVariables false
set_option linter.unusedSimpArgs false
mutual
def impl_isRouting.l0 : Nat → List (S32) → List Int → Int → Int → Option (Bool)
 | 0, _, _, _, _ => none
 | k + 1, x0, x1, x8, x9 => if x9 < x8 then (impl_isRouting.l1 k x0 x1 x9 0 x8 x9) else (some true)
def impl_isRouting.l1 : Nat → List (S32) → List Int → Int → Int → Int → Int → Option (Bool)
 | 0, _, _, _, _, _, _ => none
 | k + 1, x0, x1, x5, x6, x8, x9 => if x6 < x5 then (if 0 ≤ x5 then (if x5 < (x1.length : Int) then (if 0 ≤ x6 then (if x6 < (x1.length : Int) then (if (rd x1 x5) = (rd x1 x6) then (if x5 < (x0.length : Int) then (if x6 < (x0.length : Int) then ((impl_wiresMeet.f ((rd_T32 x0 x5).f0) ((rd_T32 x0 x5).f1) ((rd_T32 x0 x6).f0) ((rd_T32 x0 x6).f1)).bind fun t205 => (if t205 = true then (some false) else (impl_isRouting.l1 k x0 x1 x5 (wrap64 (x6 + 1)) x8 x9))) else (none)) else (none)) else (impl_isRouting.l1 k x0 x1 x5 (wrap64 (x6 + 1)) x8 x9)) else (none)) else (none)) else (none)) else (none)) else (impl_isRouting.l0 k x0 x1 x8 (wrap64 (x9 + 1)))
end
def impl_isRouting.f (k : Nat) (l0 : List (S32)) (l1 : List Int) : Option (Bool) := impl_isRouting.l0 k l0 l1 (l0.length : Int) 0
def impl_isRouting.T7 : Bool × List (List Nat × List Nat) := (true, [([], []), ([], []), ([0, 1], [0, 1]), ([2], [2]), ([], []), ([], []), ([4, 5], [4, 5]), ([6], [6]), ([3, 7], [3, 7]), ([8], [8]), ([9], [9]), ([9], [9]), ([10, 11, 9], [9, 10, 11]), ([12, 9], [9, 12]), ([9], [9]), ([9], [9]), ([14, 15, 9], [9, 14, 15]), ([16, 9], [9, 16]), ([13, 17, 9, 9], [9, 13, 17]), ([9, 18], [9, 18])])
def impl_isRouting.B7 : List Nat := [0, 0, 3, 7, 0, 0, 48, 112, 255, 511, 1023, 1023, 4095, 8191, 1023, 1023, 50175, 115711, 262143, 524287]
theorem impl_isRouting.tab7 : rtab .any (opsOf Try.f102 7) = impl_isRouting.T7 := by kernel_rfl
theorem impl_isRouting.bits7 : waitsOk impl_isRouting.T7.2 impl_isRouting.B7 = true := by kernel_rfl
theorem impl_isRouting.calls (k : Nat) (A0 : Option Addr) (c0 : Nat) (l0 : List (S32)) (A1 : Option Addr) (c1 : Nat) (l1 : List Int) (r : Bool) (w : World) (hr0 : Kd.C k32 w A0 l0.length l0) (hc0 : l0.length ≤ c0) (hr1 : Kd.C (Kd.int .i64) w A1 l1.length l1) (hc1 : l1.length ≤ c1) (h : impl_isRouting.f k l0 l1 = some r) :
  Calls Try.prog 102 #[.slice A0 l0.length c0, .slice A1 l1.length c1] w fun e w' => e = .returned (.bool r) ∧ Below w.heap.size w w' := by
 have hu32 := Try.underlying32
 have HR0 := aM hr0
 have HC0 := aM hc0
 clear hr0 hc0
 have HR1 := aM hr1
 have HC1 := aM hc1
 clear hr1 hc1
 have HB := aM (Below.refl w.heap.size w)
 have H : (impl_isRouting.l0 k l0 l1 (l0.length : Int) 0) = some r := h
 clear h
 have H' := aM H
 clear H
 go_enter Try.func102, Try.ntmps102
 go_wp2
 go_loopg [9] k (fun kq v9 w' => ∃ (x9_1 : Int), v9 = .int .i64 x9_1 ∧ Aside0 (impl_isRouting.l0 kq l0 l1 (l0.length : Int) x9_1 = some r) ∧ Aside0 (kq ≤ k) ∧ Aside0 (Below w.heap.size w w'))
 case atStart => exact ⟨(0), zc_, H', ⟨Nat.le_refl _⟩, ⟨za_⟩⟩
 case round =>
  clear H'
  try clear c1
  try clear p2
  obtain ⟨x9_1, rfl, HA, HK1, HB⟩ := hrel
  cases gk with
  | zero => exact absurd HA.out (by simp [impl_isRouting.l0])
  | succ k1 =>
   have H := HA.out
   clear HA
   simp only [impl_isRouting.l0] at H
   by_cases c3 : x9_1 < (l0.length : Int)
   ·rw [if_pos c3] at H
    have c3b0 : decide (x9_1 < (l0.length : Int)) = true := decide_eq_true c3
    clear c3
    have H' := aM H
    clear H
    go_wp2
    go_loopg [6] k1 (fun kq v6 w' => ∃ (x6_2 : Int), v6 = .int .i64 x6_2 ∧ Aside0 (impl_isRouting.l1 kq l0 l1 x9_1 x6_2 (l0.length : Int) x9_1 = some r) ∧ Aside0 (kq ≤ k1) ∧ Aside0 (Below w.heap.size w w'))
    case atStart => exact ⟨(0), zc_, H', ⟨Nat.le_refl _⟩, ⟨za_⟩⟩
    case round =>
     clear H'
     try clear c1
     try clear p2
     try clear c3
     try clear c3b0
     try clear p2
     obtain ⟨x6_2, rfl, HA, HK2, HB⟩ := hrel
     cases gk with
     | zero => exact absurd HA.out (by simp [impl_isRouting.l1])
     | succ k2 =>
      have H := HA.out
      clear HA
      simp only [impl_isRouting.l1] at H
      by_cases c4 : x6_2 < x9_1
      ·rw [if_pos c4] at H
       have c4b0 : decide (x6_2 < x9_1) = true := decide_eq_true c4
       clear c4
       by_cases c5 : 0 ≤ x9_1
       ·rw [if_pos c5] at H
        have c5b0 : decide (0 ≤ x9_1) = true := decide_eq_true c5
        clear c5
        by_cases c6 : x9_1 < (l1.length : Int)
        ·rw [if_pos c6] at H
         have c6b0 : decide (x9_1 < (l1.length : Int)) = true := decide_eq_true c6
         clear c6
         by_cases c7 : 0 ≤ x6_2
         ·rw [if_pos c7] at H
          have c7b0 : decide (0 ≤ x6_2) = true := decide_eq_true c7
          clear c7
          by_cases c8 : x6_2 < (l1.length : Int)
          ·rw [if_pos c8] at H
           have c8b0 : decide (x6_2 < (l1.length : Int)) = true := decide_eq_true c8
           clear c8
           by_cases c9 : (rd l1 x9_1) = (rd l1 x6_2)
           ·rw [if_pos c9] at H
            have c9b0 : ((rd l1 x9_1) == (rd l1 x6_2)) = true := beq_iff_eq.mpr c9
            have c9b1 : ((rd l1 x9_1) != (rd l1 x6_2)) = false := bne_eq_false_iff_eq.mpr c9
            clear c9
            by_cases c10 : x9_1 < (l0.length : Int)
            ·rw [if_pos c10] at H
             have c10b0 : decide (x9_1 < (l0.length : Int)) = true := decide_eq_true c10
             clear c10
             by_cases c11 : x6_2 < (l0.length : Int)
             ·rw [if_pos c11] at H
              have c11b0 : decide (x6_2 < (l0.length : Int)) = true := decide_eq_true c11
              clear c11
              replace H := oB.mp H
              obtain ⟨t205, A120, H⟩ := H
              replace H : (if t205 = true then (some false) else (impl_isRouting.l1 k2 l0 l1 x9_1 (wrap64 (x6_2 + 1)) (l0.length : Int) x9_1)) = some r := H
              have A12 := aM A120
              clear A120
              by_cases c13 : t205 = true
              ·subst c13
               have H1 : (some false) = some r := by rw [if_pos rfl] at H; exact H
               clear H
               have H := H1
               clear H1
               obtain rfl := Option.some.inj H
               try go_wp2
               have n0_ := aM (p1 HB.out)
               clear HB
               have HB := n0_
               clear n0_
               have p201 : 0 ≤ (x9_1 : Int) := of_decide_eq_true zb_
               have q201 : x9_1 < (l1.length : Int) := of_decide_eq_true zb_
               obtain ⟨ad201, e201, hx201_0⟩ := Kd.at_int HR1.out x9_1 p201 q201
               have hw201_0 := hx201_0
               cases e201
               (try (replace hx201_0 := (HB.out.cell (World.block_lt_of_cell? w _ hx201_0)).trans hx201_0))
               replace p201 := eq_true p201
               replace q201 := eq_true q201
               have p202 : 0 ≤ (x6_2 : Int) := of_decide_eq_true zb_
               have q202 : x6_2 < (l1.length : Int) := of_decide_eq_true zb_
               obtain ⟨ad202, e202, hx202_0⟩ := Kd.at_int HR1.out x6_2 p202 q202
               have hw202_0 := hx202_0
               obtain rfl : ad201 = ad202 := (by injection e202)
               (try (replace hx202_0 := (HB.out.cell (World.block_lt_of_cell? w _ hx202_0)).trans hx202_0))
               replace p202 := eq_true p202
               replace q202 := eq_true q202
               have p203 : 0 ≤ (x9_1 : Int) := of_decide_eq_true zb_
               have q203 : x9_1 < (l0.length : Int) := of_decide_eq_true zb_
               obtain ⟨ad203, e203, hx203_0, hx203_1⟩ := at_T32 HR0.out x9_1 p203 q203
               have hw203_1 := hx203_1
               have hw203_0 := hx203_0
               cases e203
               (try (replace hx203_0 := (HB.out.cell (World.block_lt_of_cell? w _ hx203_0)).trans hx203_0))
               (try (replace hx203_1 := (HB.out.cell (World.block_lt_of_cell? w _ hx203_1)).trans hx203_1))
               replace p203 := eq_true p203
               replace q203 := eq_true q203
               have p204 : 0 ≤ (x6_2 : Int) := of_decide_eq_true zb_
               have q204 : x6_2 < (l0.length : Int) := of_decide_eq_true zb_
               obtain ⟨ad204, e204, hx204_0, hx204_1⟩ := at_T32 HR0.out x6_2 p204 q204
               have hw204_1 := hx204_1
               have hw204_0 := hx204_0
               obtain rfl : ad203 = ad204 := (by injection e204)
               (try (replace hx204_0 := (HB.out.cell (World.block_lt_of_cell? w _ hx204_0)).trans hx204_0))
               (try (replace hx204_1 := (HB.out.cell (World.block_lt_of_cell? w _ hx204_1)).trans hx204_1))
               replace p204 := eq_true p204
               replace q204 := eq_true q204
               refine start_ (n := 20) (S := fun w' => w'.cell? (ad201.add (x9_1).toNat) = some (.int .i64 (rd l1 x9_1)) ∧ w'.cell? (ad201.add (x6_2).toNat) = some (.int .i64 (rd l1 x6_2)) ∧ w'.cell? (ad203.add ((x9_1).toNat * 2)) = some (.int .i64 ((rd_T32 l0 x9_1).f0)) ∧ w'.cell? ⟨(ad203.add ((x9_1).toNat * 2)).block, (ad203.add ((x9_1).toNat * 2)).off + 1, none⟩ = some (.int .i64 ((rd_T32 l0 x9_1).f1)) ∧ w'.cell? (ad203.add ((x6_2).toNat * 2)) = some (.int .i64 ((rd_T32 l0 x6_2).f0)) ∧ w'.cell? ⟨(ad203.add ((x6_2).toNat * 2)).block, (ad203.add ((x6_2).toNat * 2)).off + 1, none⟩ = some (.int .i64 ((rd_T32 l0 x6_2).f1))) (ds := []) #[fi,fi,fi,fi,fi,fi,fi,fi,fi,fi,fi,fi,fi,fi,fi,fi,fi,fi,fi,fi] (by kernel_rfl) rfl rfl ⟨((HB.out.cell (World.block_lt_of_cell? w _ hw201_0)).trans hw201_0), ((HB.out.cell (World.block_lt_of_cell? w _ hw202_0)).trans hw202_0), ((HB.out.cell (World.block_lt_of_cell? w _ hw203_0)).trans hw203_0), ((HB.out.cell (World.block_lt_of_cell? w _ hw203_1)).trans hw203_1), ((HB.out.cell (World.block_lt_of_cell? w _ hw204_0)).trans hw204_0), ((HB.out.cell (World.block_lt_of_cell? w _ hw204_1)).trans hw204_1)⟩ (fun hHeld => ?_); refine with_tabW impl_isRouting.tab7 impl_isRouting.bits7 (fun HT_ HW_ => ?_)
               generalize wr.drew = w14 at HB hx201_0 hx202_0 hx203_0 hx203_1 hx204_0 hx204_1 hHeld ⊢
               refine py_ 0 17 HT_.out ?_
               refine py_ 1 18 HT_.out ?_
               refine py_ 2 19 HT_.out ?_
               refine py_ 4 21 HT_.out ?_
               refine py_ 5 22 HT_.out ?_
               refine py_ 6 23 HT_.out ?_
               refine take_ (i := 3) (N := some 20) (v := ?_) (a' := ?_) #[ti,ti,ti,ti,ti,ti,ti,fi,fi,fi,fi,fi,fi,fi,fi,fi,fi,fi,fi,fi] rfl rfl (take_ofW HT_.out HW_.out (by kernel_rfl)) (fun _ _ _ h => h) (Or.inl ⟨by rfl, ?_⟩) hHeld ?_ ?_
               rotate_left
               ·rintro w' ⟨s0, s1, s2, s3, s4, s5⟩
                go_simp
                with_reducible rfl
               rotate_left
               ·simp only [Act.put, sI, s0, sS, i64_w, i32_w]
                rfl
               refine take_ (i := 7) (N := some 24) (v := ?_) (a' := ?_) #[ti,ti,ti,ti,ti,ti,ti,ti,fi,fi,fi,fi,fi,fi,fi,fi,fi,fi,fi,fi] rfl rfl (take_ofW HT_.out HW_.out (by kernel_rfl)) (fun _ _ _ h => h) (Or.inl ⟨by rfl, ?_⟩) hHeld ?_ ?_
               rotate_left
               ·rintro w' ⟨s0, s1, s2, s3, s4, s5⟩
                go_simp
                with_reducible rfl
               rotate_left
               ·simp only [Act.put, sI, s0, sS, i64_w, i32_w]
                rfl
               refine py_ 8 25 HT_.out ?_
               refine py_ 9 26 HT_.out ?_
               refine py_ 10 27 HT_.out ?_
               refine py_ 11 28 HT_.out ?_
               refine py_ 12 29 HT_.out ?_
               refine py_ 14 31 HT_.out ?_
               refine py_ 15 32 HT_.out ?_
               refine py_ 16 33 HT_.out ?_
               refine take_ (i := 13) (N := some 30) (v := ?_) (a' := ?_) #[ti,ti,ti,ti,ti,ti,ti,ti,ti,ti,ti,ti,ti,ti,ti,ti,ti,fi,fi,fi] rfl rfl (take_ofW HT_.out HW_.out (by kernel_rfl)) (fun _ _ _ h => h) (Or.inl ⟨by rfl, ?_⟩) hHeld ?_ ?_
               rotate_left
               ·rintro w' ⟨s0, s1, s2, s3, s4, s5⟩
                go_simp
                with_reducible rfl
               rotate_left
               ·simp only [Act.put, sI, s0, sS, i64_w, i32_w]
                rfl
               refine take_ (i := 17) (N := some 34) (v := ?_) (a' := ?_) #[ti,ti,ti,ti,ti,ti,ti,ti,ti,ti,ti,ti,ti,ti,ti,ti,ti,ti,fi,fi] rfl rfl (take_ofW HT_.out HW_.out (by kernel_rfl)) (fun _ _ _ h => h) (Or.inl ⟨by rfl, ?_⟩) hHeld ?_ ?_
               rotate_left
               ·rintro w' ⟨s0, s1, s2, s3, s4, s5⟩
                go_simp
                with_reducible rfl
               rotate_left
               ·simp only [Act.put, sI, s0, sS, i64_w, i32_w]
                rfl
               refine one_ (i := 18) (N := some 35) #[ti,ti,ti,ti,ti,ti,ti,ti,ti,ti,ti,ti,ti,ti,ti,ti,ti,ti,ti,fi] rfl rfl (one_of HT_.out (by kernel_rfl)) (by decide) (fun K hK => ?_)
               refine goes_ Try.func112 (by kernel_rfl) rfl #[.agg #[.int .i64 ((rd_T32 l0 x9_1).f0), .int .i64 ((rd_T32 l0 x9_1).f1)], .agg #[.int .i64 ((rd_T32 l0 x6_2).f0), .int .i64 ((rd_T32 l0 x6_2).f1)]] (by rfl) rfl rfl zd_ ?_
               with_reducible refine (impl_wiresMeet.calls ((rd_T32 l0 x9_1).f0) ((rd_T32 l0 x9_1).f1) ((rd_T32 l0 x6_2).f0) ((rd_T32 l0 x6_2).f1) true _ A12.out).mono ?_
               rintro e w15 ⟨rfl, hb⟩
               refine ⟨_, rfl, ?_⟩
               have n0_ := aM (below_step za_ hb)
               clear HB
               have HB := n0_
               clear n0_
               (try clear hb)
               (try clear hb2)
               (try clear hk)
               (try clear hi)
               refine hK.out _ _ ⟨((HB.out.cell (World.block_lt_of_cell? w _ hw201_0)).trans hw201_0), ((HB.out.cell (World.block_lt_of_cell? w _ hw202_0)).trans hw202_0), ((HB.out.cell (World.block_lt_of_cell? w _ hw203_0)).trans hw203_0), ((HB.out.cell (World.block_lt_of_cell? w _ hw203_1)).trans hw203_1), ((HB.out.cell (World.block_lt_of_cell? w _ hw204_0)).trans hw204_0), ((HB.out.cell (World.block_lt_of_cell? w _ hw204_1)).trans hw204_1)⟩ (fun hHeld => ?_)
               clear hK K
               refine norm_ (a' := ?_) ?_ ?_
               rotate_left
               ·show Act.put _ (some 35) _ = _
                simp only [Act.put, sI, s0, sS, i64_w, i32_w]
                rfl
               refine py_ 19 36 HT_.out ?_
               refine done_ (done_of HT_.out (by kernel_rfl)) ?_
               try go_wp2
               go_ret
               exact ⟨zg_, za_⟩
              ·replace c13 := Bool.eq_false_iff.mpr c13
               subst c13
               have H1 : (impl_isRouting.l1 k2 l0 l1 x9_1 (wrap64 (x6_2 + 1)) (l0.length : Int) x9_1) = some r := by rw [if_neg (show ¬ (false = true) by decide)] at H; exact H
               clear H
               have H := H1
               clear H1
               have H' := aM H
               clear H
               try go_wp2
               have n0_ := aM (p1 HB.out)
               clear HB
               have HB := n0_
               clear n0_
               have p201 : 0 ≤ (x9_1 : Int) := of_decide_eq_true zb_
               have q201 : x9_1 < (l1.length : Int) := of_decide_eq_true zb_
               obtain ⟨ad201, e201, hx201_0⟩ := Kd.at_int HR1.out x9_1 p201 q201
               have hw201_0 := hx201_0
               cases e201
               (try (replace hx201_0 := (HB.out.cell (World.block_lt_of_cell? w _ hx201_0)).trans hx201_0))
               replace p201 := eq_true p201
               replace q201 := eq_true q201
               have p202 : 0 ≤ (x6_2 : Int) := of_decide_eq_true zb_
               have q202 : x6_2 < (l1.length : Int) := of_decide_eq_true zb_
               obtain ⟨ad202, e202, hx202_0⟩ := Kd.at_int HR1.out x6_2 p202 q202
               have hw202_0 := hx202_0
               obtain rfl : ad201 = ad202 := (by injection e202)
               (try (replace hx202_0 := (HB.out.cell (World.block_lt_of_cell? w _ hx202_0)).trans hx202_0))
               replace p202 := eq_true p202
               replace q202 := eq_true q202
               have p203 : 0 ≤ (x9_1 : Int) := of_decide_eq_true zb_
               have q203 : x9_1 < (l0.length : Int) := of_decide_eq_true zb_
               obtain ⟨ad203, e203, hx203_0, hx203_1⟩ := at_T32 HR0.out x9_1 p203 q203
               have hw203_1 := hx203_1
               have hw203_0 := hx203_0
               cases e203
               (try (replace hx203_0 := (HB.out.cell (World.block_lt_of_cell? w _ hx203_0)).trans hx203_0))
               (try (replace hx203_1 := (HB.out.cell (World.block_lt_of_cell? w _ hx203_1)).trans hx203_1))
               replace p203 := eq_true p203
               replace q203 := eq_true q203
               have p204 : 0 ≤ (x6_2 : Int) := of_decide_eq_true zb_
               have q204 : x6_2 < (l0.length : Int) := of_decide_eq_true zb_
               obtain ⟨ad204, e204, hx204_0, hx204_1⟩ := at_T32 HR0.out x6_2 p204 q204
               have hw204_1 := hx204_1
               have hw204_0 := hx204_0
               obtain rfl : ad203 = ad204 := (by injection e204)
               (try (replace hx204_0 := (HB.out.cell (World.block_lt_of_cell? w _ hx204_0)).trans hx204_0))
               (try (replace hx204_1 := (HB.out.cell (World.block_lt_of_cell? w _ hx204_1)).trans hx204_1))
               replace p204 := eq_true p204
               replace q204 := eq_true q204
               refine start_ (n := 20) (S := fun w' => w'.cell? (ad201.add (x9_1).toNat) = some (.int .i64 (rd l1 x9_1)) ∧ w'.cell? (ad201.add (x6_2).toNat) = some (.int .i64 (rd l1 x6_2)) ∧ w'.cell? (ad203.add ((x9_1).toNat * 2)) = some (.int .i64 ((rd_T32 l0 x9_1).f0)) ∧ w'.cell? ⟨(ad203.add ((x9_1).toNat * 2)).block, (ad203.add ((x9_1).toNat * 2)).off + 1, none⟩ = some (.int .i64 ((rd_T32 l0 x9_1).f1)) ∧ w'.cell? (ad203.add ((x6_2).toNat * 2)) = some (.int .i64 ((rd_T32 l0 x6_2).f0)) ∧ w'.cell? ⟨(ad203.add ((x6_2).toNat * 2)).block, (ad203.add ((x6_2).toNat * 2)).off + 1, none⟩ = some (.int .i64 ((rd_T32 l0 x6_2).f1))) (ds := []) #[fi,fi,fi,fi,fi,fi,fi,fi,fi,fi,fi,fi,fi,fi,fi,fi,fi,fi,fi,fi] (by kernel_rfl) rfl rfl ⟨((HB.out.cell (World.block_lt_of_cell? w _ hw201_0)).trans hw201_0), ((HB.out.cell (World.block_lt_of_cell? w _ hw202_0)).trans hw202_0), ((HB.out.cell (World.block_lt_of_cell? w _ hw203_0)).trans hw203_0), ((HB.out.cell (World.block_lt_of_cell? w _ hw203_1)).trans hw203_1), ((HB.out.cell (World.block_lt_of_cell? w _ hw204_0)).trans hw204_0), ((HB.out.cell (World.block_lt_of_cell? w _ hw204_1)).trans hw204_1)⟩ (fun hHeld => ?_); refine with_tabW impl_isRouting.tab7 impl_isRouting.bits7 (fun HT_ HW_ => ?_)
               generalize wr.drew = w16 at HB hx201_0 hx202_0 hx203_0 hx203_1 hx204_0 hx204_1 hHeld ⊢
               refine py_ 0 17 HT_.out ?_
               refine py_ 1 18 HT_.out ?_
               refine py_ 2 19 HT_.out ?_
               refine py_ 4 21 HT_.out ?_
               refine py_ 5 22 HT_.out ?_
               refine py_ 6 23 HT_.out ?_
               refine take_ (i := 3) (N := some 20) (v := ?_) (a' := ?_) #[ti,ti,ti,ti,ti,ti,ti,fi,fi,fi,fi,fi,fi,fi,fi,fi,fi,fi,fi,fi] rfl rfl (take_ofW HT_.out HW_.out (by kernel_rfl)) (fun _ _ _ h => h) (Or.inl ⟨by rfl, ?_⟩) hHeld ?_ ?_
               rotate_left
               ·rintro w' ⟨s0, s1, s2, s3, s4, s5⟩
                go_simp
                with_reducible rfl
               rotate_left
               ·simp only [Act.put, sI, s0, sS, i64_w, i32_w]
                rfl
               refine take_ (i := 7) (N := some 24) (v := ?_) (a' := ?_) #[ti,ti,ti,ti,ti,ti,ti,ti,fi,fi,fi,fi,fi,fi,fi,fi,fi,fi,fi,fi] rfl rfl (take_ofW HT_.out HW_.out (by kernel_rfl)) (fun _ _ _ h => h) (Or.inl ⟨by rfl, ?_⟩) hHeld ?_ ?_
               rotate_left
               ·rintro w' ⟨s0, s1, s2, s3, s4, s5⟩
                go_simp
                with_reducible rfl
               rotate_left
               ·simp only [Act.put, sI, s0, sS, i64_w, i32_w]
                rfl
               refine py_ 8 25 HT_.out ?_
               refine py_ 9 26 HT_.out ?_
               refine py_ 10 27 HT_.out ?_
               refine py_ 11 28 HT_.out ?_
               refine py_ 12 29 HT_.out ?_
               refine py_ 14 31 HT_.out ?_
               refine py_ 15 32 HT_.out ?_
               refine py_ 16 33 HT_.out ?_
               refine take_ (i := 13) (N := some 30) (v := ?_) (a' := ?_) #[ti,ti,ti,ti,ti,ti,ti,ti,ti,ti,ti,ti,ti,ti,ti,ti,ti,fi,fi,fi] rfl rfl (take_ofW HT_.out HW_.out (by kernel_rfl)) (fun _ _ _ h => h) (Or.inl ⟨by rfl, ?_⟩) hHeld ?_ ?_
               rotate_left
               ·rintro w' ⟨s0, s1, s2, s3, s4, s5⟩
                go_simp
                with_reducible rfl
               rotate_left
               ·simp only [Act.put, sI, s0, sS, i64_w, i32_w]
                rfl
               refine take_ (i := 17) (N := some 34) (v := ?_) (a' := ?_) #[ti,ti,ti,ti,ti,ti,ti,ti,ti,ti,ti,ti,ti,ti,ti,ti,ti,ti,fi,fi] rfl rfl (take_ofW HT_.out HW_.out (by kernel_rfl)) (fun _ _ _ h => h) (Or.inl ⟨by rfl, ?_⟩) hHeld ?_ ?_
               rotate_left
               ·rintro w' ⟨s0, s1, s2, s3, s4, s5⟩
                go_simp
                with_reducible rfl
               rotate_left
               ·simp only [Act.put, sI, s0, sS, i64_w, i32_w]
                rfl
               refine one_ (i := 18) (N := some 35) #[ti,ti,ti,ti,ti,ti,ti,ti,ti,ti,ti,ti,ti,ti,ti,ti,ti,ti,ti,fi] rfl rfl (one_of HT_.out (by kernel_rfl)) (by decide) (fun K hK => ?_)
               refine goes_ Try.func112 (by kernel_rfl) rfl #[.agg #[.int .i64 ((rd_T32 l0 x9_1).f0), .int .i64 ((rd_T32 l0 x9_1).f1)], .agg #[.int .i64 ((rd_T32 l0 x6_2).f0), .int .i64 ((rd_T32 l0 x6_2).f1)]] (by rfl) rfl rfl zd_ ?_
               with_reducible refine (impl_wiresMeet.calls ((rd_T32 l0 x9_1).f0) ((rd_T32 l0 x9_1).f1) ((rd_T32 l0 x6_2).f0) ((rd_T32 l0 x6_2).f1) false _ A12.out).mono ?_
               rintro e w17 ⟨rfl, hb⟩
               refine ⟨_, rfl, ?_⟩
               have n0_ := aM (below_step za_ hb)
               clear HB
               have HB := n0_
               clear n0_
               (try clear hb)
               (try clear hb2)
               (try clear hk)
               (try clear hi)
               refine hK.out _ _ ⟨((HB.out.cell (World.block_lt_of_cell? w _ hw201_0)).trans hw201_0), ((HB.out.cell (World.block_lt_of_cell? w _ hw202_0)).trans hw202_0), ((HB.out.cell (World.block_lt_of_cell? w _ hw203_0)).trans hw203_0), ((HB.out.cell (World.block_lt_of_cell? w _ hw203_1)).trans hw203_1), ((HB.out.cell (World.block_lt_of_cell? w _ hw204_0)).trans hw204_0), ((HB.out.cell (World.block_lt_of_cell? w _ hw204_1)).trans hw204_1)⟩ (fun hHeld => ?_)
               clear hK K
               refine norm_ (a' := ?_) ?_ ?_
               rotate_left
               ·show Act.put _ (some 35) _ = _
                simp only [Act.put, sI, s0, sS, i64_w, i32_w]
                rfl
               refine py_ 19 36 HT_.out ?_
               refine done_ (done_of HT_.out (by kernel_rfl)) ?_
               try go_wp2
               go_roundg k2
               case measure => have := HK1.out; have := HK2.out; omega
               case rel => exact ⟨(wrap64 (x6_2 + 1)), zc_, H', ⟨zbi_⟩, ⟨za_⟩⟩
             ·rw [if_neg c11] at H
              exact absurd H (by simp)
            ·rw [if_neg c10] at H
             exact absurd H (by simp)
           ·rw [if_neg c9] at H
            have c9b0 : ((rd l1 x9_1) == (rd l1 x6_2)) = false := beq_eq_false_iff_ne.mpr c9
            have c9b1 : ((rd l1 x9_1) != (rd l1 x6_2)) = true := bne_iff_ne.mpr c9
            have H' := aM H
            clear H
            try go_wp2
            have n0_ := aM (p1 HB.out)
            clear HB
            have HB := n0_
            clear n0_
            have p201 : 0 ≤ (x9_1 : Int) := of_decide_eq_true zb_
            have q201 : x9_1 < (l1.length : Int) := of_decide_eq_true zb_
            obtain ⟨ad201, e201, hx201_0⟩ := Kd.at_int HR1.out x9_1 p201 q201
            have hw201_0 := hx201_0
            cases e201
            (try (replace hx201_0 := (HB.out.cell (World.block_lt_of_cell? w _ hx201_0)).trans hx201_0))
            replace p201 := eq_true p201
            replace q201 := eq_true q201
            have p202 : 0 ≤ (x6_2 : Int) := of_decide_eq_true zb_
            have q202 : x6_2 < (l1.length : Int) := of_decide_eq_true zb_
            obtain ⟨ad202, e202, hx202_0⟩ := Kd.at_int HR1.out x6_2 p202 q202
            have hw202_0 := hx202_0
            obtain rfl : ad201 = ad202 := (by injection e202)
            (try (replace hx202_0 := (HB.out.cell (World.block_lt_of_cell? w _ hx202_0)).trans hx202_0))
            replace p202 := eq_true p202
            replace q202 := eq_true q202
            refine start_ (n := 20) (S := fun w' => w'.cell? (ad201.add (x9_1).toNat) = some (.int .i64 (rd l1 x9_1)) ∧ w'.cell? (ad201.add (x6_2).toNat) = some (.int .i64 (rd l1 x6_2))) (ds := []) #[fi,fi,fi,fi,fi,fi,fi,fi,fi,fi,fi,fi,fi,fi,fi,fi,fi,fi,fi,fi] (by kernel_rfl) rfl rfl ⟨((HB.out.cell (World.block_lt_of_cell? w _ hw201_0)).trans hw201_0), ((HB.out.cell (World.block_lt_of_cell? w _ hw202_0)).trans hw202_0)⟩ (fun hHeld => ?_); refine with_tabW impl_isRouting.tab7 impl_isRouting.bits7 (fun HT_ HW_ => ?_)
            generalize wr.drew = w18 at HB hx201_0 hx202_0 hHeld ⊢
            refine py_ 0 17 HT_.out ?_
            refine py_ 1 18 HT_.out ?_
            refine py_ 2 19 HT_.out ?_
            refine py_ 4 21 HT_.out ?_
            refine py_ 5 22 HT_.out ?_
            refine py_ 6 23 HT_.out ?_
            refine take_ (i := 3) (N := some 20) (v := ?_) (a' := ?_) #[ti,ti,ti,ti,ti,ti,ti,fi,fi,fi,fi,fi,fi,fi,fi,fi,fi,fi,fi,fi] rfl rfl (take_ofW HT_.out HW_.out (by kernel_rfl)) (fun _ _ _ h => h) (Or.inl ⟨by rfl, ?_⟩) hHeld ?_ ?_
            rotate_left
            ·rintro w' ⟨s0, s1⟩
             go_simp
             with_reducible rfl
            rotate_left
            ·simp only [Act.put, sI, s0, sS, i64_w, i32_w]
             rfl
            refine take_ (i := 7) (N := some 24) (v := ?_) (a' := ?_) #[ti,ti,ti,ti,ti,ti,ti,ti,fi,fi,fi,fi,fi,fi,fi,fi,fi,fi,fi,fi] rfl rfl (take_ofW HT_.out HW_.out (by kernel_rfl)) (fun _ _ _ h => h) (Or.inl ⟨by rfl, ?_⟩) hHeld ?_ ?_
            rotate_left
            ·rintro w' ⟨s0, s1⟩
             go_simp
             with_reducible rfl
            rotate_left
            ·simp only [Act.put, sI, s0, sS, i64_w, i32_w]
             rfl
            refine py_ 8 25 HT_.out ?_
            refine py_ 9 26 HT_.out ?_
            refine pure_ (i := 10) (N := some 27) (v := undef) (a' := ?_) #[ti,ti,ti,ti,ti,ti,ti,ti,ti,ti,ti,fi,fi,fi,fi,fi,fi,fi,fi,fi] rfl rfl (any_of HT_.out (by kernel_rfl)) (fun _ _ _ h => h) (Or.inr ⟨by rfl, rfl⟩) ?_ ?_
            rotate_left
            ·simp only [Act.put, sI, s0, sS, i64_w, i32_w]
             rfl
            refine pure_ (i := 11) (N := some 28) (v := undef) (a' := ?_) #[ti,ti,ti,ti,ti,ti,ti,ti,ti,ti,ti,ti,fi,fi,fi,fi,fi,fi,fi,fi] rfl rfl (any_of HT_.out (by kernel_rfl)) (fun _ _ _ h => h) (Or.inr ⟨by rfl, rfl⟩) ?_ ?_
            rotate_left
            ·simp only [Act.put, sI, s0, sS, i64_w, i32_w]
             rfl
            refine pure_ (i := 12) (N := some 29) (v := undef) (a' := ?_) #[ti,ti,ti,ti,ti,ti,ti,ti,ti,ti,ti,ti,ti,fi,fi,fi,fi,fi,fi,fi] rfl rfl (any_of HT_.out (by kernel_rfl)) (fun _ _ _ h => h) (Or.inr ⟨by rfl, rfl⟩) ?_ ?_
            rotate_left
            ·simp only [Act.put, sI, s0, sS, i64_w, i32_w]
             rfl
            refine pure_ (i := 13) (N := some 30) (v := undef) (a' := ?_) #[ti,ti,ti,ti,ti,ti,ti,ti,ti,ti,ti,ti,ti,ti,fi,fi,fi,fi,fi,fi] rfl rfl (any_of HT_.out (by kernel_rfl)) (fun _ _ _ h => h) (Or.inr ⟨by rfl, rfl⟩) ?_ ?_
            rotate_left
            ·simp only [Act.put, sI, s0, sS, i64_w, i32_w]
             rfl
            refine pure_ (i := 14) (N := some 31) (v := undef) (a' := ?_) #[ti,ti,ti,ti,ti,ti,ti,ti,ti,ti,ti,ti,ti,ti,ti,fi,fi,fi,fi,fi] rfl rfl (any_of HT_.out (by kernel_rfl)) (fun _ _ _ h => h) (Or.inr ⟨by rfl, rfl⟩) ?_ ?_
            rotate_left
            ·simp only [Act.put, sI, s0, sS, i64_w, i32_w]
             rfl
            refine pure_ (i := 15) (N := some 32) (v := undef) (a' := ?_) #[ti,ti,ti,ti,ti,ti,ti,ti,ti,ti,ti,ti,ti,ti,ti,ti,fi,fi,fi,fi] rfl rfl (any_of HT_.out (by kernel_rfl)) (fun _ _ _ h => h) (Or.inr ⟨by rfl, rfl⟩) ?_ ?_
            rotate_left
            ·simp only [Act.put, sI, s0, sS, i64_w, i32_w]
             rfl
            refine pure_ (i := 16) (N := some 33) (v := undef) (a' := ?_) #[ti,ti,ti,ti,ti,ti,ti,ti,ti,ti,ti,ti,ti,ti,ti,ti,ti,fi,fi,fi] rfl rfl (any_of HT_.out (by kernel_rfl)) (fun _ _ _ h => h) (Or.inr ⟨by rfl, rfl⟩) ?_ ?_
            rotate_left
            ·simp only [Act.put, sI, s0, sS, i64_w, i32_w]
             rfl
            refine pure_ (i := 17) (N := some 34) (v := undef) (a' := ?_) #[ti,ti,ti,ti,ti,ti,ti,ti,ti,ti,ti,ti,ti,ti,ti,ti,ti,ti,fi,fi] rfl rfl (any_of HT_.out (by kernel_rfl)) (fun _ _ _ h => h) (Or.inr ⟨by rfl, rfl⟩) ?_ ?_
            rotate_left
            ·simp only [Act.put, sI, s0, sS, i64_w, i32_w]
             rfl
            refine pure_ (i := 18) (N := some 35) (v := undef) (a' := ?_) #[ti,ti,ti,ti,ti,ti,ti,ti,ti,ti,ti,ti,ti,ti,ti,ti,ti,ti,ti,fi] rfl rfl (any_of HT_.out (by kernel_rfl)) (fun _ _ _ h => h) (Or.inr ⟨by rfl, rfl⟩) ?_ ?_
            rotate_left
            ·simp only [Act.put, sI, s0, sS, i64_w, i32_w]
             rfl
            refine py_ 19 36 HT_.out ?_
            refine done_ (done_of HT_.out (by kernel_rfl)) ?_
            try go_wp2
            go_roundg k2
            case measure => have := HK1.out; have := HK2.out; omega
            case rel => exact ⟨(wrap64 (x6_2 + 1)), zc_, H', ⟨zbi_⟩, ⟨za_⟩⟩
          ·rw [if_neg c8] at H
           exact absurd H (by simp)
         ·rw [if_neg c7] at H
          exact absurd H (by simp)
        ·rw [if_neg c6] at H
         exact absurd H (by simp)
       ·rw [if_neg c5] at H
        exact absurd H (by simp)
      ·rw [if_neg c4] at H
       have c4b0 : decide (x6_2 < x9_1) = false := decide_eq_false c4
       clear c4
       have H' := aM H
       clear H
       go_wp2
       go_roundg k2
       case measure => have := HK1.out; have := HK2.out; omega
       case rel => exact ⟨(wrap64 (x9_1 + 1)), zc_, H', ⟨zbi_⟩, ⟨za_⟩⟩
   ·rw [if_neg c3] at H
    have c3b0 : decide (x9_1 < (l0.length : Int)) = false := decide_eq_false c3
    clear c3
    obtain rfl := Option.some.inj H
    go_wp2
    go_ret
    exact ⟨zg_, za_⟩
def impl_IsRouting.f (k : Nat) (l0 : List (S32)) (l1 : List Int) : Option (Bool × Bool) := (impl_AreChannelWires.f k l0).bind fun t206 => (if t206 = true then ((impl_areTracks.f k l1).bind fun t207 => (if t207 = true then (if (l1.length : Int) = (l0.length : Int) then ((impl_isRouting.f k l0 l1).bind fun t208 => (some (t208, true))) else (some (false, false))) else (some (false, false)))) else (some (false, false)))
theorem impl_IsRouting.calls (k : Nat) (A0 : Option Addr) (c0 : Nat) (l0 : List (S32)) (A1 : Option Addr) (c1 : Nat) (l1 : List Int) (r1 : Bool) (r2 : Bool) (w : World) (hr0 : Kd.C k32 w A0 l0.length l0) (hc0 : l0.length ≤ c0) (hr1 : Kd.C (Kd.int .i64) w A1 l1.length l1) (hc1 : l1.length ≤ c1) (h : impl_IsRouting.f k l0 l1 = some (r1, r2)) :
  Calls Try.prog 10 #[.slice A0 l0.length c0, .slice A1 l1.length c1] w fun e w' => e = .returned (.tuple #[.bool r1, .bool r2]) ∧ Below w.heap.size w w' := by
 have HR0 := aM hr0
 have HC0 := aM hc0
 clear hr0 hc0
 have HR1 := aM hr1
 have HC1 := aM hc1
 clear hr1 hc1
 have HB := aM (Below.refl w.heap.size w)
 have H : ((impl_AreChannelWires.f k l0).bind fun t206 => (if t206 = true then ((impl_areTracks.f k l1).bind fun t207 => (if t207 = true then (if (l1.length : Int) = (l0.length : Int) then ((impl_isRouting.f k l0 l1).bind fun t208 => (some (t208, true))) else (some (false, false))) else (some (false, false)))) else (some (false, false)))) = some (r1, r2) := h
 clear h
 replace H := oB.mp H
 obtain ⟨t206, A30, H⟩ := H
 replace H : (if t206 = true then ((impl_areTracks.f k l1).bind fun t207 => (if t207 = true then (if (l1.length : Int) = (l0.length : Int) then ((impl_isRouting.f k l0 l1).bind fun t208 => (some (t208, true))) else (some (false, false))) else (some (false, false)))) else (some (false, false))) = some (r1, r2) := H
 have A3 := aM A30
 clear A30
 by_cases c4 : t206 = true
 ·subst c4
  have H1 : ((impl_areTracks.f k l1).bind fun t207 => (if t207 = true then (if (l1.length : Int) = (l0.length : Int) then ((impl_isRouting.f k l0 l1).bind fun t208 => (some (t208, true))) else (some (false, false))) else (some (false, false)))) = some (r1, r2) := by rw [if_pos rfl] at H; exact H
  clear H
  have H := H1
  clear H1
  replace H := oB.mp H
  obtain ⟨t207, A50, H⟩ := H
  replace H : (if t207 = true then (if (l1.length : Int) = (l0.length : Int) then ((impl_isRouting.f k l0 l1).bind fun t208 => (some (t208, true))) else (some (false, false))) else (some (false, false))) = some (r1, r2) := H
  have A5 := aM A50
  clear A50
  by_cases c6 : t207 = true
  ·subst c6
   have H1 : (if (l1.length : Int) = (l0.length : Int) then ((impl_isRouting.f k l0 l1).bind fun t208 => (some (t208, true))) else (some (false, false))) = some (r1, r2) := by rw [if_pos rfl] at H; exact H
   clear H
   have H := H1
   clear H1
   by_cases c7 : (l1.length : Int) = (l0.length : Int)
   ·rw [if_pos c7] at H
    have c7b0 : ((l1.length : Int) == (l0.length : Int)) = true := beq_iff_eq.mpr c7
    have c7b1 : ((l1.length : Int) != (l0.length : Int)) = false := bne_eq_false_iff_eq.mpr c7
    have c7b2 : (l1.length == l0.length) = true := by first | simpa using c7 | (simp at c7 ⊢; omega)
    clear c7
    replace H := oB.mp H
    obtain ⟨t208, A80, H⟩ := H
    replace H : (some (t208, true)) = some (r1, r2) := H
    have A8 := aM A80
    clear A80
    simp only [Option.some.injEq, Prod.mk.injEq] at H
    obtain ⟨rfl, rfl⟩ := H
    go_enter Try.func10, Try.ntmps10
    go_wp2_with (first | ((with_reducible refine gate_callee (f := 87) rfl ?_); refine goesL_ (some 7) rfl rfl Try.func87 (by kernel_rfl) rfl #[.slice A0 l0.length c0] rfl zd_ ?_; (with_reducible refine (impl_AreChannelWires.calls k _ _ l0 true _ ?side1 ?side2 A3.out).mono ?_); (case side1 => exact zbh_); (case side2 => exact HC0.out); rintro e w9 ⟨rfl, hb⟩; refine ⟨_, rfl, ?_⟩; have n0_ := aM (below_step za_ hb); clear HB; have HB := n0_; clear n0_; (try clear hb)) | (go_at_call 101; (with_reducible refine (impl_areTracks.calls k _ _ l1 true _ ?side1 ?side2 A5.out).mono ?_); (case side1 => exact zbb_); (case side2 => exact HC1.out); rintro e w' ⟨rfl, ⟨nd, rfl⟩⟩) | ((with_reducible refine gate_callee (f := 102) rfl ?_); refine goesL_ (some 23) rfl rfl Try.func102 (by kernel_rfl) rfl #[.slice A0 l0.length c0, .slice A1 l1.length c1] rfl zd_ ?_; (with_reducible refine (impl_isRouting.calls k _ _ l0 _ _ l1 t208 _ ?side1 ?side2 ?side3 ?side4 A8.out).mono ?_); (case side1 => repeat (first | exact (Kd.C_below HR0.out za_) | (with_reducible refine cA ?_ _) | (with_reducible refine cN ?_ _) | (with_reducible refine cD ?_))); (case side2 => exact HC0.out); (case side3 => repeat (first | exact (Kd.C_below HR1.out za_) | (with_reducible refine cA ?_ _) | (with_reducible refine cN ?_ _) | (with_reducible refine cD ?_))); (case side4 => exact HC1.out); rintro e w10 ⟨rfl, hb⟩; refine ⟨_, rfl, ?_⟩; have n0_ := aM (below_step za_ hb); clear HB; have HB := n0_; clear n0_; (try clear hb)))
    go_ret2
    exact ⟨zg_, za_⟩
   ·rw [if_neg c7] at H
    have c7b0 : ((l1.length : Int) == (l0.length : Int)) = false := beq_eq_false_iff_ne.mpr c7
    have c7b1 : ((l1.length : Int) != (l0.length : Int)) = true := bne_iff_ne.mpr c7
    have c7b2 : (l1.length == l0.length) = false := by first | simpa using c7 | (simp at c7 ⊢; omega)
    simp only [Option.some.injEq, Prod.mk.injEq] at H
    obtain ⟨rfl, rfl⟩ := H
    go_enter Try.func10, Try.ntmps10
    go_wp2_with (first | ((with_reducible refine gate_callee (f := 87) rfl ?_); refine goesL_ (some 7) rfl rfl Try.func87 (by kernel_rfl) rfl #[.slice A0 l0.length c0] rfl zd_ ?_; (with_reducible refine (impl_AreChannelWires.calls k _ _ l0 true _ ?side1 ?side2 A3.out).mono ?_); (case side1 => exact zbh_); (case side2 => exact HC0.out); rintro e w11 ⟨rfl, hb⟩; refine ⟨_, rfl, ?_⟩; have n0_ := aM (below_step za_ hb); clear HB; have HB := n0_; clear n0_; (try clear hb)) | (go_at_call 101; (with_reducible refine (impl_areTracks.calls k _ _ l1 true _ ?side1 ?side2 A5.out).mono ?_); (case side1 => exact zbb_); (case side2 => exact HC1.out); rintro e w' ⟨rfl, ⟨nd, rfl⟩⟩))
    go_ret2
    exact ⟨zg_, za_⟩
  ·replace c6 := Bool.eq_false_iff.mpr c6
   subst c6
   have H1 : (some (false, false)) = some (r1, r2) := by rw [if_neg (show ¬ (false = true) by decide)] at H; exact H
   clear H
   have H := H1
   clear H1
   simp only [Option.some.injEq, Prod.mk.injEq] at H
   obtain ⟨rfl, rfl⟩ := H
   go_enter Try.func10, Try.ntmps10
   go_wp2_with (first | ((with_reducible refine gate_callee (f := 87) rfl ?_); refine goesL_ (some 7) rfl rfl Try.func87 (by kernel_rfl) rfl #[.slice A0 l0.length c0] rfl zd_ ?_; (with_reducible refine (impl_AreChannelWires.calls k _ _ l0 true _ ?side1 ?side2 A3.out).mono ?_); (case side1 => exact zbh_); (case side2 => exact HC0.out); rintro e w12 ⟨rfl, hb⟩; refine ⟨_, rfl, ?_⟩; have n0_ := aM (below_step za_ hb); clear HB; have HB := n0_; clear n0_; (try clear hb)) | (go_at_call 101; (with_reducible refine (impl_areTracks.calls k _ _ l1 false _ ?side1 ?side2 A5.out).mono ?_); (case side1 => exact zbb_); (case side2 => exact HC1.out); rintro e w' ⟨rfl, ⟨nd, rfl⟩⟩))
   go_ret2
   exact ⟨zg_, za_⟩
 ·replace c4 := Bool.eq_false_iff.mpr c4
  subst c4
  have H1 : (some (false, false)) = some (r1, r2) := by rw [if_neg (show ¬ (false = true) by decide)] at H; exact H
  clear H
  have H := H1
  clear H1
  simp only [Option.some.injEq, Prod.mk.injEq] at H
  obtain ⟨rfl, rfl⟩ := H
  go_enter Try.func10, Try.ntmps10
  go_wp2_with (first | ((with_reducible refine gate_callee (f := 87) rfl ?_); refine goesL_ (some 7) rfl rfl Try.func87 (by kernel_rfl) rfl #[.slice A0 l0.length c0] rfl zd_ ?_; (with_reducible refine (impl_AreChannelWires.calls k _ _ l0 false _ ?side1 ?side2 A3.out).mono ?_); (case side1 => exact zbh_); (case side2 => exact HC0.out); rintro e w13 ⟨rfl, hb⟩; refine ⟨_, rfl, ?_⟩; have n0_ := aM (below_step za_ hb); clear HB; have HB := n0_; clear n0_; (try clear hb)))
  go_ret2
  exact ⟨zg_, za_⟩
end Go.Proofs.Ytbkighlfgaifeaa.QFnTracks
