/- Functions of the law FnTracks, each as a Lean function, and the proofs that the Go code comes to their answers. Made by wip/gen/slim.py. Conditions: those of each theorem. -/
import Derived.Test.YtbkighlfgaifeaaSFnTracksx0
import Derived.Test.YtbkighlfgaifeaaSFnTracksx1
import Derived.Test.YtbkighlfgaifeaaSFnTracksx7
namespace Go.Proofs.Ytbkighlfgaifeaa.QFnTracks
open Go.RowKit Go.Proofs.YtbkighlfgaifeaaW.PrintWords Go.Proofs.YtbkighlfgaifeaaW.PrintLast Go.Proofs.YtbkighlfgaifeaaW.PrintMore
open Go.Proofs.YtbkighlfgaifeaaW.PrintWords renaming pw_below_drewN → pN, below_drew1 → p1, below_alloc → pA
open Go.Proofs.YtbkighlfgaifeaaW.PrintWords.Kd renaming R_alloc → kA, R_drewN → kN, R_drew → kD, Q_alloc → qA, Q_drewN → qN, Q_drew → qD, C_alloc → cA, C_drewN → cN, C_drew → cD
open Go.Proofs.YtbkighlfgaifeaaW.PrintWords.Aside0 renaming mk → aM
open List renaming setIfInBounds_toArray → sI, set_cons_zero → s0, set_cons_succ → sS, map_toArray → mT, length_take → lT, length_drop → lD, map_cons → mC, map_nil → mN
open Option renaming bind_eq_some_iff → oB, bind_some → oS
attribute [local go_sem] max2_int min2_int max_two min_two max_three min_three max_four min_four
set_option maxHeartbeats 8000000
set_option maxRecDepth 100000
set_option linter.unusedVariables false
set_option linter.unusedSimpArgs false
mutual
def spec_rtRouting.l0 : Nat → List (S32) → List Int → List (S32) → Int → Int → Option (Bool)
 | 0, _, _, _, _, _ => none
 | k + 1, x0, x1, x8, x9, x10 => if x10 < x9 then (if 0 ≤ x10 then (if x10 < (x8.length : Int) then (if x10 ≤ (x0.length : Int) then (spec_rtRouting.l1 k x0 x1 x10 x8 x9 x10 ((x0.take (x10 : Int).toNat).length : Int) 0 ((rd_T32 x8 x10).f0) ((rd_T32 x8 x10).f1)) else (none)) else (none)) else (none)) else (some true)
def spec_rtRouting.l1 : Nat → List (S32) → List Int → Int → List (S32) → Int → Int → Int → Int → Int → Int → Option (Bool)
 | 0, _, _, _, _, _, _, _, _, _, _ => none
 | k + 1, x0, x1, x5, x8, x9, x10, x18, x19, x216000, x216001 => if x19 < x18 then (if 0 ≤ x5 then (if x5 < (x1.length : Int) then (if 0 ≤ x19 then (if x19 < (x1.length : Int) then (if (rd x1 x5) = (rd x1 x19) then (if x19 < (x0.length : Int) then ((spec_rtMeet.f x216000 x216001 ((rd_T32 x0 x19).f0) ((rd_T32 x0 x19).f1)).bind fun t223 => (if t223 = true then (some false) else (spec_rtRouting.l1 k x0 x1 x5 x8 x9 x10 x18 (wrap64 (x19 + 1)) x216000 x216001))) else (none)) else (spec_rtRouting.l1 k x0 x1 x5 x8 x9 x10 x18 (wrap64 (x19 + 1)) x216000 x216001)) else (none)) else (none)) else (none)) else (none)) else (spec_rtRouting.l0 k x0 x1 x8 x9 (wrap64 (x10 + 1)))
end
def spec_rtRouting.f (k : Nat) (l0 : List (S32)) (l1 : List Int) : Option (Bool) := spec_rtRouting.l0 k l0 l1 l0 (l0.length : Int) 0
def spec_rtRouting.T7 : Bool × List (List Nat × List Nat) := (true, [([], []), ([], []), ([0, 1], [0, 1]), ([2], [2]), ([], []), ([], []), ([4, 5], [4, 5]), ([6], [6]), ([3, 7], [3, 7]), ([8], [8]), ([9], [9]), ([9], [9]), ([9], [9]), ([11, 12, 9], [9, 11, 12]), ([13, 9], [9, 13]), ([10, 14, 9, 9], [9, 10, 14]), ([9, 15], [9, 15])])
def spec_rtRouting.B7 : List Nat := [0, 0, 3, 7, 0, 0, 48, 112, 255, 511, 1023, 1023, 1023, 7167, 15359, 32767, 65535]
theorem spec_rtRouting.tab7 : rtab .any (opsOf Try.f104 7) = spec_rtRouting.T7 := by kernel_rfl
theorem spec_rtRouting.bits7 : waitsOk spec_rtRouting.T7.2 spec_rtRouting.B7 = true := by kernel_rfl
theorem spec_rtRouting.calls (k : Nat) (A0 : Option Addr) (c0 : Nat) (l0 : List (S32)) (A1 : Option Addr) (c1 : Nat) (l1 : List Int) (r : Bool) (w : World) (hr0 : Kd.C k32 w A0 l0.length l0) (hc0 : l0.length ≤ c0) (hr1 : Kd.C (Kd.int .i64) w A1 l1.length l1) (hc1 : l1.length ≤ c1) (h : spec_rtRouting.f k l0 l1 = some r) :
  Calls Try.prog 104 #[.slice A0 l0.length c0, .slice A1 l1.length c1] w fun e w' => e = .returned (.bool r) ∧ Below w.heap.size w w' := by
 have hu32 := Try.underlying32
 have HR0 := aM hr0
 have HC0 := aM hc0
 clear hr0 hc0
 have HR1 := aM hr1
 have HC1 := aM hc1
 clear hr1 hc1
 have HB := aM (Below.refl w.heap.size w)
 have H : (spec_rtRouting.l0 k l0 l1 l0 (l0.length : Int) 0) = some r := h
 clear h
 have H' := aM H
 clear H
 go_enter Try.func104, Try.ntmps104
 go_wp2
 go_loopg [10] k (fun kq v10 w' => ∃ (x10_1 : Int), v10 = .int .i64 x10_1 ∧ Aside0 (spec_rtRouting.l0 kq l0 l1 l0 (l0.length : Int) x10_1 = some r) ∧ Aside0 (kq ≤ k) ∧ Aside0 (Below w.heap.size w w'))
 case atStart => exact ⟨(0), zc_, H', ⟨Nat.le_refl _⟩, ⟨za_⟩⟩
 case round =>
  clear H'
  try clear c1
  try clear p2
  obtain ⟨x10_1, rfl, HA, HK1, HB⟩ := hrel
  cases gk with
  | zero => exact absurd HA.out (by simp [spec_rtRouting.l0])
  | succ k1 =>
   have H := HA.out
   clear HA
   simp only [spec_rtRouting.l0] at H
   by_cases c3 : x10_1 < (l0.length : Int)
   ·rw [if_pos c3] at H
    have c3b0 : decide (x10_1 < (l0.length : Int)) = true := decide_eq_true c3
    clear c3
    by_cases c4 : 0 ≤ x10_1
    ·rw [if_pos c4] at H
     have c4b0 : decide (0 ≤ x10_1) = true := decide_eq_true c4
     clear c4
     by_cases c5 : x10_1 < (l0.length : Int)
     ·rw [if_pos c5] at H
      have c5b0 : decide (x10_1 < (l0.length : Int)) = true := decide_eq_true c5
      clear c5
      have c6b0 := eq_true (of_decide_eq_true zb_ : 0 ≤ x10_1)
      by_cases c7 : x10_1 ≤ (l0.length : Int)
      ·rw [if_pos c7] at H
       have c7b0 := eq_true c7
       have c7b1 : decide (x10_1 ≤ (l0.length : Int)) = true := decide_eq_true c7
       clear c7
       obtain ⟨y216, hy216⟩ : ∃ y_ : List (S32), y_ = (l0.take (x10_1 : Int).toNat) := ⟨_, rfl⟩
       replace H : (spec_rtRouting.l1 k1 l0 l1 x10_1 l0 (l0.length : Int) x10_1 (y216.length : Int) 0 ((rd_T32 l0 x10_1).f0) ((rd_T32 l0 x10_1).f1)) = some r := by first | (rw [hy216]; with_reducible exact H) | (have H2_ := (oS _ _).symm.trans H; rw [hy216]; with_reducible exact H2_) | (have H2_ := (oS _ _).symm.trans H; with_reducible exact H2_) | with_reducible exact H | (rw [hy216]; exact H) | exact H
       have Ny216 := aM hy216
       clear hy216
       have H' := aM H
       clear H
       have p214 : 0 ≤ (x10_1 : Int) := of_decide_eq_true zb_
       have q214 : x10_1 < (l0.length : Int) := of_decide_eq_true zb_
       obtain ⟨ad214, e214, hx214_0, hx214_1⟩ := at_T32 HR0.out x10_1 p214 q214
       cases e214
       (try (replace hx214_0 := (HB.out.cell (World.block_lt_of_cell? w _ hx214_0)).trans hx214_0))
       (try (replace hx214_1 := (HB.out.cell (World.block_lt_of_cell? w _ hx214_1)).trans hx214_1))
       replace p214 := eq_true p214
       replace q214 := eq_true q214
       go_wp2_with (first | ((with_reducible refine gate_dst (N := 6) rfl ?_); refine box_event ?hg (N := 6) ?hd (cs := #[.int .i64 0, .int .i64 0]) (t := 32) ?hr ?_; (case hd => rfl); (case hg => rfl); (case hr => exact zf_); intro gb215 hg w8 hbox hb; have n_ := z (below_step za_ hb) <| z (hbox) <| z ((by rw [hg]; exact (below_size za_) : w.heap.size ≤ gb215)) <| z1 ((by rw [hg]; exact (below_size za_) : w.heap.size ≤ gb215)); clear HB; obtain ⟨HB, BK215, GW215, GE215⟩ := n_; clear hb hbox hg; have hcz9_0 : w8.cell? ⟨gb215, 0, none⟩ = some (.int .i64 0) := (blk_cell BK215.out 0).trans rfl; have hcz9_1 : w8.cell? ⟨gb215, 1, none⟩ = some (.int .i64 0) := (blk_cell BK215.out 1).trans rfl; have hfz9_0 := blk_frozen BK215.out 0; have hfz9_1 := blk_frozen BK215.out 1) | ((with_reducible refine gate_store (t := 32) (p := 6) rfl ?_); refine store_event (t := 32) (p := 6) (v := ?vo_w10) (w1 := ((w8.setCell ⟨gb215, 0, none⟩ (.int .i64 ((rd_T32 l0 x10_1).f0))).setCell ⟨gb215, 1, none⟩ (.int .i64 ((rd_T32 l0 x10_1).f1)))) ?hg ?ho ?hn ?hr ?_; (case ho => rfl); (case hg => rfl); (case hn => rfl); (case hr => exact zf_); intro w10 hw; have n0_ : Aside0 (w10.heap[gb215]? = some (.cells #[.int .i64 ((rd_T32 l0 x10_1).f0), .int .i64 ((rd_T32 l0 x10_1).f1)] 32 (0, 0))) := ⟨(by rw [hw]; exact (by refine zb ?_; refine blk_put (cs := #[.int .i64 ((rd_T32 l0 x10_1).f0), .int .i64 0]) ?_ 1 _ rfl; refine zb ?_; refine blk_put (cs := #[.int .i64 0, .int .i64 0]) ?_ 0 _ rfl; refine zb ?_; exact BK215.out))⟩; have n1_ : Aside0 (Below w.heap.size w w10) := ⟨(by rw [hw]; exact zda_)⟩; clear hw BK215 HB; have BK215 := n0_; have HB := n1_; clear n0_ n1_; have q11 : (x10_1 : Int) ≤ ((l0.length : Int) : Int) := of_decide_eq_true zb_; obtain ⟨i011, hi011, _, hsz11, _⟩ := info_parts info32; have hroom11 : l0.length ≤ c0 := HC0.out; have hC11 : Kd.C k32 _ (some ad214) l0.length l0 := HR0.out; have hcut11 := cut_to (P := Try.prog) 23 32 .i64 Try.underlying23 hi011 (some ad214) l0.length c0 x10_1 (of_decide_eq_true zb_) q11 hroom11; have hr11 := Kd.C_take (m := (x10_1 : Int).toNat) hC11 (by omega); have hy11 : y216.length = (x10_1 : Int).toNat := (by rw [Ny216.out, lT]; omega); rw [← Ny216.out] at hr11; rw [← hy11] at hcut11; have HR219 := aM hr11; have HC219 := aM (show y216.length ≤ c0 from by omega); clear hr11 hC11 hroom11 hi011 hsz11; have KY11 := aM hy11; clear hy11; replace q11 := eq_true q11))
       go_loopg [19] k1 (fun kq v19 w' => ∃ (x19_2 : Int), v19 = .int .i64 x19_2 ∧ Aside0 (spec_rtRouting.l1 kq l0 l1 x10_1 l0 (l0.length : Int) x10_1 (y216.length : Int) x19_2 ((rd_T32 l0 x10_1).f0) ((rd_T32 l0 x10_1).f1) = some r) ∧ Aside0 (kq ≤ k1) ∧ Aside0 (w'.heap[gb215]? = some (.cells #[.int .i64 ((rd_T32 l0 x10_1).f0), .int .i64 ((rd_T32 l0 x10_1).f1)] 32 (0, 0))) ∧ Aside0 (Below w.heap.size w w'))
       case atStart => exact ⟨(0), zc_, H', ⟨Nat.le_refl _⟩, ⟨zb BK215.out⟩, ⟨zda_⟩⟩
       case round =>
        clear H'
        try clear c1
        try clear q1
        try clear p2
        try clear q2
        try clear hx2
        try clear c3
        try clear c3b0
        try clear c4
        try clear c4b0
        try clear c5
        try clear c5b0
        try clear c6
        try clear c6b0
        try clear c7
        try clear c7b0
        try clear c7b1
        try clear c10
        try clear q11
        try clear hcz9_0
        try clear hcz9_1
        try clear hfz9_0
        try clear hfz9_1
        try clear hx214_0
        try clear hx214_1
        try clear p2
        try clear p214
        try clear q11
        try clear q214
        obtain ⟨x19_2, rfl, HA, HK2, BK215, HB⟩ := hrel
        cases gk with
        | zero => exact absurd HA.out (by simp [spec_rtRouting.l1])
        | succ k2 =>
         have H := HA.out
         clear HA
         simp only [spec_rtRouting.l1] at H
         by_cases c12 : x19_2 < (y216.length : Int)
         ·rw [if_pos c12] at H
          have c12b0 : decide (x19_2 < (y216.length : Int)) = true := decide_eq_true c12
          clear c12
          by_cases c13 : 0 ≤ x10_1
          ·rw [if_pos c13] at H
           have c13b0 : decide (0 ≤ x10_1) = true := decide_eq_true c13
           clear c13
           by_cases c14 : x10_1 < (l1.length : Int)
           ·rw [if_pos c14] at H
            have c14b0 : decide (x10_1 < (l1.length : Int)) = true := decide_eq_true c14
            clear c14
            by_cases c15 : 0 ≤ x19_2
            ·rw [if_pos c15] at H
             have c15b0 : decide (0 ≤ x19_2) = true := decide_eq_true c15
             clear c15
             by_cases c16 : x19_2 < (l1.length : Int)
             ·rw [if_pos c16] at H
              have c16b0 : decide (x19_2 < (l1.length : Int)) = true := decide_eq_true c16
              clear c16
              by_cases c17 : (rd l1 x10_1) = (rd l1 x19_2)
              ·rw [if_pos c17] at H
               have c17b0 : ((rd l1 x10_1) == (rd l1 x19_2)) = true := beq_iff_eq.mpr c17
               have c17b1 : ((rd l1 x10_1) != (rd l1 x19_2)) = false := bne_eq_false_iff_eq.mpr c17
               clear c17
               by_cases c18 : x19_2 < (l0.length : Int)
               ·rw [if_pos c18] at H
                have c18b0 : decide (x19_2 < (l0.length : Int)) = true := decide_eq_true c18
                clear c18
                replace H := oB.mp H
                obtain ⟨t223, A190, H⟩ := H
                replace H : (if t223 = true then (some false) else (spec_rtRouting.l1 k2 l0 l1 x10_1 l0 (l0.length : Int) x10_1 (y216.length : Int) (wrap64 (x19_2 + 1)) ((rd_T32 l0 x10_1).f0) ((rd_T32 l0 x10_1).f1))) = some r := H
                have A19 := aM A190
                clear A190
                by_cases c20 : t223 = true
                ·subst c20
                 have H1 : (some false) = some r := by rw [if_pos rfl] at H; exact H
                 clear H
                 have H := H1
                 clear H1
                 obtain rfl := Option.some.inj H
                 try go_wp2
                 have n_ := z (blk_drew BK215.out) <| z1 (p1 HB.out)
                 clear BK215 HB
                 obtain ⟨BK215, HB⟩ := n_
                 have p220 : 0 ≤ (x10_1 : Int) := of_decide_eq_true zb_
                 have q220 : x10_1 < (l1.length : Int) := of_decide_eq_true zb_
                 obtain ⟨ad220, e220, hx220_0⟩ := Kd.at_int HR1.out x10_1 p220 q220
                 have hw220_0 := hx220_0
                 cases e220
                 (try (replace hx220_0 := (HB.out.cell (World.block_lt_of_cell? w _ hx220_0)).trans hx220_0))
                 replace p220 := eq_true p220
                 replace q220 := eq_true q220
                 have p221 : 0 ≤ (x19_2 : Int) := of_decide_eq_true zb_
                 have q221 : x19_2 < (l1.length : Int) := of_decide_eq_true zb_
                 obtain ⟨ad221, e221, hx221_0⟩ := Kd.at_int HR1.out x19_2 p221 q221
                 have hw221_0 := hx221_0
                 obtain rfl : ad220 = ad221 := (by injection e221)
                 (try (replace hx221_0 := (HB.out.cell (World.block_lt_of_cell? w _ hx221_0)).trans hx221_0))
                 replace p221 := eq_true p221
                 replace q221 := eq_true q221
                 have p222 : 0 ≤ (x19_2 : Int) := of_decide_eq_true zb_
                 have q222 : x19_2 < (l0.length : Int) := of_decide_eq_true zb_
                 obtain ⟨ad222, e222, hx222_0, hx222_1⟩ := at_T32 HR0.out x19_2 p222 q222
                 have hw222_1 := hx222_1
                 have hw222_0 := hx222_0
                 obtain rfl : ad214 = ad222 := (by injection e222)
                 (try (replace hx222_0 := (HB.out.cell (World.block_lt_of_cell? w _ hx222_0)).trans hx222_0))
                 (try (replace hx222_1 := (HB.out.cell (World.block_lt_of_cell? w _ hx222_1)).trans hx222_1))
                 replace p222 := eq_true p222
                 replace q222 := eq_true q222
                 refine start_ (n := 17) (S := fun w' => w'.cell? ⟨gb215, 0, none⟩ = some (.int .i64 ((rd_T32 l0 x10_1).f0)) ∧ w'.cell? ⟨gb215, 1, none⟩ = some (.int .i64 ((rd_T32 l0 x10_1).f1)) ∧ w'.cell? (ad220.add (x10_1).toNat) = some (.int .i64 (rd l1 x10_1)) ∧ w'.cell? (ad220.add (x19_2).toNat) = some (.int .i64 (rd l1 x19_2)) ∧ w'.cell? (ad214.add ((x19_2).toNat * 2)) = some (.int .i64 ((rd_T32 l0 x19_2).f0)) ∧ w'.cell? ⟨(ad214.add ((x19_2).toNat * 2)).block, (ad214.add ((x19_2).toNat * 2)).off + 1, none⟩ = some (.int .i64 ((rd_T32 l0 x19_2).f1))) (ds := []) #[fi,fi,fi,fi,fi,fi,fi,fi,fi,fi,fi,fi,fi,fi,fi,fi,fi] (by kernel_rfl) rfl rfl ⟨(blk_cell BK215.out 0).trans rfl, (blk_cell BK215.out 1).trans rfl, ((HB.out.cell (World.block_lt_of_cell? w _ hw220_0)).trans hw220_0), ((HB.out.cell (World.block_lt_of_cell? w _ hw221_0)).trans hw221_0), ((HB.out.cell (World.block_lt_of_cell? w _ hw222_0)).trans hw222_0), ((HB.out.cell (World.block_lt_of_cell? w _ hw222_1)).trans hw222_1)⟩ (fun hHeld => ?_); refine with_tabW spec_rtRouting.tab7 spec_rtRouting.bits7 (fun HT_ HW_ => ?_)
                 generalize wr.drew = w21 at BK215 HB hx220_0 hx221_0 hx222_0 hx222_1 hHeld ⊢
                 refine py_ 0 22 HT_.out ?_
                 refine py_ 1 23 HT_.out ?_
                 refine py_ 2 24 HT_.out ?_
                 refine py_ 4 26 HT_.out ?_
                 refine py_ 5 27 HT_.out ?_
                 refine py_ 6 28 HT_.out ?_
                 refine take_ (i := 3) (N := some 25) (v := ?_) (a' := ?_) #[ti,ti,ti,ti,ti,ti,ti,fi,fi,fi,fi,fi,fi,fi,fi,fi,fi] rfl rfl (take_ofW HT_.out HW_.out (by kernel_rfl)) (fun _ _ _ h => h) (Or.inl ⟨by rfl, ?_⟩) hHeld ?_ ?_
                 rotate_left
                 ·rintro w' ⟨s0, s1, s2, s3, s4, s5⟩
                  go_simp
                  with_reducible rfl
                 rotate_left
                 ·simp only [Act.put, sI, s0, sS, i64_w, i32_w]
                  rfl
                 refine take_ (i := 7) (N := some 29) (v := ?_) (a' := ?_) #[ti,ti,ti,ti,ti,ti,ti,ti,fi,fi,fi,fi,fi,fi,fi,fi,fi] rfl rfl (take_ofW HT_.out HW_.out (by kernel_rfl)) (fun _ _ _ h => h) (Or.inl ⟨by rfl, ?_⟩) hHeld ?_ ?_
                 rotate_left
                 ·rintro w' ⟨s0, s1, s2, s3, s4, s5⟩
                  go_simp
                  with_reducible rfl
                 rotate_left
                 ·simp only [Act.put, sI, s0, sS, i64_w, i32_w]
                  rfl
                 refine py_ 8 30 HT_.out ?_
                 refine py_ 9 31 HT_.out ?_
                 refine py_ 11 33 HT_.out ?_
                 refine py_ 12 34 HT_.out ?_
                 refine py_ 13 35 HT_.out ?_
                 refine take_ (i := 10) (N := some 32) (v := ?_) (a' := ?_) #[ti,ti,ti,ti,ti,ti,ti,ti,ti,ti,ti,ti,ti,ti,fi,fi,fi] rfl rfl (take_ofW HT_.out HW_.out (by kernel_rfl)) (fun _ _ _ h => h) (Or.inl ⟨by rfl, ?_⟩) hHeld ?_ ?_
                 rotate_left
                 ·rintro w' ⟨s0, s1, s2, s3, s4, s5⟩
                  go_simp
                  with_reducible rfl
                 rotate_left
                 ·simp only [Act.put, sI, s0, sS, i64_w, i32_w]
                  rfl
                 refine take_ (i := 14) (N := some 36) (v := ?_) (a' := ?_) #[ti,ti,ti,ti,ti,ti,ti,ti,ti,ti,ti,ti,ti,ti,ti,fi,fi] rfl rfl (take_ofW HT_.out HW_.out (by kernel_rfl)) (fun _ _ _ h => h) (Or.inl ⟨by rfl, ?_⟩) hHeld ?_ ?_
                 rotate_left
                 ·rintro w' ⟨s0, s1, s2, s3, s4, s5⟩
                  go_simp
                  with_reducible rfl
                 rotate_left
                 ·simp only [Act.put, sI, s0, sS, i64_w, i32_w]
                  rfl
                 refine one_ (i := 15) (N := some 37) #[ti,ti,ti,ti,ti,ti,ti,ti,ti,ti,ti,ti,ti,ti,ti,ti,fi] rfl rfl (one_of HT_.out (by kernel_rfl)) (by decide) (fun K hK => ?_)
                 refine goes_ Try.func114 (by kernel_rfl) rfl #[.agg #[.int .i64 ((rd_T32 l0 x10_1).f0), .int .i64 ((rd_T32 l0 x10_1).f1)], .agg #[.int .i64 ((rd_T32 l0 x19_2).f0), .int .i64 ((rd_T32 l0 x19_2).f1)]] (by rfl) rfl rfl zd_ ?_
                 with_reducible refine (spec_rtMeet.calls ((rd_T32 l0 x10_1).f0) ((rd_T32 l0 x10_1).f1) ((rd_T32 l0 x19_2).f0) ((rd_T32 l0 x19_2).f1) true _ A19.out).mono ?_
                 rintro e w22 ⟨rfl, hb⟩
                 refine ⟨_, rfl, ?_⟩
                 have n_ := z (blk_below (g := gb215) (o := .cells #[.int .i64 ((rd_T32 l0 x10_1).f0), .int .i64 ((rd_T32 l0 x10_1).f1)] 32 (0, 0)) (zb BK215.out) hb) <| z1 (below_step zda_ hb)
                 clear BK215 HB
                 obtain ⟨BK215, HB⟩ := n_
                 (try clear hb)
                 (try clear hb2)
                 (try clear hk)
                 (try clear hi)
                 refine hK.out _ _ ⟨(blk_cell BK215.out 0).trans rfl, (blk_cell BK215.out 1).trans rfl, ((HB.out.cell (World.block_lt_of_cell? w _ hw220_0)).trans hw220_0), ((HB.out.cell (World.block_lt_of_cell? w _ hw221_0)).trans hw221_0), ((HB.out.cell (World.block_lt_of_cell? w _ hw222_0)).trans hw222_0), ((HB.out.cell (World.block_lt_of_cell? w _ hw222_1)).trans hw222_1)⟩ (fun hHeld => ?_)
                 clear hK K
                 refine norm_ (a' := ?_) ?_ ?_
                 rotate_left
                 ·show Act.put _ (some 37) _ = _
                  simp only [Act.put, sI, s0, sS, i64_w, i32_w]
                  rfl
                 refine py_ 16 38 HT_.out ?_
                 refine done_ (done_of HT_.out (by kernel_rfl)) ?_
                 try go_wp2
                 go_ret
                 exact ⟨zg_, zda_⟩
                ·replace c20 := Bool.eq_false_iff.mpr c20
                 subst c20
                 have H1 : (spec_rtRouting.l1 k2 l0 l1 x10_1 l0 (l0.length : Int) x10_1 (y216.length : Int) (wrap64 (x19_2 + 1)) ((rd_T32 l0 x10_1).f0) ((rd_T32 l0 x10_1).f1)) = some r := by rw [if_neg (show ¬ (false = true) by decide)] at H; exact H
                 clear H
                 have H := H1
                 clear H1
                 have H' := aM H
                 clear H
                 try go_wp2
                 have n_ := z (blk_drew BK215.out) <| z1 (p1 HB.out)
                 clear BK215 HB
                 obtain ⟨BK215, HB⟩ := n_
                 have p220 : 0 ≤ (x10_1 : Int) := of_decide_eq_true zb_
                 have q220 : x10_1 < (l1.length : Int) := of_decide_eq_true zb_
                 obtain ⟨ad220, e220, hx220_0⟩ := Kd.at_int HR1.out x10_1 p220 q220
                 have hw220_0 := hx220_0
                 cases e220
                 (try (replace hx220_0 := (HB.out.cell (World.block_lt_of_cell? w _ hx220_0)).trans hx220_0))
                 replace p220 := eq_true p220
                 replace q220 := eq_true q220
                 have p221 : 0 ≤ (x19_2 : Int) := of_decide_eq_true zb_
                 have q221 : x19_2 < (l1.length : Int) := of_decide_eq_true zb_
                 obtain ⟨ad221, e221, hx221_0⟩ := Kd.at_int HR1.out x19_2 p221 q221
                 have hw221_0 := hx221_0
                 obtain rfl : ad220 = ad221 := (by injection e221)
                 (try (replace hx221_0 := (HB.out.cell (World.block_lt_of_cell? w _ hx221_0)).trans hx221_0))
                 replace p221 := eq_true p221
                 replace q221 := eq_true q221
                 have p222 : 0 ≤ (x19_2 : Int) := of_decide_eq_true zb_
                 have q222 : x19_2 < (l0.length : Int) := of_decide_eq_true zb_
                 obtain ⟨ad222, e222, hx222_0, hx222_1⟩ := at_T32 HR0.out x19_2 p222 q222
                 have hw222_1 := hx222_1
                 have hw222_0 := hx222_0
                 obtain rfl : ad214 = ad222 := (by injection e222)
                 (try (replace hx222_0 := (HB.out.cell (World.block_lt_of_cell? w _ hx222_0)).trans hx222_0))
                 (try (replace hx222_1 := (HB.out.cell (World.block_lt_of_cell? w _ hx222_1)).trans hx222_1))
                 replace p222 := eq_true p222
                 replace q222 := eq_true q222
                 refine start_ (n := 17) (S := fun w' => w'.cell? ⟨gb215, 0, none⟩ = some (.int .i64 ((rd_T32 l0 x10_1).f0)) ∧ w'.cell? ⟨gb215, 1, none⟩ = some (.int .i64 ((rd_T32 l0 x10_1).f1)) ∧ w'.cell? (ad220.add (x10_1).toNat) = some (.int .i64 (rd l1 x10_1)) ∧ w'.cell? (ad220.add (x19_2).toNat) = some (.int .i64 (rd l1 x19_2)) ∧ w'.cell? (ad214.add ((x19_2).toNat * 2)) = some (.int .i64 ((rd_T32 l0 x19_2).f0)) ∧ w'.cell? ⟨(ad214.add ((x19_2).toNat * 2)).block, (ad214.add ((x19_2).toNat * 2)).off + 1, none⟩ = some (.int .i64 ((rd_T32 l0 x19_2).f1))) (ds := []) #[fi,fi,fi,fi,fi,fi,fi,fi,fi,fi,fi,fi,fi,fi,fi,fi,fi] (by kernel_rfl) rfl rfl ⟨(blk_cell BK215.out 0).trans rfl, (blk_cell BK215.out 1).trans rfl, ((HB.out.cell (World.block_lt_of_cell? w _ hw220_0)).trans hw220_0), ((HB.out.cell (World.block_lt_of_cell? w _ hw221_0)).trans hw221_0), ((HB.out.cell (World.block_lt_of_cell? w _ hw222_0)).trans hw222_0), ((HB.out.cell (World.block_lt_of_cell? w _ hw222_1)).trans hw222_1)⟩ (fun hHeld => ?_); refine with_tabW spec_rtRouting.tab7 spec_rtRouting.bits7 (fun HT_ HW_ => ?_)
                 generalize wr.drew = w23 at BK215 HB hx220_0 hx221_0 hx222_0 hx222_1 hHeld ⊢
                 refine py_ 0 22 HT_.out ?_
                 refine py_ 1 23 HT_.out ?_
                 refine py_ 2 24 HT_.out ?_
                 refine py_ 4 26 HT_.out ?_
                 refine py_ 5 27 HT_.out ?_
                 refine py_ 6 28 HT_.out ?_
                 refine take_ (i := 3) (N := some 25) (v := ?_) (a' := ?_) #[ti,ti,ti,ti,ti,ti,ti,fi,fi,fi,fi,fi,fi,fi,fi,fi,fi] rfl rfl (take_ofW HT_.out HW_.out (by kernel_rfl)) (fun _ _ _ h => h) (Or.inl ⟨by rfl, ?_⟩) hHeld ?_ ?_
                 rotate_left
                 ·rintro w' ⟨s0, s1, s2, s3, s4, s5⟩
                  go_simp
                  with_reducible rfl
                 rotate_left
                 ·simp only [Act.put, sI, s0, sS, i64_w, i32_w]
                  rfl
                 refine take_ (i := 7) (N := some 29) (v := ?_) (a' := ?_) #[ti,ti,ti,ti,ti,ti,ti,ti,fi,fi,fi,fi,fi,fi,fi,fi,fi] rfl rfl (take_ofW HT_.out HW_.out (by kernel_rfl)) (fun _ _ _ h => h) (Or.inl ⟨by rfl, ?_⟩) hHeld ?_ ?_
                 rotate_left
                 ·rintro w' ⟨s0, s1, s2, s3, s4, s5⟩
                  go_simp
                  with_reducible rfl
                 rotate_left
                 ·simp only [Act.put, sI, s0, sS, i64_w, i32_w]
                  rfl
                 refine py_ 8 30 HT_.out ?_
                 refine py_ 9 31 HT_.out ?_
                 refine py_ 11 33 HT_.out ?_
                 refine py_ 12 34 HT_.out ?_
                 refine py_ 13 35 HT_.out ?_
                 refine take_ (i := 10) (N := some 32) (v := ?_) (a' := ?_) #[ti,ti,ti,ti,ti,ti,ti,ti,ti,ti,ti,ti,ti,ti,fi,fi,fi] rfl rfl (take_ofW HT_.out HW_.out (by kernel_rfl)) (fun _ _ _ h => h) (Or.inl ⟨by rfl, ?_⟩) hHeld ?_ ?_
                 rotate_left
                 ·rintro w' ⟨s0, s1, s2, s3, s4, s5⟩
                  go_simp
                  with_reducible rfl
                 rotate_left
                 ·simp only [Act.put, sI, s0, sS, i64_w, i32_w]
                  rfl
                 refine take_ (i := 14) (N := some 36) (v := ?_) (a' := ?_) #[ti,ti,ti,ti,ti,ti,ti,ti,ti,ti,ti,ti,ti,ti,ti,fi,fi] rfl rfl (take_ofW HT_.out HW_.out (by kernel_rfl)) (fun _ _ _ h => h) (Or.inl ⟨by rfl, ?_⟩) hHeld ?_ ?_
                 rotate_left
                 ·rintro w' ⟨s0, s1, s2, s3, s4, s5⟩
                  go_simp
                  with_reducible rfl
                 rotate_left
                 ·simp only [Act.put, sI, s0, sS, i64_w, i32_w]
                  rfl
                 refine one_ (i := 15) (N := some 37) #[ti,ti,ti,ti,ti,ti,ti,ti,ti,ti,ti,ti,ti,ti,ti,ti,fi] rfl rfl (one_of HT_.out (by kernel_rfl)) (by decide) (fun K hK => ?_)
                 refine goes_ Try.func114 (by kernel_rfl) rfl #[.agg #[.int .i64 ((rd_T32 l0 x10_1).f0), .int .i64 ((rd_T32 l0 x10_1).f1)], .agg #[.int .i64 ((rd_T32 l0 x19_2).f0), .int .i64 ((rd_T32 l0 x19_2).f1)]] (by rfl) rfl rfl zd_ ?_
                 with_reducible refine (spec_rtMeet.calls ((rd_T32 l0 x10_1).f0) ((rd_T32 l0 x10_1).f1) ((rd_T32 l0 x19_2).f0) ((rd_T32 l0 x19_2).f1) false _ A19.out).mono ?_
                 rintro e w24 ⟨rfl, hb⟩
                 refine ⟨_, rfl, ?_⟩
                 have n_ := z (blk_below (g := gb215) (o := .cells #[.int .i64 ((rd_T32 l0 x10_1).f0), .int .i64 ((rd_T32 l0 x10_1).f1)] 32 (0, 0)) (zb BK215.out) hb) <| z1 (below_step zda_ hb)
                 clear BK215 HB
                 obtain ⟨BK215, HB⟩ := n_
                 (try clear hb)
                 (try clear hb2)
                 (try clear hk)
                 (try clear hi)
                 refine hK.out _ _ ⟨(blk_cell BK215.out 0).trans rfl, (blk_cell BK215.out 1).trans rfl, ((HB.out.cell (World.block_lt_of_cell? w _ hw220_0)).trans hw220_0), ((HB.out.cell (World.block_lt_of_cell? w _ hw221_0)).trans hw221_0), ((HB.out.cell (World.block_lt_of_cell? w _ hw222_0)).trans hw222_0), ((HB.out.cell (World.block_lt_of_cell? w _ hw222_1)).trans hw222_1)⟩ (fun hHeld => ?_)
                 clear hK K
                 refine norm_ (a' := ?_) ?_ ?_
                 rotate_left
                 ·show Act.put _ (some 37) _ = _
                  simp only [Act.put, sI, s0, sS, i64_w, i32_w]
                  rfl
                 refine py_ 16 38 HT_.out ?_
                 refine done_ (done_of HT_.out (by kernel_rfl)) ?_
                 try go_wp2
                 go_roundg k2
                 case measure => have := HK1.out; have := HK2.out; omega
                 case rel => exact ⟨(wrap64 (x19_2 + 1)), zc_, H', ⟨zbi_⟩, ⟨zb BK215.out⟩, ⟨zda_⟩⟩
               ·rw [if_neg c18] at H
                exact absurd H (by simp)
              ·rw [if_neg c17] at H
               have c17b0 : ((rd l1 x10_1) == (rd l1 x19_2)) = false := beq_eq_false_iff_ne.mpr c17
               have c17b1 : ((rd l1 x10_1) != (rd l1 x19_2)) = true := bne_iff_ne.mpr c17
               have H' := aM H
               clear H
               try go_wp2
               have n_ := z (blk_drew BK215.out) <| z1 (p1 HB.out)
               clear BK215 HB
               obtain ⟨BK215, HB⟩ := n_
               have p220 : 0 ≤ (x10_1 : Int) := of_decide_eq_true zb_
               have q220 : x10_1 < (l1.length : Int) := of_decide_eq_true zb_
               obtain ⟨ad220, e220, hx220_0⟩ := Kd.at_int HR1.out x10_1 p220 q220
               have hw220_0 := hx220_0
               cases e220
               (try (replace hx220_0 := (HB.out.cell (World.block_lt_of_cell? w _ hx220_0)).trans hx220_0))
               replace p220 := eq_true p220
               replace q220 := eq_true q220
               have p221 : 0 ≤ (x19_2 : Int) := of_decide_eq_true zb_
               have q221 : x19_2 < (l1.length : Int) := of_decide_eq_true zb_
               obtain ⟨ad221, e221, hx221_0⟩ := Kd.at_int HR1.out x19_2 p221 q221
               have hw221_0 := hx221_0
               obtain rfl : ad220 = ad221 := (by injection e221)
               (try (replace hx221_0 := (HB.out.cell (World.block_lt_of_cell? w _ hx221_0)).trans hx221_0))
               replace p221 := eq_true p221
               replace q221 := eq_true q221
               refine start_ (n := 17) (S := fun w' => w'.cell? (ad220.add (x10_1).toNat) = some (.int .i64 (rd l1 x10_1)) ∧ w'.cell? (ad220.add (x19_2).toNat) = some (.int .i64 (rd l1 x19_2))) (ds := []) #[fi,fi,fi,fi,fi,fi,fi,fi,fi,fi,fi,fi,fi,fi,fi,fi,fi] (by kernel_rfl) rfl rfl ⟨((HB.out.cell (World.block_lt_of_cell? w _ hw220_0)).trans hw220_0), ((HB.out.cell (World.block_lt_of_cell? w _ hw221_0)).trans hw221_0)⟩ (fun hHeld => ?_); refine with_tabW spec_rtRouting.tab7 spec_rtRouting.bits7 (fun HT_ HW_ => ?_)
               generalize wr.drew = w25 at BK215 HB hx220_0 hx221_0 hHeld ⊢
               refine py_ 0 22 HT_.out ?_
               refine py_ 1 23 HT_.out ?_
               refine py_ 2 24 HT_.out ?_
               refine py_ 4 26 HT_.out ?_
               refine py_ 5 27 HT_.out ?_
               refine py_ 6 28 HT_.out ?_
               refine take_ (i := 3) (N := some 25) (v := ?_) (a' := ?_) #[ti,ti,ti,ti,ti,ti,ti,fi,fi,fi,fi,fi,fi,fi,fi,fi,fi] rfl rfl (take_ofW HT_.out HW_.out (by kernel_rfl)) (fun _ _ _ h => h) (Or.inl ⟨by rfl, ?_⟩) hHeld ?_ ?_
               rotate_left
               ·rintro w' ⟨s0, s1⟩
                go_simp
                with_reducible rfl
               rotate_left
               ·simp only [Act.put, sI, s0, sS, i64_w, i32_w]
                rfl
               refine take_ (i := 7) (N := some 29) (v := ?_) (a' := ?_) #[ti,ti,ti,ti,ti,ti,ti,ti,fi,fi,fi,fi,fi,fi,fi,fi,fi] rfl rfl (take_ofW HT_.out HW_.out (by kernel_rfl)) (fun _ _ _ h => h) (Or.inl ⟨by rfl, ?_⟩) hHeld ?_ ?_
               rotate_left
               ·rintro w' ⟨s0, s1⟩
                go_simp
                with_reducible rfl
               rotate_left
               ·simp only [Act.put, sI, s0, sS, i64_w, i32_w]
                rfl
               refine py_ 8 30 HT_.out ?_
               refine py_ 9 31 HT_.out ?_
               refine pure_ (i := 10) (N := some 32) (v := undef) (a' := ?_) #[ti,ti,ti,ti,ti,ti,ti,ti,ti,ti,ti,fi,fi,fi,fi,fi,fi] rfl rfl (any_of HT_.out (by kernel_rfl)) (fun _ _ _ h => h) (Or.inr ⟨by rfl, rfl⟩) ?_ ?_
               rotate_left
               ·simp only [Act.put, sI, s0, sS, i64_w, i32_w]
                rfl
               refine pure_ (i := 11) (N := some 33) (v := undef) (a' := ?_) #[ti,ti,ti,ti,ti,ti,ti,ti,ti,ti,ti,ti,fi,fi,fi,fi,fi] rfl rfl (any_of HT_.out (by kernel_rfl)) (fun _ _ _ h => h) (Or.inr ⟨by rfl, rfl⟩) ?_ ?_
               rotate_left
               ·simp only [Act.put, sI, s0, sS, i64_w, i32_w]
                rfl
               refine pure_ (i := 12) (N := some 34) (v := undef) (a' := ?_) #[ti,ti,ti,ti,ti,ti,ti,ti,ti,ti,ti,ti,ti,fi,fi,fi,fi] rfl rfl (any_of HT_.out (by kernel_rfl)) (fun _ _ _ h => h) (Or.inr ⟨by rfl, rfl⟩) ?_ ?_
               rotate_left
               ·simp only [Act.put, sI, s0, sS, i64_w, i32_w]
                rfl
               refine pure_ (i := 13) (N := some 35) (v := undef) (a' := ?_) #[ti,ti,ti,ti,ti,ti,ti,ti,ti,ti,ti,ti,ti,ti,fi,fi,fi] rfl rfl (any_of HT_.out (by kernel_rfl)) (fun _ _ _ h => h) (Or.inr ⟨by rfl, rfl⟩) ?_ ?_
               rotate_left
               ·simp only [Act.put, sI, s0, sS, i64_w, i32_w]
                rfl
               refine pure_ (i := 14) (N := some 36) (v := undef) (a' := ?_) #[ti,ti,ti,ti,ti,ti,ti,ti,ti,ti,ti,ti,ti,ti,ti,fi,fi] rfl rfl (any_of HT_.out (by kernel_rfl)) (fun _ _ _ h => h) (Or.inr ⟨by rfl, rfl⟩) ?_ ?_
               rotate_left
               ·simp only [Act.put, sI, s0, sS, i64_w, i32_w]
                rfl
               refine pure_ (i := 15) (N := some 37) (v := undef) (a' := ?_) #[ti,ti,ti,ti,ti,ti,ti,ti,ti,ti,ti,ti,ti,ti,ti,ti,fi] rfl rfl (any_of HT_.out (by kernel_rfl)) (fun _ _ _ h => h) (Or.inr ⟨by rfl, rfl⟩) ?_ ?_
               rotate_left
               ·simp only [Act.put, sI, s0, sS, i64_w, i32_w]
                rfl
               refine py_ 16 38 HT_.out ?_
               refine done_ (done_of HT_.out (by kernel_rfl)) ?_
               try go_wp2
               go_roundg k2
               case measure => have := HK1.out; have := HK2.out; omega
               case rel => exact ⟨(wrap64 (x19_2 + 1)), zc_, H', ⟨zbi_⟩, ⟨zb BK215.out⟩, ⟨zda_⟩⟩
             ·rw [if_neg c16] at H
              exact absurd H (by simp)
            ·rw [if_neg c15] at H
             exact absurd H (by simp)
           ·rw [if_neg c14] at H
            exact absurd H (by simp)
          ·rw [if_neg c13] at H
           exact absurd H (by simp)
         ·rw [if_neg c12] at H
          have c12b0 : decide (x19_2 < (y216.length : Int)) = false := decide_eq_false c12
          clear c12
          have H' := aM H
          clear H
          go_wp2
          go_roundg k2
          case measure => have := HK1.out; have := HK2.out; omega
          case rel => exact ⟨(wrap64 (x10_1 + 1)), zc_, H', ⟨zbi_⟩, ⟨zda_⟩⟩
      ·rw [if_neg c7] at H
       exact absurd H (by simp)
     ·rw [if_neg c5] at H
      exact absurd H (by simp)
    ·rw [if_neg c4] at H
     exact absurd H (by simp)
   ·rw [if_neg c3] at H
    have c3b0 : decide (x10_1 < (l0.length : Int)) = false := decide_eq_false c3
    clear c3
    obtain rfl := Option.some.inj H
    go_wp2
    go_ret
    exact ⟨zg_, za_⟩
def spec_IsRouting.f (k : Nat) (l0 : List (S32)) (l1 : List Int) : Option (Bool × Bool) := (spec_rtAsked.f k l0 l1).bind fun t224 => (if t224 = true then ((spec_rtRouting.f k l0 l1).bind fun t225 => (some (t225, true))) else (some (false, false)))
theorem spec_IsRouting.calls (k : Nat) (A0 : Option Addr) (c0 : Nat) (l0 : List (S32)) (A1 : Option Addr) (c1 : Nat) (l1 : List Int) (r1 : Bool) (r2 : Bool) (w : World) (hr0 : Kd.C k32 w A0 l0.length l0) (hc0 : l0.length ≤ c0) (hr1 : Kd.C (Kd.int .i64) w A1 l1.length l1) (hc1 : l1.length ≤ c1) (h : spec_IsRouting.f k l0 l1 = some (r1, r2)) :
  Calls Try.prog 11 #[.slice A0 l0.length c0, .slice A1 l1.length c1] w fun e w' => e = .returned (.tuple #[.bool r1, .bool r2]) ∧ Below w.heap.size w w' := by
 have HR0 := aM hr0
 have HC0 := aM hc0
 clear hr0 hc0
 have HR1 := aM hr1
 have HC1 := aM hc1
 clear hr1 hc1
 have HB := aM (Below.refl w.heap.size w)
 have H : ((spec_rtAsked.f k l0 l1).bind fun t224 => (if t224 = true then ((spec_rtRouting.f k l0 l1).bind fun t225 => (some (t225, true))) else (some (false, false)))) = some (r1, r2) := h
 clear h
 replace H := oB.mp H
 obtain ⟨t224, A30, H⟩ := H
 replace H : (if t224 = true then ((spec_rtRouting.f k l0 l1).bind fun t225 => (some (t225, true))) else (some (false, false))) = some (r1, r2) := H
 have A3 := aM A30
 clear A30
 by_cases c4 : t224 = true
 ·subst c4
  have H1 : ((spec_rtRouting.f k l0 l1).bind fun t225 => (some (t225, true))) = some (r1, r2) := by rw [if_pos rfl] at H; exact H
  clear H
  have H := H1
  clear H1
  replace H := oB.mp H
  obtain ⟨t225, A50, H⟩ := H
  replace H : (some (t225, true)) = some (r1, r2) := H
  have A5 := aM A50
  clear A50
  simp only [Option.some.injEq, Prod.mk.injEq] at H
  obtain ⟨rfl, rfl⟩ := H
  go_enter Try.func11, Try.ntmps11
  go_wp2_with (first | ((with_reducible refine gate_callee (f := 103) rfl ?_); refine goesL_ (some 8) rfl rfl Try.func103 (by kernel_rfl) rfl #[.slice A0 l0.length c0, .slice A1 l1.length c1] rfl zd_ ?_; (with_reducible refine (spec_rtAsked.calls k _ _ l0 _ _ l1 true _ ?side1 ?side2 ?side3 ?side4 A3.out).mono ?_); (case side1 => exact zbh_); (case side2 => exact HC0.out); (case side3 => repeat (first | exact HR1.out | (with_reducible refine cA ?_ _) | (with_reducible refine cN ?_ _) | (with_reducible refine cD ?_))); (case side4 => exact HC1.out); rintro e w6 ⟨rfl, hb⟩; refine ⟨_, rfl, ?_⟩; have n0_ := aM (below_step za_ hb); clear HB; have HB := n0_; clear n0_; (try clear hb)) | ((with_reducible refine gate_callee (f := 104) rfl ?_); refine goesL_ (some 12) rfl rfl Try.func104 (by kernel_rfl) rfl #[.slice A0 l0.length c0, .slice A1 l1.length c1] rfl zd_ ?_; (with_reducible refine (spec_rtRouting.calls k _ _ l0 _ _ l1 t225 _ ?side1 ?side2 ?side3 ?side4 A5.out).mono ?_); (case side1 => exact zbe_); (case side2 => exact HC0.out); (case side3 => exact zbb_); (case side4 => exact HC1.out); rintro e w7 ⟨rfl, hb⟩; refine ⟨_, rfl, ?_⟩; have n0_ := aM (below_step za_ hb); clear HB; have HB := n0_; clear n0_; (try clear hb)))
  go_ret2
  exact ⟨zg_, za_⟩
 ·replace c4 := Bool.eq_false_iff.mpr c4
  subst c4
  have H1 : (some (false, false)) = some (r1, r2) := by rw [if_neg (show ¬ (false = true) by decide)] at H; exact H
  clear H
  have H := H1
  clear H1
  simp only [Option.some.injEq, Prod.mk.injEq] at H
  obtain ⟨rfl, rfl⟩ := H
  go_enter Try.func11, Try.ntmps11
  go_wp2_with (first | ((with_reducible refine gate_callee (f := 103) rfl ?_); refine goesL_ (some 8) rfl rfl Try.func103 (by kernel_rfl) rfl #[.slice A0 l0.length c0, .slice A1 l1.length c1] rfl zd_ ?_; (with_reducible refine (spec_rtAsked.calls k _ _ l0 _ _ l1 false _ ?side1 ?side2 ?side3 ?side4 A3.out).mono ?_); (case side1 => exact zbh_); (case side2 => exact HC0.out); (case side3 => repeat (first | exact HR1.out | (with_reducible refine cA ?_ _) | (with_reducible refine cN ?_ _) | (with_reducible refine cD ?_))); (case side4 => exact HC1.out); rintro e w8 ⟨rfl, hb⟩; refine ⟨_, rfl, ?_⟩; have n0_ := aM (below_step za_ hb); clear HB; have HB := n0_; clear n0_; (try clear hb)))
  go_ret2
  exact ⟨zg_, za_⟩
end Go.Proofs.Ytbkighlfgaifeaa.QFnTracks
