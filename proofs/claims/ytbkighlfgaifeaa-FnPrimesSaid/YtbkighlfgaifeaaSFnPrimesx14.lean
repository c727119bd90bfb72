/- Functions of the law FnPrimes, each as a Lean function, and the proofs that the Go code comes to their answers. Made by wip/gen/slim.py. Conditions: those of each theorem. -/
import Derived.Test.YtbkighlfgaifeaaSFnPrimesx0
import Derived.Test.YtbkighlfgaifeaaSFnPrimesx1
import Derived.Test.YtbkighlfgaifeaaSFnPrimesx6
namespace Go.Proofs.Ytbkighlfgaifeaa.QFnPrimes
open Go.RowKit Go.Proofs.YtbkighlfgaifeaaW.PrintWords Go.Proofs.YtbkighlfgaifeaaW.PrintLast Go.Proofs.YtbkighlfgaifeaaW.PrintMore
open Go.Proofs.YtbkighlfgaifeaaW.PrintWords renaming pw_below_drewN → pN, below_drew1 → p1, below_alloc → pA
open Go.Proofs.YtbkighlfgaifeaaW.PrintWords.Kd renaming R_alloc → kA, R_drewN → kN, R_drew → kD, Q_alloc → qA, Q_drewN → qN, Q_drew → qD, C_alloc → cA, C_drewN → cN, C_drew → cD
open Go.Proofs.YtbkighlfgaifeaaW.PrintWords.Aside0 renaming mk → aM
open List renaming setIfInBounds_toArray → sI, set_cons_zero → s0, set_cons_succ → sS, map_toArray → mT, length_take → lT, length_drop → lD, map_cons → mC, map_nil → mN
open Option renaming bind_eq_some_iff → oB, bind_some → oS
attribute [local go_sem] max2_int min2_int max_two min_two max_three min_three max_four min_four
set_option maxHeartbeats 8000000
set_option maxRecDepth 100000
set_option linter.unusedVariables false
set_option linter.unusedSimpArgs false
attribute [local go_sem high] eqA72
def impl_ReadTerm.l0 : Nat → ByteArray → Int → Int → Int → Option (Int × Int × Bool)
 | 0, _, _, _, _ => none
 | k + 1, x0, x5, x464000, x464001 => if x5 < (x0.size : Int) then (if 0 ≤ x5 then (if (bt x0 x5) = 49 then (impl_ReadTerm.l0 k x0 (wrap64 (x5 + 1)) (Go.bits .or .i64 x464000 (shl .i64 1 x5)) (Go.bits .or .i64 x464001 (shl .i64 1 x5))) else (if (bt x0 x5) = 48 then (impl_ReadTerm.l0 k x0 (wrap64 (x5 + 1)) (Go.bits .or .i64 x464000 (shl .i64 1 x5)) x464001) else (if (bt x0 x5) = 45 then (impl_ReadTerm.l0 k x0 (wrap64 (x5 + 1)) x464000 x464001) else (some (0, 0, false))))) else (none)) else (some (x464000, x464001, true))
def impl_ReadTerm.f (k : Nat) (a0 : ByteArray) : Option (Int × Int × Bool) := if (a0.size : Int) > 4 then (some (0, 0, false)) else (impl_ReadTerm.l0 k a0 0 0 0)
theorem impl_ReadTerm.calls (k : Nat) (a0 : ByteArray) (r1 : Int) (r2 : Int) (r3 : Bool) (w : World) (h : impl_ReadTerm.f k a0 = some (r1, r2, r3)) :
  Calls Try.prog 57 #[.string a0] w fun e w' => e = .returned (.tuple #[.agg #[.int .i64 r1, .int .i64 r2], .bool r3]) ∧ Below w.heap.size w w' := by
 have hu72 := Try.underlying72
 have HB := aM (Below.refl w.heap.size w)
 have H : (if (a0.size : Int) > 4 then (some (0, 0, false)) else (impl_ReadTerm.l0 k a0 0 0 0)) = some (r1, r2, r3) := h
 clear h
 by_cases c2 : (a0.size : Int) > 4
 ·rw [if_pos c2] at H
  have c2b0 : decide (4 < (a0.size : Int)) = true := decide_eq_true c2; have c2b1 : decide (4 < a0.size) = true := decide_eq_true (by omega); clear c2
  simp only [Option.some.injEq, Prod.mk.injEq] at H
  obtain ⟨rfl, rfl, rfl⟩ := H
  go_enter Try.func57, Try.ntmps57
  go_wp2_with (first | ((with_reducible refine gate_dst (N := 2) rfl ?_); refine box_event ?hg (N := 2) ?hd (cs := #[.int .i64 0, .int .i64 0]) (t := 72) ?hr ?_; (case hd => rfl); (case hg => rfl); (case hr => exact zc_); intro gb462 hg w3 hbox hb; have n_ := z (below_step za_ hb) <| z (hbox) <| z ((by rw [hg]; exact (below_size za_) : w.heap.size ≤ gb462)) <| z1 ((by rw [hg]; exact (below_size za_) : w.heap.size ≤ gb462)); clear HB; obtain ⟨HB, BK462, GW462, GE462⟩ := n_; clear hb hbox hg; have hcz4_0 : w3.cell? ⟨gb462, 0, none⟩ = some (.int .i64 0) := (blk_cell BK462.out 0).trans rfl; have hcz4_1 : w3.cell? ⟨gb462, 1, none⟩ = some (.int .i64 0) := (blk_cell BK462.out 1).trans rfl; have hfz4_0 := blk_frozen BK462.out 0; have hfz4_1 := blk_frozen BK462.out 1))
  refine bodyPost_ret (results_ct rfl _ _ gb462 72 #[.int .i64 0, .int .i64 0] (0, 0) _ rfl (by refine zb ?_; refine blk_put (cs := #[.int .i64 0, .int .i64 0]) ?_ 1 _ rfl; refine zb ?_; refine blk_put (cs := #[.int .i64 0, .int .i64 0]) ?_ 0 _ rfl; refine zb ?_; exact BK462.out) Try.underlying72 rfl (by kernel_rfl)) rfl ?_
  exact ⟨zi_, zje_⟩
 ·rw [if_neg c2] at H
  have c2b0 : decide (4 < (a0.size : Int)) = false := decide_eq_false c2; have c2b1 : decide (4 < a0.size) = false := decide_eq_false (by omega); clear c2; have H' := aM H; clear H
  go_enter Try.func57, Try.ntmps57
  go_wp2_with (first | ((with_reducible refine gate_dst (N := 2) rfl ?_); refine box_event ?hg (N := 2) ?hd (cs := #[.int .i64 0, .int .i64 0]) (t := 72) ?hr ?_; (case hd => rfl); (case hg => rfl); (case hr => exact zc_); intro gb462 hg w5 hbox hb; have n_ := z (below_step za_ hb) <| z (hbox) <| z ((by rw [hg]; exact (below_size za_) : w.heap.size ≤ gb462)) <| z1 ((by rw [hg]; exact (below_size za_) : w.heap.size ≤ gb462)); clear HB; obtain ⟨HB, BK462, GW462, GE462⟩ := n_; clear hb hbox hg) | ((with_reducible refine gate_dst (N := 4) rfl ?_); refine box_event ?hg (N := 4) ?hd (cs := #[.int .i64 0, .int .i64 0]) (t := 72) ?hr ?_; (case hd => rfl); (case hg => rfl); (case hr => exact zc_); intro gb463 hg w6 hbox hb; have n_ := z (blk_below (g := gb462) (o := .cells #[.int .i64 0, .int .i64 0] 72 (0, 0)) (zb BK462.out) hb) <| z (below_step zje_ hb) <| z (hbox) <| z ((by rw [hg]; exact (below_size zje_) : w.heap.size ≤ gb463)) <| z ((by rw [hg]; exact (below_size zje_) : w.heap.size ≤ gb463)) <| z ((by rw [hg]; exact Nat.ne_of_lt (blk_lt (g := gb462) (o := .cells #[.int .i64 0, .int .i64 0] 72 (0, 0)) (zb BK462.out)) : gb462 ≠ gb463)) <| z1 ((by rw [hg]; exact Nat.ne_of_gt (blk_lt (g := gb462) (o := .cells #[.int .i64 0, .int .i64 0] 72 (0, 0)) (zb BK462.out)) : gb463 ≠ gb462)); clear BK462 HB; obtain ⟨BK462, HB, BK463, GW463, GE463, NB462_463, NB463_462⟩ := n_; clear hb hbox hg; have hnb7 := NB463_462.out; have hnc7 := NB462_463.out; have hcz8_0 : w6.cell? ⟨gb463, 0, none⟩ = some (.int .i64 0) := (blk_cell BK463.out 0).trans rfl; have hcz8_1 : w6.cell? ⟨gb463, 1, none⟩ = some (.int .i64 0) := (blk_cell BK463.out 1).trans rfl; have hfz8_0 := blk_frozen BK463.out 0; have hfz8_1 := blk_frozen BK463.out 1))
  go_loopg [5] k (fun kq v5 w' => ∃ (x5_1 : Int) (x463000_1 : Int) (x463001_1 : Int) (x464000_1 : Int) (x464001_1 : Int), v5 = .int .i64 x5_1 ∧ Aside0 (impl_ReadTerm.l0 kq a0 x5_1 x464000_1 x464001_1 = some (r1, r2, r3)) ∧ Aside0 (kq ≤ k) ∧ Aside0 (w'.heap[gb462]? = some (.cells #[.int .i64 x463000_1, .int .i64 x463001_1] 72 (0, 0))) ∧ Aside0 (w'.heap[gb463]? = some (.cells #[.int .i64 x464000_1, .int .i64 x464001_1] 72 (0, 0))) ∧ Aside0 (Below w.heap.size w w'))
  case atStart => exact ⟨(0), (0), (0), (0), (0), zd_, H', ⟨Nat.le_refl _⟩, ⟨by refine zb ?_; refine blk_far ?_ NB462_463.out _; refine zb ?_; refine blk_far ?_ NB462_463.out _; refine zb ?_; exact BK462.out⟩, ⟨by refine zb ?_; refine blk_put (cs := #[.int .i64 0, .int .i64 0]) ?_ 1 _ rfl; refine zb ?_; refine blk_put (cs := #[.int .i64 0, .int .i64 0]) ?_ 0 _ rfl; refine zb ?_; exact BK463.out⟩, ⟨zfc_⟩⟩
  case round =>
   clear H'; (try clear c2); (try clear c2b0); (try clear c2b1); (try clear p2); (try clear c5); (try clear c7); (try clear hcz4_0); (try clear hcz4_1); (try clear hcz8_0); (try clear hcz8_1); (try clear hfz4_0); (try clear hfz4_1); (try clear hfz8_0); (try clear hfz8_1); obtain ⟨x5_1, x463000_1, x463001_1, x464000_1, x464001_1, rfl, HA, HK1, BK462, BK463, HB⟩ := hrel
   cases gk with
   | zero => exact absurd HA.out (by simp [impl_ReadTerm.l0])
   | succ k1 =>
    have H := HA.out; clear HA
    simp only [impl_ReadTerm.l0] at H
    by_cases c9 : x5_1 < (a0.size : Int)
    ·rw [if_pos c9] at H
     have c9b0 : decide (x5_1 < (a0.size : Int)) = true := decide_eq_true c9; clear c9
     by_cases c10 : 0 ≤ x5_1
     ·rw [if_pos c10] at H
      have c10b0 : decide (0 ≤ x5_1) = true := decide_eq_true c10; clear c10
      by_cases c12 : (bt a0 x5_1) = 49
      ·rw [if_pos c12] at H
       have c12b0 : ((bt a0 x5_1) == 49) = true := beq_iff_eq.mpr c12; have c12b1 : ((bt a0 x5_1) != 49) = false := bne_eq_false_iff_eq.mpr c12; clear c12; have c13b0 := eq_true (of_decide_eq_true zb_ : 0 ≤ x5_1); obtain ⟨ji14, hji14⟩ : ∃ j_ : Int, (shl .i64 1 x5_1) = j_ := ⟨_, rfl⟩; replace H : (impl_ReadTerm.l0 k1 a0 (wrap64 (x5_1 + 1)) (Go.bits .or .i64 x464000_1 (ji14)) (Go.bits .or .i64 x464001_1 (ji14))) = some (r1, r2, r3) := by first | (rw [hji14] at H; exact H) | (simp only [hji14] at H ⊢; exact H)
       have hji14_ : (IntKind.i64.wrap (1 * 2 ^ min x5_1.toNat 64)) = ji14 := hji14; have hji14z : x5_1 ≤ 64 → (IntKind.i64.wrap (1 * 2 ^ x5_1.toNat)) = ji14 := shl_small hji14; have hji14u : (IntKind.i64.wrap (2 ^ min x5_1.toNat 64)) = ji14 := by have h_ := hji14_; rw [Int.one_mul] at h_; exact h_
       have hji14v : x5_1 ≤ 64 → (IntKind.i64.wrap (2 ^ x5_1.toNat)) = ji14 := fun hle_ => by have h_ := hji14z hle_; rw [Int.one_mul] at h_; exact h_
       have hji14y : (wrap64 (1 * 2 ^ min x5_1.toNat 64)) = ji14 := (i64_w _).symm.trans hji14_; have hji14x : x5_1 ≤ 64 → (wrap64 (1 * 2 ^ x5_1.toNat)) = ji14 := fun h_ => (i64_w _).symm.trans (hji14z h_)
       have c15b0 := eq_true (of_decide_eq_true zb_ : 0 ≤ x5_1); have H' := aM H; clear H; have p11 : 0 ≤ (x5_1 : Int) := of_decide_eq_true zb_; have q11 : x5_1 < (a0.size : Int) := of_decide_eq_true zb_; have hx11 := bt_at a0 x5_1; replace p11 := eq_true p11; replace q11 := eq_true q11; (try go_wp2); have n_ := z (blk_drew BK462.out) <| z (blk_drew BK463.out) <| z1 (p1 HB.out)
       clear BK462 BK463 HB; obtain ⟨BK462, BK463, HB⟩ := n_
       refine start_ (n := 7) (S := fun w' => w'.cell? ⟨gb463, 0, none⟩ = some (.int .i64 x464000_1) ∧ w'.cell? ⟨gb463, 1, none⟩ = some (.int .i64 x464001_1)) (ds := [6]) #[fi,fi,fi,fi,fi,fi,fi] (by kernel_rfl) rfl rfl ⟨(blk_cell BK463.out 0).trans rfl, (blk_cell BK463.out 1).trans rfl⟩ (fun hHeld => ?_)
       generalize wr.drew = w17 at BK462 BK463 HB hHeld ⊢
       refine pure_ (i := 0) (N := some 23) (v := ?_) (a' := ?_) #[ti,fi,fi,fi,fi,fi,fi] rfl rfl (by kernel_rfl) (fun _ _ _ h => h) (Or.inl ⟨by rfl, ?_⟩) ?_ ?_; rotate_left; (· (intro w'; go_simp; with_reducible rfl)); rotate_left; (· (simp only [Act.put, sI, s0, sS, i64_w, i32_w]; rfl))
       refine pure_ (i := 2) (N := some 25) (v := ?_) (a' := ?_) #[ti,fi,ti,fi,fi,fi,fi] rfl rfl (by kernel_rfl) (fun _ _ _ h => h) (Or.inl ⟨by rfl, ?_⟩) ?_ ?_; rotate_left; (· (intro w'; go_simp; with_reducible rfl)); rotate_left; (· (simp only [Act.put, sI, s0, sS, i64_w, i32_w]; rfl))
       refine pure_ (i := 3) (N := some 26) (v := ?_) (a' := ?_) #[ti,fi,ti,ti,fi,fi,fi] rfl rfl (by kernel_rfl) (fun _ _ _ h => h) (Or.inl ⟨by rfl, ?_⟩) ?_ ?_; rotate_left; (· (intro w'; go_simp; with_reducible rfl)); rotate_left; (· (simp only [Act.put, sI, s0, sS, i64_w, i32_w]; rfl))
       refine take_ (i := 1) (N := some 24) (v := ?_) (a' := ?_) #[ti,ti,ti,ti,fi,fi,fi] rfl rfl (by kernel_rfl) (fun _ _ _ h => h) (Or.inl ⟨by rfl, ?_⟩) hHeld ?_ ?_
       rotate_left
       ·rintro w' ⟨s0, s1⟩
        go_simp
        with_reducible rfl
       rotate_left
       ·simp only [Act.put, sI, s0, sS, i64_w, i32_w]
        rfl
       refine pure_ (i := 4) (N := some 27) (v := ?_) (a' := ?_) #[ti,ti,ti,ti,ti,fi,fi] rfl rfl (by kernel_rfl) (fun _ _ _ h => h) (Or.inl ⟨by rfl, ?_⟩) ?_ ?_; rotate_left; (· (intro w'; go_simp; with_reducible rfl)); rotate_left; (· (simp only [Act.put, sI, s0, sS, i64_w, i32_w]; rfl))
       refine pure_ (i := 5) (N := some 28) (v := ?_) (a' := ?_) #[ti,ti,ti,ti,ti,ti,fi] rfl rfl (by kernel_rfl) (fun _ _ _ h => h) (Or.inl ⟨by rfl, ?_⟩) ?_ ?_; rotate_left; (· (intro w'; go_simp; with_reducible rfl)); rotate_left; (· (simp only [Act.put, sI, s0, sS, i64_w, i32_w]; rfl))
       refine last_ (i := 6) (N := none) #[ti,ti,ti,ti,ti,ti,ti] rfl rfl (by kernel_rfl) (by decide) (fun K hK => ?_)
       have hs18 : w17.cell? ⟨gb463, 0, none⟩ = some (.int .i64 x464000_1) := (blk_cell BK463.out 0).trans rfl; have hfs18 := blk_frozen BK463.out 0; have hns18_0 := NB462_463.out; have hms18_0 := NB463_462.out
       refine skip_ (w1 := ?_) (by rfl) rfl ?_ ?_
       rotate_left
       ·go_simp
        rfl
       refine hK.out _ _ ?_
       clear hK K
       refine done_ (by kernel_rfl) ?_
       (try go_wp2); have n0_ : Aside0 ((w17.setCell ⟨gb463, 0, none⟩ (.int .i64 (Go.bits .or .i64 x464000_1 (ji14)))).heap[gb462]? = some (.cells #[.int .i64 x463000_1, .int .i64 x463001_1] 72 (0, 0))) := ⟨by refine zb ?_; refine blk_far ?_ NB462_463.out _; refine zb ?_; exact BK462.out⟩; have n1_ : Aside0 ((w17.setCell ⟨gb463, 0, none⟩ (.int .i64 (Go.bits .or .i64 x464000_1 (ji14)))).heap[gb463]? = some (.cells #[.int .i64 (Go.bits .or .i64 x464000_1 (ji14)), .int .i64 x464001_1] 72 (0, 0))) := ⟨by refine zb ?_; refine blk_put (cs := #[.int .i64 x464000_1, .int .i64 x464001_1]) ?_ 0 _ rfl; refine zb ?_; exact BK463.out⟩; have n2_ : Aside0 (Below w.heap.size w (w17.setCell ⟨gb463, 0, none⟩ (.int .i64 (Go.bits .or .i64 x464000_1 (ji14))))) := ⟨zfc_⟩; (try clear BK462); (try clear BK463); (try clear HB); generalize (w17.setCell ⟨gb463, 0, none⟩ (.int .i64 (Go.bits .or .i64 x464000_1 (ji14)))) = w19 at n0_ n1_ n2_ ⊢; have BK462 := n0_; have BK463 := n1_; have HB := n2_; clear n0_ n1_ n2_; have n_ := z (blk_drew BK462.out) <| z (blk_drew BK463.out) <| z1 (p1 HB.out)
       clear BK462 BK463 HB; obtain ⟨BK462, BK463, HB⟩ := n_
       refine start_ (n := 7) (S := fun w' => w'.cell? ⟨gb463, 0, none⟩ = some (.int .i64 (Go.bits .or .i64 x464000_1 (ji14))) ∧ w'.cell? ⟨gb463, 1, none⟩ = some (.int .i64 x464001_1)) (ds := [6]) #[fi,fi,fi,fi,fi,fi,fi] (by kernel_rfl) rfl rfl ⟨(blk_cell BK463.out 0).trans rfl, (blk_cell BK463.out 1).trans rfl⟩ (fun hHeld => ?_)
       generalize w19.drew = w20 at BK462 BK463 HB hHeld ⊢
       refine pure_ (i := 0) (N := some 29) (v := ?_) (a' := ?_) #[ti,fi,fi,fi,fi,fi,fi] rfl rfl (by kernel_rfl) (fun _ _ _ h => h) (Or.inl ⟨by rfl, ?_⟩) ?_ ?_; rotate_left; (· (intro w'; go_simp; with_reducible rfl)); rotate_left; (· (simp only [Act.put, sI, s0, sS, i64_w, i32_w]; rfl))
       refine pure_ (i := 2) (N := some 31) (v := ?_) (a' := ?_) #[ti,fi,ti,fi,fi,fi,fi] rfl rfl (by kernel_rfl) (fun _ _ _ h => h) (Or.inl ⟨by rfl, ?_⟩) ?_ ?_; rotate_left; (· (intro w'; go_simp; with_reducible rfl)); rotate_left; (· (simp only [Act.put, sI, s0, sS, i64_w, i32_w]; rfl))
       refine pure_ (i := 3) (N := some 32) (v := ?_) (a' := ?_) #[ti,fi,ti,ti,fi,fi,fi] rfl rfl (by kernel_rfl) (fun _ _ _ h => h) (Or.inl ⟨by rfl, ?_⟩) ?_ ?_; rotate_left; (· (intro w'; go_simp; with_reducible rfl)); rotate_left; (· (simp only [Act.put, sI, s0, sS, i64_w, i32_w]; rfl))
       refine take_ (i := 1) (N := some 30) (v := ?_) (a' := ?_) #[ti,ti,ti,ti,fi,fi,fi] rfl rfl (by kernel_rfl) (fun _ _ _ h => h) (Or.inl ⟨by rfl, ?_⟩) hHeld ?_ ?_
       rotate_left
       ·rintro w' ⟨s0, s1⟩
        go_simp
        with_reducible rfl
       rotate_left
       ·simp only [Act.put, sI, s0, sS, i64_w, i32_w]
        rfl
       refine pure_ (i := 4) (N := some 33) (v := ?_) (a' := ?_) #[ti,ti,ti,ti,ti,fi,fi] rfl rfl (by kernel_rfl) (fun _ _ _ h => h) (Or.inl ⟨by rfl, ?_⟩) ?_ ?_; rotate_left; (· (intro w'; go_simp; with_reducible rfl)); rotate_left; (· (simp only [Act.put, sI, s0, sS, i64_w, i32_w]; rfl))
       refine pure_ (i := 5) (N := some 34) (v := ?_) (a' := ?_) #[ti,ti,ti,ti,ti,ti,fi] rfl rfl (by kernel_rfl) (fun _ _ _ h => h) (Or.inl ⟨by rfl, ?_⟩) ?_ ?_; rotate_left; (· (intro w'; go_simp; with_reducible rfl)); rotate_left; (· (simp only [Act.put, sI, s0, sS, i64_w, i32_w]; rfl))
       refine last_ (i := 6) (N := none) #[ti,ti,ti,ti,ti,ti,ti] rfl rfl (by kernel_rfl) (by decide) (fun K hK => ?_)
       have hs21 : w20.cell? ⟨gb463, 1, none⟩ = some (.int .i64 x464001_1) := (blk_cell BK463.out 1).trans rfl; have hfs21 := blk_frozen BK463.out 1; have hns21_0 := NB462_463.out; have hms21_0 := NB463_462.out
       refine skip_ (w1 := ?_) (by rfl) rfl ?_ ?_
       rotate_left
       ·go_simp
        rfl
       refine hK.out _ _ ?_
       clear hK K
       refine done_ (by kernel_rfl) ?_
       (try go_wp2)
       go_roundg k1
       case measure => have := HK1.out; omega
       case rel => exact ⟨(wrap64 (x5_1 + 1)), (x463000_1), (x463001_1), (Go.bits .or .i64 x464000_1 (ji14)), (Go.bits .or .i64 x464001_1 (ji14)), zd_, H', ⟨zbc_⟩, ⟨by refine zb ?_; refine blk_far ?_ NB462_463.out _; refine zb ?_; exact BK462.out⟩, ⟨by refine zb ?_; refine blk_put (cs := #[.int .i64 (Go.bits .or .i64 x464000_1 (ji14)), .int .i64 x464001_1]) ?_ 1 _ rfl; refine zb ?_; exact BK463.out⟩, ⟨zfc_⟩⟩
      ·rw [if_neg c12] at H
       have c12b0 : ((bt a0 x5_1) == 49) = false := beq_eq_false_iff_ne.mpr c12; have c12b1 : ((bt a0 x5_1) != 49) = true := bne_iff_ne.mpr c12
       by_cases c22 : (bt a0 x5_1) = 48
       ·rw [if_pos c22] at H
        have c22b0 : ((bt a0 x5_1) == 48) = true := beq_iff_eq.mpr c22; have c22b1 : ((bt a0 x5_1) != 48) = false := bne_eq_false_iff_eq.mpr c22; clear c22; have c23b0 := eq_true (of_decide_eq_true zb_ : 0 ≤ x5_1); obtain ⟨ji24, hji24⟩ : ∃ j_ : Int, (shl .i64 1 x5_1) = j_ := ⟨_, rfl⟩; replace H : (impl_ReadTerm.l0 k1 a0 (wrap64 (x5_1 + 1)) (Go.bits .or .i64 x464000_1 (ji24)) x464001_1) = some (r1, r2, r3) := by first | (rw [hji24] at H; exact H) | (simp only [hji24] at H ⊢; exact H)
        have hji24_ : (IntKind.i64.wrap (1 * 2 ^ min x5_1.toNat 64)) = ji24 := hji24; have hji24z : x5_1 ≤ 64 → (IntKind.i64.wrap (1 * 2 ^ x5_1.toNat)) = ji24 := shl_small hji24; have hji24u : (IntKind.i64.wrap (2 ^ min x5_1.toNat 64)) = ji24 := by have h_ := hji24_; rw [Int.one_mul] at h_; exact h_
        have hji24v : x5_1 ≤ 64 → (IntKind.i64.wrap (2 ^ x5_1.toNat)) = ji24 := fun hle_ => by have h_ := hji24z hle_; rw [Int.one_mul] at h_; exact h_
        have hji24y : (wrap64 (1 * 2 ^ min x5_1.toNat 64)) = ji24 := (i64_w _).symm.trans hji24_; have hji24x : x5_1 ≤ 64 → (wrap64 (1 * 2 ^ x5_1.toNat)) = ji24 := fun h_ => (i64_w _).symm.trans (hji24z h_)
        have H' := aM H; clear H; have p11 : 0 ≤ (x5_1 : Int) := of_decide_eq_true zb_; have q11 : x5_1 < (a0.size : Int) := of_decide_eq_true zb_; have hx11 := bt_at a0 x5_1; replace p11 := eq_true p11; replace q11 := eq_true q11; (try go_wp2); have n_ := z (blk_drew BK462.out) <| z (blk_drew BK463.out) <| z1 (p1 HB.out)
        clear BK462 BK463 HB; obtain ⟨BK462, BK463, HB⟩ := n_
        refine start_ (n := 7) (S := fun w' => w'.cell? ⟨gb463, 0, none⟩ = some (.int .i64 x464000_1) ∧ w'.cell? ⟨gb463, 1, none⟩ = some (.int .i64 x464001_1)) (ds := [6]) #[fi,fi,fi,fi,fi,fi,fi] (by kernel_rfl) rfl rfl ⟨(blk_cell BK463.out 0).trans rfl, (blk_cell BK463.out 1).trans rfl⟩ (fun hHeld => ?_)
        generalize wr.drew = w25 at BK462 BK463 HB hHeld ⊢
        refine pure_ (i := 0) (N := some 37) (v := ?_) (a' := ?_) #[ti,fi,fi,fi,fi,fi,fi] rfl rfl (by kernel_rfl) (fun _ _ _ h => h) (Or.inl ⟨by rfl, ?_⟩) ?_ ?_; rotate_left; (· (intro w'; go_simp; with_reducible rfl)); rotate_left; (· (simp only [Act.put, sI, s0, sS, i64_w, i32_w]; rfl))
        refine pure_ (i := 2) (N := some 39) (v := ?_) (a' := ?_) #[ti,fi,ti,fi,fi,fi,fi] rfl rfl (by kernel_rfl) (fun _ _ _ h => h) (Or.inl ⟨by rfl, ?_⟩) ?_ ?_; rotate_left; (· (intro w'; go_simp; with_reducible rfl)); rotate_left; (· (simp only [Act.put, sI, s0, sS, i64_w, i32_w]; rfl))
        refine pure_ (i := 3) (N := some 40) (v := ?_) (a' := ?_) #[ti,fi,ti,ti,fi,fi,fi] rfl rfl (by kernel_rfl) (fun _ _ _ h => h) (Or.inl ⟨by rfl, ?_⟩) ?_ ?_; rotate_left; (· (intro w'; go_simp; with_reducible rfl)); rotate_left; (· (simp only [Act.put, sI, s0, sS, i64_w, i32_w]; rfl))
        refine take_ (i := 1) (N := some 38) (v := ?_) (a' := ?_) #[ti,ti,ti,ti,fi,fi,fi] rfl rfl (by kernel_rfl) (fun _ _ _ h => h) (Or.inl ⟨by rfl, ?_⟩) hHeld ?_ ?_
        rotate_left
        ·rintro w' ⟨s0, s1⟩
         go_simp
         with_reducible rfl
        rotate_left
        ·simp only [Act.put, sI, s0, sS, i64_w, i32_w]
         rfl
        refine pure_ (i := 4) (N := some 41) (v := ?_) (a' := ?_) #[ti,ti,ti,ti,ti,fi,fi] rfl rfl (by kernel_rfl) (fun _ _ _ h => h) (Or.inl ⟨by rfl, ?_⟩) ?_ ?_; rotate_left; (· (intro w'; go_simp; with_reducible rfl)); rotate_left; (· (simp only [Act.put, sI, s0, sS, i64_w, i32_w]; rfl))
        refine pure_ (i := 5) (N := some 42) (v := ?_) (a' := ?_) #[ti,ti,ti,ti,ti,ti,fi] rfl rfl (by kernel_rfl) (fun _ _ _ h => h) (Or.inl ⟨by rfl, ?_⟩) ?_ ?_; rotate_left; (· (intro w'; go_simp; with_reducible rfl)); rotate_left; (· (simp only [Act.put, sI, s0, sS, i64_w, i32_w]; rfl))
        refine last_ (i := 6) (N := none) #[ti,ti,ti,ti,ti,ti,ti] rfl rfl (by kernel_rfl) (by decide) (fun K hK => ?_)
        have hs26 : w25.cell? ⟨gb463, 0, none⟩ = some (.int .i64 x464000_1) := (blk_cell BK463.out 0).trans rfl; have hfs26 := blk_frozen BK463.out 0; have hns26_0 := NB462_463.out; have hms26_0 := NB463_462.out
        refine skip_ (w1 := ?_) (by rfl) rfl ?_ ?_
        rotate_left
        ·go_simp
         rfl
        refine hK.out _ _ ?_
        clear hK K
        refine done_ (by kernel_rfl) ?_
        (try go_wp2)
        go_roundg k1
        case measure => have := HK1.out; omega
        case rel => exact ⟨(wrap64 (x5_1 + 1)), (x463000_1), (x463001_1), (Go.bits .or .i64 x464000_1 (ji24)), (x464001_1), zd_, H', ⟨zbc_⟩, ⟨by refine zb ?_; refine blk_far ?_ NB462_463.out _; refine zb ?_; exact BK462.out⟩, ⟨by refine zb ?_; refine blk_put (cs := #[.int .i64 x464000_1, .int .i64 x464001_1]) ?_ 0 _ rfl; refine zb ?_; exact BK463.out⟩, ⟨zfc_⟩⟩
       ·rw [if_neg c22] at H
        have c22b0 : ((bt a0 x5_1) == 48) = false := beq_eq_false_iff_ne.mpr c22; have c22b1 : ((bt a0 x5_1) != 48) = true := bne_iff_ne.mpr c22
        by_cases c27 : (bt a0 x5_1) = 45
        ·rw [if_pos c27] at H
         have c27b0 : ((bt a0 x5_1) == 45) = true := beq_iff_eq.mpr c27; have c27b1 : ((bt a0 x5_1) != 45) = false := bne_eq_false_iff_eq.mpr c27; clear c27; have H' := aM H; clear H; have p11 : 0 ≤ (x5_1 : Int) := of_decide_eq_true zb_; have q11 : x5_1 < (a0.size : Int) := of_decide_eq_true zb_; have hx11 := bt_at a0 x5_1; replace p11 := eq_true p11; replace q11 := eq_true q11
         go_wp2
         go_roundg k1
         case measure => have := HK1.out; omega
         case rel => exact ⟨(wrap64 (x5_1 + 1)), (x463000_1), (x463001_1), (x464000_1), (x464001_1), zd_, H', ⟨zbc_⟩, ⟨zb BK462.out⟩, ⟨zb BK463.out⟩, ⟨zfc_⟩⟩
        ·rw [if_neg c27] at H
         have c27b0 : ((bt a0 x5_1) == 45) = false := beq_eq_false_iff_ne.mpr c27; have c27b1 : ((bt a0 x5_1) != 45) = true := bne_iff_ne.mpr c27
         simp only [Option.some.injEq, Prod.mk.injEq] at H
         obtain ⟨rfl, rfl, rfl⟩ := H; have p11 : 0 ≤ (x5_1 : Int) := of_decide_eq_true zb_; have q11 : x5_1 < (a0.size : Int) := of_decide_eq_true zb_; have hx11 := bt_at a0 x5_1; replace p11 := eq_true p11; replace q11 := eq_true q11; have hnb28 := NB462_463.out; have hnc28 := NB463_462.out; have hcz29_0 : wr.cell? ⟨gb462, 0, none⟩ = some (.int .i64 x463000_1) := (blk_cell BK462.out 0).trans rfl; have hcz29_1 : wr.cell? ⟨gb462, 1, none⟩ = some (.int .i64 x463001_1) := (blk_cell BK462.out 1).trans rfl; have hfz29_0 := blk_frozen BK462.out 0; have hfz29_1 := blk_frozen BK462.out 1
         go_wp2
         refine bodyPost_ret (results_ct rfl _ _ gb462 72 #[.int .i64 0, .int .i64 0] (0, 0) _ rfl (by refine zb ?_; refine blk_put (cs := #[.int .i64 0, .int .i64 x463001_1]) ?_ 1 _ rfl; refine zb ?_; refine blk_put (cs := #[.int .i64 x463000_1, .int .i64 x463001_1]) ?_ 0 _ rfl; refine zb ?_; exact BK462.out) Try.underlying72 rfl (by kernel_rfl)) rfl ?_
         exact ⟨zi_, zfc_⟩
     ·rw [if_neg c10] at H
      exact absurd H (by simp)
    ·rw [if_neg c9] at H
     have c9b0 : decide (x5_1 < (a0.size : Int)) = false := decide_eq_false c9; clear c9
     simp only [Option.some.injEq, Prod.mk.injEq] at H
     obtain ⟨rfl, rfl, rfl⟩ := H; have hnb30 := NB463_462.out; have hnc30 := NB462_463.out; have hcz31_0 : wr.cell? ⟨gb463, 0, none⟩ = some (.int .i64 x464000_1) := (blk_cell BK463.out 0).trans rfl; have hcz31_1 : wr.cell? ⟨gb463, 1, none⟩ = some (.int .i64 x464001_1) := (blk_cell BK463.out 1).trans rfl; have hfz31_0 := blk_frozen BK463.out 0; have hfz31_1 := blk_frozen BK463.out 1; have hcz32_0 : wr.cell? ⟨gb462, 0, none⟩ = some (.int .i64 x463000_1) := (blk_cell BK462.out 0).trans rfl; have hcz32_1 : wr.cell? ⟨gb462, 1, none⟩ = some (.int .i64 x463001_1) := (blk_cell BK462.out 1).trans rfl; have hfz32_0 := blk_frozen BK462.out 0; have hfz32_1 := blk_frozen BK462.out 1
     go_wp2
     refine bodyPost_ret (results_ct rfl _ _ gb462 72 #[.int .i64 x464000_1, .int .i64 x464001_1] (0, 0) _ rfl (by refine zb ?_; refine blk_put (cs := #[.int .i64 x464000_1, .int .i64 x463001_1]) ?_ 1 _ rfl; refine zb ?_; refine blk_put (cs := #[.int .i64 x463000_1, .int .i64 x463001_1]) ?_ 0 _ rfl; refine zb ?_; exact BK462.out) Try.underlying72 rfl (by kernel_rfl)) rfl ?_
     exact ⟨zi_, zfc_⟩
def spec_ReadTerm.l0 : Nat → ByteArray → Int → Int → Int → Option (Int × Int × Bool)
 | 0, _, _, _, _ => none
 | k + 1, x0, x5, x467000, x467001 => if x5 < (x0.size : Int) then (if 0 ≤ (IntKind.u64.wrap (x5)) then (if 0 ≤ x5 then (if (bt x0 x5) = 49 then (spec_ReadTerm.l0 k x0 (wrap64 (x5 + 1)) (wrap64 (x467000 + (shl .i64 1 (IntKind.u64.wrap (x5))))) (wrap64 (x467001 + (shl .i64 1 (IntKind.u64.wrap (x5)))))) else (if (bt x0 x5) = 48 then (spec_ReadTerm.l0 k x0 (wrap64 (x5 + 1)) (wrap64 (x467000 + (shl .i64 1 (IntKind.u64.wrap (x5))))) x467001) else (if (bt x0 x5) = 45 then (spec_ReadTerm.l0 k x0 (wrap64 (x5 + 1)) x467000 x467001) else (some (0, 0, false))))) else (none)) else (none)) else (some (x467000, x467001, true))
def spec_ReadTerm.f (k : Nat) (a0 : ByteArray) : Option (Int × Int × Bool) := (spec_ttInputs.f (a0.size : Int)).bind fun t465 => (if t465 = true then (spec_ReadTerm.l0 k a0 0 0 0) else (some (0, 0, false)))
theorem spec_ReadTerm.calls (k : Nat) (a0 : ByteArray) (r1 : Int) (r2 : Int) (r3 : Bool) (w : World) (h : spec_ReadTerm.f k a0 = some (r1, r2, r3)) :
  Calls Try.prog 58 #[.string a0] w fun e w' => e = .returned (.tuple #[.agg #[.int .i64 r1, .int .i64 r2], .bool r3]) ∧ Below w.heap.size w w' := by
 have hu72 := Try.underlying72
 have HB := aM (Below.refl w.heap.size w)
 have H : ((spec_ttInputs.f (a0.size : Int)).bind fun t465 => (if t465 = true then (spec_ReadTerm.l0 k a0 0 0 0) else (some (0, 0, false)))) = some (r1, r2, r3) := h
 clear h
 replace H := oB.mp H
 obtain ⟨t465, A20, H⟩ := H
 replace H : (if t465 = true then (spec_ReadTerm.l0 k a0 0 0 0) else (some (0, 0, false))) = some (r1, r2, r3) := H
 have A2 := aM A20
 clear A20
 by_cases c3 : t465 = true
 ·subst c3
  have H1 : (spec_ReadTerm.l0 k a0 0 0 0) = some (r1, r2, r3) := by rw [if_pos rfl] at H; exact H
  clear H; have H := H1; clear H1; have H' := aM H; clear H
  go_enter Try.func58, Try.ntmps58
  go_wp2_with (first | ((with_reducible refine gate_dst (N := 2) rfl ?_); refine box_event ?hg (N := 2) ?hd (cs := #[.int .i64 0, .int .i64 0]) (t := 72) ?hr ?_; (case hd => rfl); (case hg => rfl); (case hr => exact zc_); intro gb464 hg w4 hbox hb; have n_ := z (below_step za_ hb) <| z (hbox) <| z ((by rw [hg]; exact (below_size za_) : w.heap.size ≤ gb464)) <| z1 ((by rw [hg]; exact (below_size za_) : w.heap.size ≤ gb464)); clear HB; obtain ⟨HB, BK464, GW464, GE464⟩ := n_; clear hb hbox hg) | ((with_reducible refine gate_callee (f := 144) rfl ?_); refine goesL_ (some 9) rfl rfl Try.func144 (by kernel_rfl) rfl #[.int .i64 (a0.size : Int)] rfl ze_ ?_; (with_reducible refine (spec_ttInputs.calls (a0.size : Int) true _ A2.out).mono ?_); rintro e w' ⟨rfl, ⟨nd, rfl⟩⟩; refine ⟨_, rfl, ?_⟩; (try (rw [drewN_self w4]; generalize hq_ : World.drewN w4 _ = w4; have n0_ : Aside0 (w4.heap[gb464]? = some (.cells #[.int .i64 0, .int .i64 0] 72 (0, 0))) := ⟨by rw [← hq_]; exact (zb BK464.out)⟩; have n1_ : Aside0 (Below w.heap.size w w4) := ⟨by rw [← hq_]; exact zgj_⟩; clear BK464 HB hq_; have BK464 := n0_; have HB := n1_; clear n0_ n1_))) | ((with_reducible refine gate_dst (N := 4) rfl ?_); refine box_event ?hg (N := 4) ?hd (cs := #[.int .i64 0, .int .i64 0]) (t := 72) ?hr ?_; (case hd => rfl); (case hg => rfl); (case hr => exact zc_); intro gb466 hg w5 hbox hb; have n_ := z (blk_below (g := gb464) (o := .cells #[.int .i64 0, .int .i64 0] 72 (0, 0)) (zb BK464.out) hb) <| z (below_step zgj_ hb) <| z (hbox) <| z ((by rw [hg]; exact (below_size zgj_) : w.heap.size ≤ gb466)) <| z ((by rw [hg]; exact (below_size zgj_) : w.heap.size ≤ gb466)) <| z ((by rw [hg]; exact Nat.ne_of_lt (blk_lt (g := gb464) (o := .cells #[.int .i64 0, .int .i64 0] 72 (0, 0)) (zb BK464.out)) : gb464 ≠ gb466)) <| z1 ((by rw [hg]; exact Nat.ne_of_gt (blk_lt (g := gb464) (o := .cells #[.int .i64 0, .int .i64 0] 72 (0, 0)) (zb BK464.out)) : gb466 ≠ gb464)); clear BK464 HB; obtain ⟨BK464, HB, BK466, GW466, GE466, NB464_466, NB466_464⟩ := n_; clear hb hbox hg; have hnb6 := NB466_464.out; have hnc6 := NB464_466.out; have hcz7_0 : w5.cell? ⟨gb466, 0, none⟩ = some (.int .i64 0) := (blk_cell BK466.out 0).trans rfl; have hcz7_1 : w5.cell? ⟨gb466, 1, none⟩ = some (.int .i64 0) := (blk_cell BK466.out 1).trans rfl; have hfz7_0 := blk_frozen BK466.out 0; have hfz7_1 := blk_frozen BK466.out 1))
  go_loopg [5] k (fun kq v5 w' => ∃ (x5_1 : Int) (x465000_1 : Int) (x465001_1 : Int) (x467000_1 : Int) (x467001_1 : Int), v5 = .int .i64 x5_1 ∧ Aside0 (spec_ReadTerm.l0 kq a0 x5_1 x467000_1 x467001_1 = some (r1, r2, r3)) ∧ Aside0 (kq ≤ k) ∧ Aside0 (w'.heap[gb464]? = some (.cells #[.int .i64 x465000_1, .int .i64 x465001_1] 72 (0, 0))) ∧ Aside0 (w'.heap[gb466]? = some (.cells #[.int .i64 x467000_1, .int .i64 x467001_1] 72 (0, 0))) ∧ Aside0 (Below w.heap.size w w'))
  case atStart => exact ⟨(0), (0), (0), (0), (0), zd_, H', ⟨Nat.le_refl _⟩, ⟨by refine zb ?_; refine blk_far ?_ NB464_466.out _; refine zb ?_; refine blk_far ?_ NB464_466.out _; refine zb ?_; exact BK464.out⟩, ⟨by refine zb ?_; refine blk_put (cs := #[.int .i64 0, .int .i64 0]) ?_ 1 _ rfl; refine zb ?_; refine blk_put (cs := #[.int .i64 0, .int .i64 0]) ?_ 0 _ rfl; refine zb ?_; exact BK466.out⟩, ⟨zha_⟩⟩
  case round =>
   clear H'; (try clear c1); (try clear p2); (try clear c3); (try clear c5); (try clear c6); (try clear hcz7_0); (try clear hcz7_1); (try clear hfz7_0); (try clear hfz7_1); obtain ⟨x5_1, x465000_1, x465001_1, x467000_1, x467001_1, rfl, HA, HK1, BK464, BK466, HB⟩ := hrel
   cases gk with
   | zero => exact absurd HA.out (by simp [spec_ReadTerm.l0])
   | succ k1 =>
    have H := HA.out; clear HA
    simp only [spec_ReadTerm.l0] at H
    by_cases c8 : x5_1 < (a0.size : Int)
    ·rw [if_pos c8] at H
     have c8b0 : decide (x5_1 < (a0.size : Int)) = true := decide_eq_true c8; clear c8; obtain ⟨ji9, hji9⟩ : ∃ j_ : Int, (IntKind.u64.wrap (x5_1)) = j_ := ⟨_, rfl⟩; replace H : (if 0 ≤ (ji9) then (if 0 ≤ x5_1 then (if (bt a0 x5_1) = 49 then (spec_ReadTerm.l0 k1 a0 (wrap64 (x5_1 + 1)) (wrap64 (x467000_1 + (shl .i64 1 (ji9)))) (wrap64 (x467001_1 + (shl .i64 1 (ji9))))) else (if (bt a0 x5_1) = 48 then (spec_ReadTerm.l0 k1 a0 (wrap64 (x5_1 + 1)) (wrap64 (x467000_1 + (shl .i64 1 (ji9)))) x467001_1) else (if (bt a0 x5_1) = 45 then (spec_ReadTerm.l0 k1 a0 (wrap64 (x5_1 + 1)) x467000_1 x467001_1) else (some (0, 0, false))))) else (none)) else (none)) = some (r1, r2, r3) := by first | (rw [hji9] at H; exact H) | (simp only [hji9] at H ⊢; exact H)
     by_cases c10 : 0 ≤ (ji9)
     ·rw [if_pos c10] at H
      have c10b0 := eq_true c10; have c10b1 : decide (0 ≤ (ji9)) = true := decide_eq_true c10; clear c10; obtain ⟨ji11, hji11⟩ : ∃ j_ : Int, (shl .i64 1 (ji9)) = j_ := ⟨_, rfl⟩; replace H : (if 0 ≤ x5_1 then (if (bt a0 x5_1) = 49 then (spec_ReadTerm.l0 k1 a0 (wrap64 (x5_1 + 1)) (wrap64 (x467000_1 + (ji11))) (wrap64 (x467001_1 + (ji11)))) else (if (bt a0 x5_1) = 48 then (spec_ReadTerm.l0 k1 a0 (wrap64 (x5_1 + 1)) (wrap64 (x467000_1 + (ji11))) x467001_1) else (if (bt a0 x5_1) = 45 then (spec_ReadTerm.l0 k1 a0 (wrap64 (x5_1 + 1)) x467000_1 x467001_1) else (some (0, 0, false))))) else (none)) = some (r1, r2, r3) := by first | (rw [hji11] at H; exact H) | (simp only [hji11] at H ⊢; exact H)
      have hji11_ : (IntKind.i64.wrap (1 * 2 ^ min (ji9).toNat 64)) = ji11 := hji11; have hji11z : (ji9) ≤ 64 → (IntKind.i64.wrap (1 * 2 ^ (ji9).toNat)) = ji11 := shl_small hji11; have hji11u : (IntKind.i64.wrap (2 ^ min (ji9).toNat 64)) = ji11 := by have h_ := hji11_; rw [Int.one_mul] at h_; exact h_
      have hji11v : (ji9) ≤ 64 → (IntKind.i64.wrap (2 ^ (ji9).toNat)) = ji11 := fun hle_ => by have h_ := hji11z hle_; rw [Int.one_mul] at h_; exact h_
      have hji11y : (wrap64 (1 * 2 ^ min (ji9).toNat 64)) = ji11 := (i64_w _).symm.trans hji11_; have hji11x : (ji9) ≤ 64 → (wrap64 (1 * 2 ^ (ji9).toNat)) = ji11 := fun h_ => (i64_w _).symm.trans (hji11z h_)
      by_cases c12 : 0 ≤ x5_1
      ·rw [if_pos c12] at H
       have c12b0 : decide (0 ≤ x5_1) = true := decide_eq_true c12; clear c12
       by_cases c14 : (bt a0 x5_1) = 49
       ·rw [if_pos c14] at H
        have c14b0 : ((bt a0 x5_1) == 49) = true := beq_iff_eq.mpr c14; have c14b1 : ((bt a0 x5_1) != 49) = false := bne_eq_false_iff_eq.mpr c14; clear c14; have H' := aM H; clear H; have p13 : 0 ≤ (x5_1 : Int) := of_decide_eq_true zb_; have q13 : x5_1 < (a0.size : Int) := of_decide_eq_true zb_; have hx13 := bt_at a0 x5_1; replace p13 := eq_true p13; replace q13 := eq_true q13; have hnb15 := NB466_464.out; have hnc15 := NB464_466.out; have hcz16_0 : wr.cell? ⟨gb466, 0, none⟩ = some (.int .i64 x467000_1) := (blk_cell BK466.out 0).trans rfl; have hcz16_1 : wr.cell? ⟨gb466, 1, none⟩ = some (.int .i64 x467001_1) := (blk_cell BK466.out 1).trans rfl; have hfz16_0 := blk_frozen BK466.out 0; have hfz16_1 := blk_frozen BK466.out 1
        go_wp2
        go_roundg k1
        case measure => have := HK1.out; omega
        case rel => exact ⟨(wrap64 (x5_1 + 1)), (x465000_1), (x465001_1), (wrap64 (x467000_1 + (ji11))), (wrap64 (x467001_1 + (ji11))), zd_, H', ⟨zbc_⟩, ⟨by refine zb ?_; refine blk_far ?_ NB464_466.out _; refine zb ?_; refine blk_far ?_ NB464_466.out _; refine zb ?_; exact BK464.out⟩, ⟨by refine zb ?_; refine blk_put (cs := #[.int .i64 (wrap64 (x467000_1 + (ji11))), .int .i64 x467001_1]) ?_ 1 _ rfl; refine zb ?_; refine blk_put (cs := #[.int .i64 x467000_1, .int .i64 x467001_1]) ?_ 0 _ rfl; refine zb ?_; exact BK466.out⟩, ⟨zha_⟩⟩
       ·rw [if_neg c14] at H
        have c14b0 : ((bt a0 x5_1) == 49) = false := beq_eq_false_iff_ne.mpr c14; have c14b1 : ((bt a0 x5_1) != 49) = true := bne_iff_ne.mpr c14
        by_cases c17 : (bt a0 x5_1) = 48
        ·rw [if_pos c17] at H
         have c17b0 : ((bt a0 x5_1) == 48) = true := beq_iff_eq.mpr c17; have c17b1 : ((bt a0 x5_1) != 48) = false := bne_eq_false_iff_eq.mpr c17; clear c17; have H' := aM H; clear H; have p13 : 0 ≤ (x5_1 : Int) := of_decide_eq_true zb_; have q13 : x5_1 < (a0.size : Int) := of_decide_eq_true zb_; have hx13 := bt_at a0 x5_1; replace p13 := eq_true p13; replace q13 := eq_true q13; have hnb18 := NB466_464.out; have hnc18 := NB464_466.out; have hcz19_0 : wr.cell? ⟨gb466, 0, none⟩ = some (.int .i64 x467000_1) := (blk_cell BK466.out 0).trans rfl; have hcz19_1 : wr.cell? ⟨gb466, 1, none⟩ = some (.int .i64 x467001_1) := (blk_cell BK466.out 1).trans rfl; have hfz19_0 := blk_frozen BK466.out 0; have hfz19_1 := blk_frozen BK466.out 1
         go_wp2
         go_roundg k1
         case measure => have := HK1.out; omega
         case rel => exact ⟨(wrap64 (x5_1 + 1)), (x465000_1), (x465001_1), (wrap64 (x467000_1 + (ji11))), (x467001_1), zd_, H', ⟨zbc_⟩, ⟨by refine zb ?_; refine blk_far ?_ NB464_466.out _; refine zb ?_; exact BK464.out⟩, ⟨by refine zb ?_; refine blk_put (cs := #[.int .i64 x467000_1, .int .i64 x467001_1]) ?_ 0 _ rfl; refine zb ?_; exact BK466.out⟩, ⟨zha_⟩⟩
        ·rw [if_neg c17] at H
         have c17b0 : ((bt a0 x5_1) == 48) = false := beq_eq_false_iff_ne.mpr c17; have c17b1 : ((bt a0 x5_1) != 48) = true := bne_iff_ne.mpr c17
         by_cases c20 : (bt a0 x5_1) = 45
         ·rw [if_pos c20] at H
          have c20b0 : ((bt a0 x5_1) == 45) = true := beq_iff_eq.mpr c20; have c20b1 : ((bt a0 x5_1) != 45) = false := bne_eq_false_iff_eq.mpr c20; clear c20; have H' := aM H; clear H; have p13 : 0 ≤ (x5_1 : Int) := of_decide_eq_true zb_; have q13 : x5_1 < (a0.size : Int) := of_decide_eq_true zb_; have hx13 := bt_at a0 x5_1; replace p13 := eq_true p13; replace q13 := eq_true q13
          go_wp2
          go_roundg k1
          case measure => have := HK1.out; omega
          case rel => exact ⟨(wrap64 (x5_1 + 1)), (x465000_1), (x465001_1), (x467000_1), (x467001_1), zd_, H', ⟨zbc_⟩, ⟨zb BK464.out⟩, ⟨zb BK466.out⟩, ⟨zha_⟩⟩
         ·rw [if_neg c20] at H
          have c20b0 : ((bt a0 x5_1) == 45) = false := beq_eq_false_iff_ne.mpr c20; have c20b1 : ((bt a0 x5_1) != 45) = true := bne_iff_ne.mpr c20
          simp only [Option.some.injEq, Prod.mk.injEq] at H
          obtain ⟨rfl, rfl, rfl⟩ := H; have p13 : 0 ≤ (x5_1 : Int) := of_decide_eq_true zb_; have q13 : x5_1 < (a0.size : Int) := of_decide_eq_true zb_; have hx13 := bt_at a0 x5_1; replace p13 := eq_true p13; replace q13 := eq_true q13; have hnb21 := NB464_466.out; have hnc21 := NB466_464.out; have hcz22_0 : wr.cell? ⟨gb464, 0, none⟩ = some (.int .i64 x465000_1) := (blk_cell BK464.out 0).trans rfl; have hcz22_1 : wr.cell? ⟨gb464, 1, none⟩ = some (.int .i64 x465001_1) := (blk_cell BK464.out 1).trans rfl; have hfz22_0 := blk_frozen BK464.out 0; have hfz22_1 := blk_frozen BK464.out 1
          go_wp2
          refine bodyPost_ret (results_ct rfl _ _ gb464 72 #[.int .i64 0, .int .i64 0] (0, 0) _ rfl (by refine zb ?_; refine blk_put (cs := #[.int .i64 0, .int .i64 x465001_1]) ?_ 1 _ rfl; refine zb ?_; refine blk_put (cs := #[.int .i64 x465000_1, .int .i64 x465001_1]) ?_ 0 _ rfl; refine zb ?_; exact BK464.out) Try.underlying72 rfl (by kernel_rfl)) rfl ?_
          exact ⟨by first | rfl | (simp [errW_none, errW_some] <;> rfl) | (simp only [← hji9, ← hji11]; first | rfl | (simp [errW_none, errW_some] <;> rfl)) | (simp [*, errW_none, errW_some] <;> rfl), zha_⟩
      ·rw [if_neg c12] at H
       exact absurd H (by simp)
     ·rw [if_neg c10] at H
      exact absurd H (by simp)
    ·rw [if_neg c8] at H
     have c8b0 : decide (x5_1 < (a0.size : Int)) = false := decide_eq_false c8; clear c8
     simp only [Option.some.injEq, Prod.mk.injEq] at H
     obtain ⟨rfl, rfl, rfl⟩ := H; have hnb23 := NB466_464.out; have hnc23 := NB464_466.out; have hcz24_0 : wr.cell? ⟨gb466, 0, none⟩ = some (.int .i64 x467000_1) := (blk_cell BK466.out 0).trans rfl; have hcz24_1 : wr.cell? ⟨gb466, 1, none⟩ = some (.int .i64 x467001_1) := (blk_cell BK466.out 1).trans rfl; have hfz24_0 := blk_frozen BK466.out 0; have hfz24_1 := blk_frozen BK466.out 1; have hcz25_0 : wr.cell? ⟨gb464, 0, none⟩ = some (.int .i64 x465000_1) := (blk_cell BK464.out 0).trans rfl; have hcz25_1 : wr.cell? ⟨gb464, 1, none⟩ = some (.int .i64 x465001_1) := (blk_cell BK464.out 1).trans rfl; have hfz25_0 := blk_frozen BK464.out 0; have hfz25_1 := blk_frozen BK464.out 1
     go_wp2
     refine bodyPost_ret (results_ct rfl _ _ gb464 72 #[.int .i64 x467000_1, .int .i64 x467001_1] (0, 0) _ rfl (by refine zb ?_; refine blk_put (cs := #[.int .i64 x467000_1, .int .i64 x465001_1]) ?_ 1 _ rfl; refine zb ?_; refine blk_put (cs := #[.int .i64 x465000_1, .int .i64 x465001_1]) ?_ 0 _ rfl; refine zb ?_; exact BK464.out) Try.underlying72 rfl (by kernel_rfl)) rfl ?_
     exact ⟨zi_, zha_⟩
 ·replace c3 := Bool.eq_false_iff.mpr c3
  subst c3; have H1 : (some (0, 0, false)) = some (r1, r2, r3) := by rw [if_neg (show ¬ (false = true) by decide)] at H; exact H
  clear H; have H := H1; clear H1
  simp only [Option.some.injEq, Prod.mk.injEq] at H
  obtain ⟨rfl, rfl, rfl⟩ := H
  go_enter Try.func58, Try.ntmps58
  go_wp2_with (first | ((with_reducible refine gate_dst (N := 2) rfl ?_); refine box_event ?hg (N := 2) ?hd (cs := #[.int .i64 0, .int .i64 0]) (t := 72) ?hr ?_; (case hd => rfl); (case hg => rfl); (case hr => exact zc_); intro gb464 hg w26 hbox hb; have n_ := z (below_step za_ hb) <| z (hbox) <| z ((by rw [hg]; exact (below_size za_) : w.heap.size ≤ gb464)) <| z1 ((by rw [hg]; exact (below_size za_) : w.heap.size ≤ gb464)); clear HB; obtain ⟨HB, BK464, GW464, GE464⟩ := n_; clear hb hbox hg) | ((with_reducible refine gate_callee (f := 144) rfl ?_); refine goesL_ (some 9) rfl rfl Try.func144 (by kernel_rfl) rfl #[.int .i64 (a0.size : Int)] rfl ze_ ?_; (with_reducible refine (spec_ttInputs.calls (a0.size : Int) false _ A2.out).mono ?_); rintro e w' ⟨rfl, ⟨nd, rfl⟩⟩; refine ⟨_, rfl, ?_⟩; (try (rw [drewN_self w26]; generalize hq_ : World.drewN w26 _ = w26; have n0_ : Aside0 (w26.heap[gb464]? = some (.cells #[.int .i64 0, .int .i64 0] 72 (0, 0))) := ⟨by rw [← hq_]; exact (zb BK464.out)⟩; have n1_ : Aside0 (Below w.heap.size w w26) := ⟨by rw [← hq_]; exact zgj_⟩; clear BK464 HB hq_; have BK464 := n0_; have HB := n1_; clear n0_ n1_)); have hcz27_0 : w26.cell? ⟨gb464, 0, none⟩ = some (.int .i64 0) := (blk_cell BK464.out 0).trans rfl; have hcz27_1 : w26.cell? ⟨gb464, 1, none⟩ = some (.int .i64 0) := (blk_cell BK464.out 1).trans rfl; have hfz27_0 := blk_frozen BK464.out 0; have hfz27_1 := blk_frozen BK464.out 1))
  refine bodyPost_ret (results_ct rfl _ _ gb464 72 #[.int .i64 0, .int .i64 0] (0, 0) _ rfl (by refine zb ?_; refine blk_put (cs := #[.int .i64 0, .int .i64 0]) ?_ 1 _ rfl; refine zb ?_; refine blk_put (cs := #[.int .i64 0, .int .i64 0]) ?_ 0 _ rfl; refine zb ?_; exact BK464.out) Try.underlying72 rfl (by kernel_rfl)) rfl ?_
  exact ⟨zi_, zgj_⟩
def laws_qTerms.l0 : Nat → List (S72) → List (S72) → Int → Int → Option (Bool)
 | 0, _, _, _, _ => none
 | k + 1, x0, x1, x12, x13 => if x13 < x12 then (if 0 ≤ x13 then (if x13 < (x0.length : Int) then (if x13 < (x1.length : Int) then (if (!(((rd_T72 x0 x13).f0) == ((rd_T72 x1 x13).f0)) || (!(((rd_T72 x0 x13).f1) == ((rd_T72 x1 x13).f1)))) = true then (some false) else (laws_qTerms.l0 k x0 x1 x12 (wrap64 (x13 + 1)))) else (none)) else (none)) else (none)) else (some true)
def laws_qTerms.f (k : Nat) (l0 : List (S72)) (l1 : List (S72)) : Option (Bool) := if (l0.length : Int) = (l1.length : Int) then (laws_qTerms.l0 k l0 l1 (l0.length : Int) 0) else (some false)
theorem laws_qTerms.calls (k : Nat) (A0 : Option Addr) (c0 : Nat) (l0 : List (S72)) (A1 : Option Addr) (c1 : Nat) (l1 : List (S72)) (r : Bool) (w : World) (hr0 : Kd.C k72 w A0 l0.length l0) (hc0 : l0.length ≤ c0) (hr1 : Kd.C k72 w A1 l1.length l1) (hc1 : l1.length ≤ c1) (h : laws_qTerms.f k l0 l1 = some r) :
  Calls Try.prog 59 #[.slice A0 l0.length c0, .slice A1 l1.length c1] w fun e w' => e = .returned (.bool r) ∧ Drawn0 w w' := by
 have hu72 := Try.underlying72
 have HR0 := aM hr0
 have HC0 := aM hc0
 clear hr0 hc0
 have HR1 := aM hr1
 have HC1 := aM hc1
 clear hr1 hc1
 have H : (if (l0.length : Int) = (l1.length : Int) then (laws_qTerms.l0 k l0 l1 (l0.length : Int) 0) else (some false)) = some r := h
 clear h
 by_cases c3 : (l0.length : Int) = (l1.length : Int)
 ·rw [if_pos c3] at H
  have c3b0 : ((l0.length : Int) == (l1.length : Int)) = true := beq_iff_eq.mpr c3; have c3b1 : ((l0.length : Int) != (l1.length : Int)) = false := bne_eq_false_iff_eq.mpr c3; have c3b2 : (l0.length == l1.length) = true := by first | simpa using c3 | (simp at c3 ⊢; omega)
  clear c3; have H' := aM H; clear H
  go_enter Try.func59, Try.ntmps59
  go_wp2
  repeat (go_quiet (fail); try go_wp2)
  go_loopg [13] k (fun kq v13 w' => ∃ (x13_1 : Int), v13 = .int .i64 x13_1 ∧ Aside0 (laws_qTerms.l0 kq l0 l1 (l0.length : Int) x13_1 = some r) ∧ Aside0 (kq ≤ k) ∧ Drawn0 w w')
  case atStart => exact ⟨(0), zd_, H', ⟨Nat.le_refl _⟩, zbb_⟩
  case round =>
   clear H'; (try clear c1); (try clear p2); (try clear c3); (try clear c3b0); (try clear c3b1); (try clear c3b2); obtain ⟨x13_1, rfl, HA, HK1, ⟨m1, rfl⟩⟩ := hrel
   cases gk with
   | zero => exact absurd HA.out (by simp [laws_qTerms.l0])
   | succ k1 =>
    have H := HA.out; clear HA
    simp only [laws_qTerms.l0] at H
    by_cases c4 : x13_1 < (l0.length : Int)
    ·rw [if_pos c4] at H
     have c4b0 : decide (x13_1 < (l0.length : Int)) = true := decide_eq_true c4; clear c4
     by_cases c5 : 0 ≤ x13_1
     ·rw [if_pos c5] at H
      have c5b0 : decide (0 ≤ x13_1) = true := decide_eq_true c5; clear c5
      by_cases c6 : x13_1 < (l0.length : Int)
      ·rw [if_pos c6] at H
       have c6b0 : decide (x13_1 < (l0.length : Int)) = true := decide_eq_true c6; clear c6
       by_cases c7 : x13_1 < (l1.length : Int)
       ·rw [if_pos c7] at H
        have c7b0 : decide (x13_1 < (l1.length : Int)) = true := decide_eq_true c7; clear c7
        by_cases c8 : (!(((rd_T72 l0 x13_1).f0) == ((rd_T72 l1 x13_1).f0)) || (!(((rd_T72 l0 x13_1).f1) == ((rd_T72 l1 x13_1).f1)))) = true
        ·rw [if_pos c8] at H
         have c8b0 : (!(((rd_T72 l0 x13_1).f0) == ((rd_T72 l1 x13_1).f0)) || (!(((rd_T72 l0 x13_1).f1) == ((rd_T72 l1 x13_1).f1)))) = true := c8; clear c8; obtain rfl := Option.some.inj H; have p467 : 0 ≤ (x13_1 : Int) := of_decide_eq_true zb_; have q467 : x13_1 < (l0.length : Int) := of_decide_eq_true zb_; obtain ⟨ad467, e467, hx467_0, hx467_1⟩ := at_T72 HR0.out x13_1 p467 q467
         cases e467
         replace p467 := eq_true p467; replace q467 := eq_true q467; have p468 : 0 ≤ (x13_1 : Int) := of_decide_eq_true zb_; have q468 : x13_1 < (l1.length : Int) := of_decide_eq_true zb_; obtain ⟨ad468, e468, hx468_0, hx468_1⟩ := at_T72 HR1.out x13_1 p468 q468
         cases e468
         replace p468 := eq_true p468; replace q468 := eq_true q468
         go_wp2
         repeat (go_quiet (fail); try go_wp2)
         go_ret
         exact ⟨zd_, zbb_⟩
        ·rw [if_neg c8] at H
         have c8b0 : (!(((rd_T72 l0 x13_1).f0) == ((rd_T72 l1 x13_1).f0)) || (!(((rd_T72 l0 x13_1).f1) == ((rd_T72 l1 x13_1).f1)))) = false := by simpa using c8
         clear c8; have H' := aM H; clear H; have p467 : 0 ≤ (x13_1 : Int) := of_decide_eq_true zb_; have q467 : x13_1 < (l0.length : Int) := of_decide_eq_true zb_; obtain ⟨ad467, e467, hx467_0, hx467_1⟩ := at_T72 HR0.out x13_1 p467 q467
         cases e467
         replace p467 := eq_true p467; replace q467 := eq_true q467; have p468 : 0 ≤ (x13_1 : Int) := of_decide_eq_true zb_; have q468 : x13_1 < (l1.length : Int) := of_decide_eq_true zb_; obtain ⟨ad468, e468, hx468_0, hx468_1⟩ := at_T72 HR1.out x13_1 p468 q468
         cases e468
         replace p468 := eq_true p468; replace q468 := eq_true q468
         go_wp2
         repeat (go_quiet (fail); try go_wp2)
         go_roundg k1
         case measure => have := HK1.out; omega
         case rel => exact ⟨(wrap64 (x13_1 + 1)), zd_, H', ⟨zbc_⟩, zbb_⟩
       ·rw [if_neg c7] at H
        exact absurd H (by simp)
      ·rw [if_neg c6] at H
       exact absurd H (by simp)
     ·rw [if_neg c5] at H
      exact absurd H (by simp)
    ·rw [if_neg c4] at H
     have c4b0 : decide (x13_1 < (l0.length : Int)) = false := decide_eq_false c4; clear c4; obtain rfl := Option.some.inj H
     go_wp2
     repeat (go_quiet (fail); try go_wp2)
     go_ret
     exact ⟨zd_, zbb_⟩
 ·rw [if_neg c3] at H
  have c3b0 : ((l0.length : Int) == (l1.length : Int)) = false := beq_eq_false_iff_ne.mpr c3; have c3b1 : ((l0.length : Int) != (l1.length : Int)) = true := bne_iff_ne.mpr c3; have c3b2 : (l0.length == l1.length) = false := by first | simpa using c3 | (simp at c3 ⊢; omega)
  obtain rfl := Option.some.inj H
  go_enter Try.func59, Try.ntmps59
  go_wp2
  repeat (go_quiet (fail); try go_wp2)
  go_ret
  exact ⟨zd_, zbb_⟩
end Go.Proofs.Ytbkighlfgaifeaa.QFnPrimes
