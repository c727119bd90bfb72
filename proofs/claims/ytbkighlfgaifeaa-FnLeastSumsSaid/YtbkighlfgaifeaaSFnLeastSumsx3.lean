/- Functions of FnLeastSums, each as a Lean function, with the proof that the Go code comes to its answers. -/
import Derived.Test.YtbkighlfgaifeaaSFnLeastSumsx0
import Derived.Test.YtbkighlfgaifeaaSFnLeastSumsx2
namespace Go.Proofs.Ytbkighlfgaifeaa.QFnLeastSums
open Go.RowKit Go.Proofs.YtbkighlfgaifeaaW.PrintWords Go.Proofs.YtbkighlfgaifeaaW.PrintLast Go.Proofs.YtbkighlfgaifeaaW.PrintMore
open Go.Proofs.YtbkighlfgaifeaaW.PrintWords renaming pw_below_drewN → pN, below_drew1 → p1, below_alloc → pA
open Go.Proofs.YtbkighlfgaifeaaW.PrintWords.Kd renaming R_alloc → kA, R_drewN → kN, R_drew → kD, Q_alloc → qA, Q_drewN → qN, Q_drew → qD, C_alloc → cA, C_drewN → cN, C_drew → cD
open Go.Proofs.YtbkighlfgaifeaaW.PrintWords.Aside0 renaming mk → aM
open List renaming setIfInBounds_toArray → sI, set_cons_zero → s0, set_cons_succ → sS, map_toArray → mT, length_take → lT, length_drop → lD, map_cons → mC, map_nil → mN
open Option renaming bind_eq_some_iff → oB, bind_some → oS
attribute [local go_sem] max2_int min2_int max_two min_two max_three min_three max_four min_four
set_option maxHeartbeats 8000000
set_option maxRecDepth 100000
set_option linter.unusedVariables false
set_option linter.unusedSimpArgs false
mutual
def spec_nfPrimes.l0 : Nat → List (S72) → Int → Int → List Int → Option ((List (S72)))
 | 0, _, _, _, _ => none
 | k + 1, x3, x4, x121000, x121001 => if 0 ≤ (IntKind.u64.wrap (x121000)) then (if x4 < (shl .i64 1 (IntKind.u64.wrap (x121000))) then (spec_nfPrimes.l1 k x3 x4 0 x121000 x121001) else (some x3)) else (none)
def spec_nfPrimes.l1 : Nat → List (S72) → Int → Int → Int → List Int → Option ((List (S72)))
 | 0, _, _, _, _, _ => none
 | k + 1, x3, x4, x5, x121000, x121001 => if x5 ≤ x4 then (if (Go.bits .and .i64 x5 x4) = x5 then ((spec_nfImplies.f k x121000 x121001 x4 x5).bind fun t122 => (spec_nfPrimes.j2 k x3 x4 x5 (!t122) x121000 x121001 x4 x5)) else (spec_nfPrimes.j2 k x3 x4 x5 true x121000 x121001 x4 x5)) else (spec_nfPrimes.l0 k x3 (wrap64 (x4 + 1)) x121000 x121001)
def spec_nfPrimes.j2 : Nat → List (S72) → Int → Int → Bool → Int → List Int → Int → Int → Option ((List (S72)))
 | 0, _, _, _, _, _, _, _, _ => none
 | k + 1, x3, x4, x5, x36, x121000, x121001, x122000, x122001 => if x36 = true then (spec_nfPrimes.l1 k x3 x4 (wrap64 (x5 + 1)) x121000 x121001) else (spec_nfPrimes.l2 k x3 x4 x5 true 0 x121000 x121001 x122000 x122001)
def spec_nfPrimes.l2 : Nat → List (S72) → Int → Int → Bool → Int → Int → List Int → Int → Int → Option ((List (S72)))
 | 0, _, _, _, _, _, _, _, _, _ => none
 | k + 1, x3, x4, x5, x7, x8, x121000, x121001, x122000, x122001 => if x8 < x121000 then (if 0 ≤ (IntKind.u64.wrap (x8)) then (if (Go.bits .and .i64 x4 (shl .i64 1 (IntKind.u64.wrap (x8)))) = 0 then (spec_nfPrimes.l2 k x3 x4 x5 x7 (wrap64 (x8 + 1)) x121000 x121001 x122000 x122001) else ((spec_nfImplies.f k x121000 x121001 (wrap64 (x4 - (shl .i64 1 (IntKind.u64.wrap (x8))))) (wrap64 (x5 - (Go.bits .and .i64 x5 (shl .i64 1 (IntKind.u64.wrap (x8))))))).bind fun t123 => (if t123 = true then (spec_nfPrimes.l2 k x3 x4 x5 false (wrap64 (x8 + 1)) x121000 x121001 x122000 x122001) else (spec_nfPrimes.l2 k x3 x4 x5 x7 (wrap64 (x8 + 1)) x121000 x121001 x122000 x122001)))) else (none)) else (if x7 = true then (if x3.length < 8796093022208 then (spec_nfPrimes.l1 k (x3 ++ [(⟨x122000, x122001⟩ : S72)]) x4 (wrap64 (x5 + 1)) x121000 x121001) else (none)) else (spec_nfPrimes.l1 k x3 x4 (wrap64 (x5 + 1)) x121000 x121001))
end
def spec_nfPrimes.f (k : Nat) (a0_0 : Int) (l0_1 : List Int) : Option ((List (S72))) := spec_nfPrimes.l0 k ([] : List (S72)) 0 a0_0 l0_1
theorem spec_nfPrimes.calls (k : Nat) (a0_0 : Int) (A0_1 : Option Addr) (c0_1 : Nat) (l0_1 : List Int) (r : List (S72)) (w : World) (hr0_1 : Kd.C (Kd.int .i64) w A0_1 l0_1.length l0_1) (hc0_1 : l0_1.length ≤ c0_1) (h : spec_nfPrimes.f k a0_0 l0_1 = some r) :
  Calls Try.prog 132 #[.agg #[.int .i64 a0_0, .slice A0_1 l0_1.length c0_1]] w fun e w' => ∃ v0_ : Value, e = .returned (v0_) ∧ Kd.R k72 72 w' w.heap.size (fun _ => True) v0_ r ∧ Below w.heap.size w w' := by
 have hu60 := Try.underlying60
 have hu72 := Try.underlying72
 have HR0_1 := aM hr0_1
 have HC0_1 := aM hc0_1
 clear hr0_1 hc0_1
 have HB := aM (Below.refl w.heap.size w)
 have H : (spec_nfPrimes.l0 k ([] : List (S72)) 0 a0_0 l0_1) = some r := h
 clear h
 have H' := aM H
 clear H
 go_enter Try.func132, Try.ntmps132
 go_wp2_with (first | ((with_reducible refine gate_dst (N := 1) rfl ?_); refine box_event ?hg (N := 1) ?hd (cs := #[.int .i64 a0_0, .slice A0_1 l0_1.length c0_1]) (t := 60) ?hr ?_; (case hd => rfl); (case hg => rfl); (case hr => exact zc_); intro gb120 hg w2 hbox hb; have n_ := z (below_step za_ hb) <| z (hbox) <| z ((by rw [hg]; exact (below_size za_) : w.heap.size ≤ gb120)) <| z1 ((by rw [hg]; exact (below_size za_) : w.heap.size ≤ gb120)); clear HB; obtain ⟨HB, BK120, GW120, GE120⟩ := n_; clear hb hbox hg))
 go_loopg [3, 4] k (fun kq v3 v4 w' => ∃ (x3_1 : List (S72)) (x4_1 : Int), v4 = .int .i64 x4_1 ∧ Aside0 (spec_nfPrimes.l0 kq x3_1 x4_1 a0_0 l0_1 = some r) ∧ Aside0 (kq ≤ k) ∧ Aside0 (Kd.R k72 72 w' w.heap.size (fun _ => True) v3 x3_1) ∧ Aside0 (w'.heap[gb120]? = some (.cells #[.int .i64 a0_0, (.slice A0_1 l0_1.length c0_1)] 60 (0, 0))) ∧ Aside0 (Below w.heap.size w w'))
 case atStart => exact ⟨(([] : List (S72))), (0), zb_, H', ⟨Nat.le_refl _⟩, ⟨zbi_⟩, ⟨zb BK120.out⟩, ⟨zfd_⟩⟩
 case round =>
  clear H'; obtain ⟨x3_1, x4_1, rfl, HA, HK1, HO_3, BK120, HB⟩ := hrel
  cases gk with
  | zero => exact absurd HA.out (by simp [spec_nfPrimes.l0])
  | succ k1 =>
   have H := HA.out; clear HA
   simp only [spec_nfPrimes.l0] at H
   obtain ⟨ji3, hji3⟩ : ∃ j_ : Int, (IntKind.u64.wrap (a0_0)) = j_ := ⟨_, rfl⟩; replace H : (if 0 ≤ (ji3) then (if x4_1 < (shl .i64 1 (ji3)) then (spec_nfPrimes.l1 k1 x3_1 x4_1 0 a0_0 l0_1) else (some x3_1)) else (none)) = some r := by first | (rw [hji3] at H; exact H) | (simp only [hji3] at H ⊢; exact H)
   by_cases c4 : 0 ≤ (ji3)
   ·rw [if_pos c4] at H
    have c4b0 := eq_true c4; have c4b1 := decide_eq_true c4; clear c4; obtain ⟨ji5, hji5⟩ : ∃ j_ : Int, (shl .i64 1 (ji3)) = j_ := ⟨_, rfl⟩; replace H : (if x4_1 < (ji5) then (spec_nfPrimes.l1 k1 x3_1 x4_1 0 a0_0 l0_1) else (some x3_1)) = some r := by first | (rw [hji5] at H; exact H) | (simp only [hji5] at H ⊢; exact H)
    have hji5_ : (IntKind.i64.wrap (1 * 2 ^ min (ji3).toNat 64)) = ji5 := hji5; have hji5z : (ji3) ≤ 64 → (IntKind.i64.wrap (1 * 2 ^ (ji3).toNat)) = ji5 := shl_small hji5; have hji5u : (IntKind.i64.wrap (2 ^ min (ji3).toNat 64)) = ji5 := by have h_ := hji5_; rw [Int.one_mul] at h_; exact h_
    have hji5v : (ji3) ≤ 64 → (IntKind.i64.wrap (2 ^ (ji3).toNat)) = ji5 := fun hle_ => by have h_ := hji5z hle_; rw [Int.one_mul] at h_; exact h_
    have hji5y : (wrap64 (1 * 2 ^ min (ji3).toNat 64)) = ji5 := (i64_w _).symm.trans hji5_; have hji5x : (ji3) ≤ 64 → (wrap64 (1 * 2 ^ (ji3).toNat)) = ji5 := fun h_ => (i64_w _).symm.trans (hji5z h_)
    by_cases c6 : x4_1 < (ji5)
    ·rw [if_pos c6] at H
     have c6b0 := decide_eq_true c6; clear c6; have H' := aM H; clear H; have hcz7_0 : wr.cell? ⟨gb120, 0, none⟩ = some (.int .i64 a0_0) := (blk_cell BK120.out 0).trans rfl; have hcz7_1 : wr.cell? ⟨gb120, 1, none⟩ = some (.slice A0_1 l0_1.length c0_1) := (blk_cell BK120.out 1).trans rfl; have hfz7_0 := blk_frozen BK120.out 0; have hfz7_1 := blk_frozen BK120.out 1
     go_wp2
     go_loopg [3, 5] k1 (fun kq v3 v5 w' => ∃ (x3_2 : List (S72)) (x5_2 : Int), v5 = .int .i64 x5_2 ∧ Aside0 (spec_nfPrimes.l1 kq x3_2 x4_1 x5_2 a0_0 l0_1 = some r) ∧ Aside0 (kq ≤ k1) ∧ Aside0 (Kd.R k72 72 w' w.heap.size (fun _ => True) v3 x3_2) ∧ Aside0 (w'.heap[gb120]? = some (.cells #[.int .i64 a0_0, (.slice A0_1 l0_1.length c0_1)] 60 (0, 0))) ∧ Aside0 (Below w.heap.size w w'))
     case atStart => exact ⟨(x3_1), (0), zb_, H', ⟨Nat.le_refl _⟩, ⟨zr HO_3.out⟩, ⟨zb BK120.out⟩, ⟨zfd_⟩⟩
     case round =>
      clear H'; (try clear c4b0); (try clear c4b1); (try clear c6b0); (try clear hcz7_0); (try clear hcz7_1); (try clear hfz7_0); (try clear hfz7_1); obtain ⟨x3_2, x5_2, rfl, HA, HK2, HO_3, BK120, HB⟩ := hrel
      cases gk with
      | zero => exact absurd HA.out (by simp [spec_nfPrimes.l1])
      | succ k2 =>
       have H := HA.out; clear HA
       simp only [spec_nfPrimes.l1] at H
       by_cases c8 : x5_2 ≤ x4_1
       ·rw [if_pos c8] at H
        have c8b0 := decide_eq_true c8; clear c8; have HC9 := aM H; clear H
        go_upto_region 9 with (first | ((with_reducible refine gate_dst (N := 6) rfl ?_); refine box_event ?hg (N := 6) ?hd (cs := #[.int .i64 0, .int .i64 0]) (t := 72) ?hr ?_; (case hd => rfl); (case hg => rfl); (case hr => exact zc_); intro gb121 hg w10 hbox hb; have n_ := z (Kd.R_below (Kd.R_elderB (zr HO_3.out) gb121 (Nat.le_of_eq hg.symm)) hb) <| z (blk_below (zb BK120.out) hb) <| z (below_step zfd_ hb) <| z (hbox) <| z ((by rw [hg]; exact (below_size zfd_) : w.heap.size ≤ gb121)) <| z ((by rw [hg]; exact (below_size zfd_) : w.heap.size ≤ gb121)) <| z ((by rw [hg]; exact Nat.ne_of_lt (blk_lt (zb BK120.out)) : gb120 ≠ gb121)) <| z1 ((by rw [hg]; exact Nat.ne_of_gt (blk_lt (zb BK120.out)) : gb121 ≠ gb120)); clear HO_3 BK120 HB; obtain ⟨HO_3, BK120, HB, BK121, GW121, GE121, NB120_121, NB121_120⟩ := n_; clear hb hbox hg; have hnb11 := NB121_120.out; have hnc11 := NB120_121.out; have hcz12_0 : w10.cell? ⟨gb121, 0, none⟩ = some (.int .i64 0) := (blk_cell BK121.out 0).trans rfl; have hcz12_1 : w10.cell? ⟨gb121, 1, none⟩ = some (.int .i64 0) := (blk_cell BK121.out 1).trans rfl; have hfz12_0 := blk_frozen BK121.out 0; have hfz12_1 := blk_frozen BK121.out 1))
        (try simp only [Act.put, sI, s0, sS])
        go_cut [36] (fun v36 wc => ∃ (kq : Nat) (x36_8 : Bool), v36 = .bool x36_8 ∧ Aside0 (spec_nfPrimes.j2 kq x3_2 x4_1 x5_2 x36_8 a0_0 l0_1 x4_1 x5_2 = some r) ∧ Aside0 (kq ≤ k2) ∧ Aside0 (Kd.R k72 72 wc w.heap.size (fun k_ => k_ ≠ gb121) u3 x3_2) ∧ Aside0 (wc.heap[gb120]? = some (.cells #[.int .i64 a0_0, (.slice A0_1 l0_1.length c0_1)] 60 (0, 0))) ∧ Aside0 (wc.heap[gb121]? = some (.cells #[.int .i64 x4_1, .int .i64 x5_2] 72 (0, 0))) ∧ Aside0 (Below w.heap.size w wc))
        case first =>
         have H := HC9.out; clear HC9
         by_cases c13 : (Go.bits .and .i64 x5_2 x4_1) = x5_2
         ·rw [if_pos c13] at H
          have c13b0 := beq_iff_eq.mpr c13; have c13b1 := bne_eq_false_iff_eq.mpr c13; clear c13; (first | rw [c13b0] | (simp only [i64_w, i32_w]; rw [c13b0]) | skip); replace H := oB.mp H; obtain ⟨t122, A140, H⟩ := H; replace H : (spec_nfPrimes.j2 k2 x3_2 x4_1 x5_2 (!t122) a0_0 l0_1 x4_1 x5_2) = some r := H; have A14 := aM A140; clear A140; have H' := aM H; clear H; have hnb15 := NB120_121.out; have hnc15 := NB121_120.out; have hcz16_0 : w10.cell? ⟨gb120, 0, none⟩ = some (.int .i64 a0_0) := (blk_cell BK120.out 0).trans rfl; have hcz16_1 : w10.cell? ⟨gb120, 1, none⟩ = some (.slice A0_1 l0_1.length c0_1) := (blk_cell BK120.out 1).trans rfl; have hfz16_0 := blk_frozen BK120.out 0; have hfz16_1 := blk_frozen BK120.out 1; have hcz17_0 : w10.cell? ⟨gb121, 0, none⟩ = some (.int .i64 0) := (blk_cell BK121.out 0).trans rfl; have hcz17_1 : w10.cell? ⟨gb121, 1, none⟩ = some (.int .i64 0) := (blk_cell BK121.out 1).trans rfl; have hfz17_0 := blk_frozen BK121.out 0; have hfz17_1 := blk_frozen BK121.out 1
          go_wp2_with (first | (go_at_call 141; (with_reducible refine (spec_nfImplies.calls k2 a0_0 _ _ l0_1 x4_1 x5_2 t122 _ ?side1 ?side2 A14.out).mono ?_); (case side1 => exact Kd.C_below HR0_1.out zdb_); (case side2 => exact HC0_1.out); rintro e w18 ⟨rfl, hb⟩; have n_ := z (Kd.R_below (by refine zr ?_; exact (Kd.R_mono (Kd.R_far (p := ⟨gb121, 1, none⟩) (Kd.R_far (p := ⟨gb121, 0, none⟩) (Kd.R_mono HO_3.out (fun k_ hk => (⟨hk, hk.2⟩ : _ ∧ k_ ≠ gb121))) (fun _ hk => hk.2) (.int .i64 x4_1)) (fun _ hk => hk.2) (.int .i64 x5_2)) (fun _ h_ => h_.1))) hb) <| z (blk_below (g := gb120) (o := .cells #[.int .i64 a0_0, .slice A0_1 l0_1.length c0_1] 60 (0, 0)) (by refine zb ?_; refine blk_far ?_ NB120_121.out _; refine zb ?_; refine blk_far ?_ NB120_121.out _; refine zb ?_; exact BK120.out) hb) <| z (blk_below (g := gb121) (o := .cells #[.int .i64 x4_1, .int .i64 x5_2] 72 (0, 0)) (by refine zb ?_; refine blk_put (cs := #[.int .i64 x4_1, .int .i64 0]) ?_ 1 _ rfl; refine zb ?_; refine blk_put (cs := #[.int .i64 0, .int .i64 0]) ?_ 0 _ rfl; refine zb ?_; exact BK121.out) hb) <| z1 (below_step zdb_ hb); clear HO_3 BK120 BK121 HB; obtain ⟨HO_3, BK120, BK121, HB⟩ := n_; clear hb; (try clear hk)))
          go_meet
          case rel => exact ⟨_, (!t122), zb_, H', ⟨zjb_⟩, ⟨by refine zr ?_; exact Kd.R_mono HO_3.out (fun _ hk => hk.2)⟩, ⟨zb BK120.out⟩, ⟨zb BK121.out⟩, ⟨zdb_⟩⟩
         ·rw [if_neg c13] at H
          have c13b0 := beq_eq_false_iff_ne.mpr c13; have c13b1 := bne_iff_ne.mpr c13; (first | rw [c13b0] | (simp only [i64_w, i32_w]; rw [c13b0]) | skip); have H' := aM H; clear H
          go_wp2
          go_meet
          case rel => exact ⟨_, (true), zb_, H', ⟨zjb_⟩, ⟨by refine zr ?_; exact Kd.R_mono (Kd.R_far (p := ⟨gb121, 1, none⟩) (Kd.R_far (p := ⟨gb121, 0, none⟩) (Kd.R_mono HO_3.out (fun k_ hk => (⟨hk, hk.2⟩ : _ ∧ k_ ≠ gb121))) (fun _ hk => hk.2) (.int .i64 x4_1)) (fun _ hk => hk.2) (.int .i64 x5_2)) (fun _ hk => hk.1.2)⟩, ⟨by refine zb ?_; refine blk_far ?_ NB120_121.out _; refine zb ?_; refine blk_far ?_ NB120_121.out _; refine zb ?_; exact BK120.out⟩, ⟨by refine zb ?_; refine blk_put (cs := #[.int .i64 x4_1, .int .i64 0]) ?_ 1 _ rfl; refine zb ?_; refine blk_put (cs := #[.int .i64 0, .int .i64 0]) ?_ 0 _ rfl; refine zb ?_; exact BK121.out⟩, ⟨zdb_⟩⟩
        case rest =>
         clear HC9; (try clear c8b0); (try clear hcz12_0); (try clear hcz12_1); (try clear hfz12_0); (try clear hfz12_1); obtain ⟨kq, x36_8, rfl, HA, HJ8, HO_3, BK120, BK121, HB⟩ := hcut
         cases kq with
         | zero => exact absurd HA.out (by simp [spec_nfPrimes.j2])
         | succ kj8 =>
          have H := HA.out; clear HA
          simp only [spec_nfPrimes.j2] at H
          by_cases c19 : x36_8 = true
          ·subst c19
           have H1 : (spec_nfPrimes.l1 kj8 x3_2 x4_1 (wrap64 (x5_2 + 1)) a0_0 l0_1) = some r := by rw [if_pos rfl] at H; exact H
           clear H; have H := H1; clear H1; have H' := aM H; clear H
           go_wp2
           go_roundg kj8
           case measure => have := HK1.out; have := HK2.out; have := HJ8.out; omega
           case rel => exact ⟨(x3_2), (wrap64 (x5_2 + 1)), zb_, H', ⟨by have := HK1.out; have := HK2.out; have := HJ8.out; omega⟩, ⟨zjc_⟩, ⟨zb BK120.out⟩, ⟨zdb_⟩⟩
          ·replace c19 := Bool.eq_false_iff.mpr c19
           subst c19; have H1 : (spec_nfPrimes.l2 kj8 x3_2 x4_1 x5_2 true 0 a0_0 l0_1 x4_1 x5_2) = some r := by rw [if_neg (show ¬ (false = true) by decide)] at H; exact H
           clear H; have H := H1; clear H1; have H' := aM H; clear H
           go_wp2
           go_loopg [7, 8] kj8 (fun kq v7 v8 w' => ∃ (x7_4 : Bool) (x8_4 : Int), v7 = .bool x7_4 ∧ v8 = .int .i64 x8_4 ∧ Aside0 (spec_nfPrimes.l2 kq x3_2 x4_1 x5_2 x7_4 x8_4 a0_0 l0_1 x4_1 x5_2 = some r) ∧ Aside0 (kq ≤ kj8) ∧ Aside0 (Kd.R k72 72 w' w.heap.size (fun k_ => k_ ≠ gb121) u3 x3_2) ∧ Aside0 (w'.heap[gb120]? = some (.cells #[.int .i64 a0_0, (.slice A0_1 l0_1.length c0_1)] 60 (0, 0))) ∧ Aside0 (w'.heap[gb121]? = some (.cells #[.int .i64 x4_1, .int .i64 x5_2] 72 (0, 0))) ∧ Aside0 (Below w.heap.size w w'))
           case atStart => exact ⟨(true), (0), zb_, zb_, H', ⟨Nat.le_refl _⟩, ⟨zr HO_3.out⟩, ⟨zb BK120.out⟩, ⟨zb BK121.out⟩, ⟨zdb_⟩⟩
           case round =>
            clear H'; obtain ⟨x7_4, x8_4, rfl, rfl, HA, HK4, HO_3, BK120, BK121, HB⟩ := hrel
            cases gk with
            | zero => exact absurd HA.out (by simp [spec_nfPrimes.l2])
            | succ k4 =>
             have H := HA.out; clear HA
             simp only [spec_nfPrimes.l2] at H
             by_cases c20 : x8_4 < a0_0
             ·rw [if_pos c20] at H
              have c20b0 := decide_eq_true c20; clear c20; obtain ⟨ji21, hji21⟩ : ∃ j_ : Int, (IntKind.u64.wrap (x8_4)) = j_ := ⟨_, rfl⟩; replace H : (if 0 ≤ (ji21) then (if (Go.bits .and .i64 x4_1 (shl .i64 1 (ji21))) = 0 then (spec_nfPrimes.l2 k4 x3_2 x4_1 x5_2 x7_4 (wrap64 (x8_4 + 1)) a0_0 l0_1 x4_1 x5_2) else ((spec_nfImplies.f k4 a0_0 l0_1 (wrap64 (x4_1 - (shl .i64 1 (ji21)))) (wrap64 (x5_2 - (Go.bits .and .i64 x5_2 (shl .i64 1 (ji21)))))).bind fun t123 => (if t123 = true then (spec_nfPrimes.l2 k4 x3_2 x4_1 x5_2 false (wrap64 (x8_4 + 1)) a0_0 l0_1 x4_1 x5_2) else (spec_nfPrimes.l2 k4 x3_2 x4_1 x5_2 x7_4 (wrap64 (x8_4 + 1)) a0_0 l0_1 x4_1 x5_2)))) else (none)) = some r := by first | (rw [hji21] at H; exact H) | (simp only [hji21] at H ⊢; exact H)
              by_cases c22 : 0 ≤ (ji21)
              ·rw [if_pos c22] at H
               have c22b0 := eq_true c22; have c22b1 := decide_eq_true c22; clear c22; obtain ⟨ji23, hji23⟩ : ∃ j_ : Int, (shl .i64 1 (ji21)) = j_ := ⟨_, rfl⟩; replace H : (if (Go.bits .and .i64 x4_1 (ji23)) = 0 then (spec_nfPrimes.l2 k4 x3_2 x4_1 x5_2 x7_4 (wrap64 (x8_4 + 1)) a0_0 l0_1 x4_1 x5_2) else ((spec_nfImplies.f k4 a0_0 l0_1 (wrap64 (x4_1 - (ji23))) (wrap64 (x5_2 - (Go.bits .and .i64 x5_2 (ji23))))).bind fun t123 => (if t123 = true then (spec_nfPrimes.l2 k4 x3_2 x4_1 x5_2 false (wrap64 (x8_4 + 1)) a0_0 l0_1 x4_1 x5_2) else (spec_nfPrimes.l2 k4 x3_2 x4_1 x5_2 x7_4 (wrap64 (x8_4 + 1)) a0_0 l0_1 x4_1 x5_2)))) = some r := by first | (rw [hji23] at H; exact H) | (simp only [hji23] at H ⊢; exact H)
               have hji23_ : (IntKind.i64.wrap (1 * 2 ^ min (ji21).toNat 64)) = ji23 := hji23; have hji23z : (ji21) ≤ 64 → (IntKind.i64.wrap (1 * 2 ^ (ji21).toNat)) = ji23 := shl_small hji23; have hji23u : (IntKind.i64.wrap (2 ^ min (ji21).toNat 64)) = ji23 := by have h_ := hji23_; rw [Int.one_mul] at h_; exact h_
               have hji23v : (ji21) ≤ 64 → (IntKind.i64.wrap (2 ^ (ji21).toNat)) = ji23 := fun hle_ => by have h_ := hji23z hle_; rw [Int.one_mul] at h_; exact h_
               have hji23y : (wrap64 (1 * 2 ^ min (ji21).toNat 64)) = ji23 := (i64_w _).symm.trans hji23_; have hji23x : (ji21) ≤ 64 → (wrap64 (1 * 2 ^ (ji21).toNat)) = ji23 := fun h_ => (i64_w _).symm.trans (hji23z h_)
               by_cases c24 : (Go.bits .and .i64 x4_1 (ji23)) = 0
               ·rw [if_pos c24] at H
                have c24b0 := beq_iff_eq.mpr c24; have c24b1 := bne_eq_false_iff_eq.mpr c24; clear c24; have H' := aM H; clear H; have hnb25 := NB120_121.out; have hnc25 := NB121_120.out; have hcz26_0 : wr.cell? ⟨gb120, 0, none⟩ = some (.int .i64 a0_0) := (blk_cell BK120.out 0).trans rfl; have hcz26_1 : wr.cell? ⟨gb120, 1, none⟩ = some (.slice A0_1 l0_1.length c0_1) := (blk_cell BK120.out 1).trans rfl; have hfz26_0 := blk_frozen BK120.out 0; have hfz26_1 := blk_frozen BK120.out 1
                go_wp2
                go_roundg k4
                case measure => have := HK1.out; have := HK2.out; have := HJ8.out; have := HK4.out; omega
                case rel => exact ⟨(x7_4), (wrap64 (x8_4 + 1)), zb_, zb_, H', ⟨zhi_⟩, ⟨zr HO_3.out⟩, ⟨zb BK120.out⟩, ⟨zb BK121.out⟩, ⟨zdb_⟩⟩
               ·rw [if_neg c24] at H
                have c24b0 := beq_eq_false_iff_ne.mpr c24; have c24b1 := bne_iff_ne.mpr c24; replace H := oB.mp H; obtain ⟨t123, A270, H⟩ := H; replace H : (if t123 = true then (spec_nfPrimes.l2 k4 x3_2 x4_1 x5_2 false (wrap64 (x8_4 + 1)) a0_0 l0_1 x4_1 x5_2) else (spec_nfPrimes.l2 k4 x3_2 x4_1 x5_2 x7_4 (wrap64 (x8_4 + 1)) a0_0 l0_1 x4_1 x5_2)) = some r := H; have A27 := aM A270; clear A270
                by_cases c28 : t123 = true
                ·subst c28
                 have H1 : (spec_nfPrimes.l2 k4 x3_2 x4_1 x5_2 false (wrap64 (x8_4 + 1)) a0_0 l0_1 x4_1 x5_2) = some r := by rw [if_pos rfl] at H; exact H
                 clear H; have H := H1; clear H1; have H' := aM H; clear H; have hnb29 := NB120_121.out; have hnc29 := NB121_120.out; have hcz30_0 : wr.cell? ⟨gb120, 0, none⟩ = some (.int .i64 a0_0) := (blk_cell BK120.out 0).trans rfl; have hcz30_1 : wr.cell? ⟨gb120, 1, none⟩ = some (.slice A0_1 l0_1.length c0_1) := (blk_cell BK120.out 1).trans rfl; have hfz30_0 := blk_frozen BK120.out 0; have hfz30_1 := blk_frozen BK120.out 1
                 go_wp2_with (first | (go_at_call 141; (with_reducible refine (spec_nfImplies.calls k4 a0_0 _ _ l0_1 (wrap64 (x4_1 - (ji23))) (wrap64 (x5_2 - (Go.bits .and .i64 x5_2 (ji23)))) true _ ?side1 ?side2 A27.out).mono ?_); (case side1 => exact zi_); (case side2 => exact HC0_1.out); rintro e w31 ⟨rfl, hb⟩; have n_ := z (Kd.R_below (zr HO_3.out) hb) <| z (blk_below (zb BK120.out) hb) <| z (blk_below (zb BK121.out) hb) <| z1 (below_step zdb_ hb); clear HO_3 BK120 BK121 HB; obtain ⟨HO_3, BK120, BK121, HB⟩ := n_; clear hb))
                 go_roundg k4
                 case measure => have := HK1.out; have := HK2.out; have := HJ8.out; have := HK4.out; omega
                 case rel => exact ⟨(false), (wrap64 (x8_4 + 1)), zb_, zb_, H', ⟨zhi_⟩, ⟨zr HO_3.out⟩, ⟨zb BK120.out⟩, ⟨zb BK121.out⟩, ⟨zdb_⟩⟩
                ·replace c28 := Bool.eq_false_iff.mpr c28
                 subst c28; have H1 : (spec_nfPrimes.l2 k4 x3_2 x4_1 x5_2 x7_4 (wrap64 (x8_4 + 1)) a0_0 l0_1 x4_1 x5_2) = some r := by rw [if_neg (show ¬ (false = true) by decide)] at H; exact H
                 clear H; have H := H1; clear H1; have H' := aM H; clear H; have hnb32 := NB120_121.out; have hnc32 := NB121_120.out; have hcz33_0 : wr.cell? ⟨gb120, 0, none⟩ = some (.int .i64 a0_0) := (blk_cell BK120.out 0).trans rfl; have hcz33_1 : wr.cell? ⟨gb120, 1, none⟩ = some (.slice A0_1 l0_1.length c0_1) := (blk_cell BK120.out 1).trans rfl; have hfz33_0 := blk_frozen BK120.out 0; have hfz33_1 := blk_frozen BK120.out 1
                 go_wp2_with (first | (go_at_call 141; (with_reducible refine (spec_nfImplies.calls k4 a0_0 _ _ l0_1 (wrap64 (x4_1 - (ji23))) (wrap64 (x5_2 - (Go.bits .and .i64 x5_2 (ji23)))) false _ ?side1 ?side2 A27.out).mono ?_); (case side1 => exact zi_); (case side2 => exact HC0_1.out); rintro e w34 ⟨rfl, hb⟩; have n_ := z (Kd.R_below (zr HO_3.out) hb) <| z (blk_below (zb BK120.out) hb) <| z (blk_below (zb BK121.out) hb) <| z1 (below_step zdb_ hb); clear HO_3 BK120 BK121 HB; obtain ⟨HO_3, BK120, BK121, HB⟩ := n_; clear hb))
                 go_roundg k4
                 case measure => have := HK1.out; have := HK2.out; have := HJ8.out; have := HK4.out; omega
                 case rel => exact ⟨(x7_4), (wrap64 (x8_4 + 1)), zb_, zb_, H', ⟨zhi_⟩, ⟨zr HO_3.out⟩, ⟨zb BK120.out⟩, ⟨zb BK121.out⟩, ⟨zdb_⟩⟩
              ·rw [if_neg c22] at H
               exact absurd H (by simp)
             ·rw [if_neg c20] at H
              have c20b0 := decide_eq_false c20; clear c20
              by_cases c35 : x7_4 = true
              ·subst c35
               have H1 : (if x3_2.length < 8796093022208 then (spec_nfPrimes.l1 k4 (x3_2 ++ [(⟨x4_1, x5_2⟩ : S72)]) x4_1 (wrap64 (x5_2 + 1)) a0_0 l0_1) else (none)) = some r := by rw [if_pos rfl] at H; exact H
               clear H; have H := H1; clear H1
               by_cases c36 : x3_2.length < 8796093022208
               ·rw [if_pos c36] at H
                have LMc36 := aM c36; clear c36; obtain ⟨y124, hy124⟩ : ∃ y_ : List (S72), y_ = (x3_2 ++ [(⟨x4_1, x5_2⟩ : S72)]) := ⟨_, rfl⟩; replace H : (spec_nfPrimes.l1 k4 y124 x4_1 (wrap64 (x5_2 + 1)) a0_0 l0_1) = some r := by first | (rw [hy124]; with_reducible exact H) | (have H2_ := (oS _ _).symm.trans H; rw [hy124]; with_reducible exact H2_) | (have H2_ := (oS _ _).symm.trans H; with_reducible exact H2_) | with_reducible exact H | (rw [hy124]; exact H) | exact H
                have Ny124 := aM hy124; clear hy124; have H' := aM H; clear H; have hnb37 := NB120_121.out; have hnc37 := NB121_120.out; have hcz38_0 : wr.cell? ⟨gb120, 0, none⟩ = some (.int .i64 a0_0) := (blk_cell BK120.out 0).trans rfl; have hcz38_1 : wr.cell? ⟨gb120, 1, none⟩ = some (.slice A0_1 l0_1.length c0_1) := (blk_cell BK120.out 1).trans rfl; have hfz38_0 := blk_frozen BK120.out 0; have hfz38_1 := blk_frozen BK120.out 1; have hcz39_0 : wr.cell? ⟨gb121, 0, none⟩ = some (.int .i64 x4_1) := (blk_cell BK121.out 0).trans rfl; have hcz39_1 : wr.cell? ⟨gb121, 1, none⟩ = some (.int .i64 x5_2) := (blk_cell BK121.out 1).trans rfl; have hfz39_0 := blk_frozen BK121.out 0; have hfz39_1 := blk_frozen BK121.out 1
                go_wp2_with (first | ((with_reducible refine gate_builtin (b := .append) (xs := #[.tmp 64, .tmp 66]) rfl ?_); at_builtin; refine Kd.R_append k72 (w0 := w) w.heap.size rfl (.tmp 64) (.tmp 66) 68 72 (.agg #[(.int .i64 0), (.int .i64 0)]) 16 rfl Try.underlying68 info72 rfl (by decide) (by omega) u3 x3_2 (⟨x4_1, x5_2⟩ : S72) [.int .i64 x4_1, .int .i64 x5_2] (fun k_ => k_ ≠ gb121) (fun _ => False) rfl rfl ?aP (fun _ hk => hk.elim) ?aF ?aO ?aB ?aS ?aL ?_; (case aP => exact k72_mkM _ _ _ (⟨x4_1, x5_2⟩ : S72)); (case aB => exact zdb_); (case aF => exact (fun k_ hk => Kd.freshB (g := gb121) (o := .cells #[.int .i64 x4_1, .int .i64 x5_2] 72 (0, 0)) (zb BK121.out) k_ hk)); (case aO => exact (zr HO_3.out)); (case aS => exact (below_size zdb_)); (case aL => have := LMc36.out; omega); intro v125 w40 ho hb hg hat; rw [← Ny124.out] at ho; have n_ := z (blk_grown (g := gb120) (o := .cells #[.int .i64 a0_0, .slice A0_1 l0_1.length c0_1] 60 (0, 0)) (zb BK120.out) hg (Kd.R_ne HO_3.out BK120.out (by decide))) <| z (blk_grown (g := gb121) (o := .cells #[.int .i64 x4_1, .int .i64 x5_2] 72 (0, 0)) (zb BK121.out) hg (Kd.R_away HO_3.out (fun _ hk => hk))) <| z (hb) <| z1 (ho); clear BK120 BK121 HB HO_3; obtain ⟨BK120, BK121, HB, HO126⟩ := n_; clear ho hb hg hat))
                go_roundg k4
                case measure => have := HK1.out; have := HK2.out; have := HJ8.out; have := HK4.out; omega
                case rel => exact ⟨(y124), (wrap64 (x5_2 + 1)), zb_, H', ⟨zhi_⟩, ⟨by refine zr ?_; exact Kd.R_mono HO126.out (fun _ hk => trivial)⟩, ⟨zb BK120.out⟩, ⟨zdb_⟩⟩
               ·rw [if_neg c36] at H
                exact absurd H (by simp)
              ·replace c35 := Bool.eq_false_iff.mpr c35
               subst c35; have H1 : (spec_nfPrimes.l1 k4 x3_2 x4_1 (wrap64 (x5_2 + 1)) a0_0 l0_1) = some r := by rw [if_neg (show ¬ (false = true) by decide)] at H; exact H
               clear H; have H := H1; clear H1; have H' := aM H; clear H; have hnb41 := NB120_121.out; have hnc41 := NB121_120.out; have hcz42_0 : wr.cell? ⟨gb120, 0, none⟩ = some (.int .i64 a0_0) := (blk_cell BK120.out 0).trans rfl; have hcz42_1 : wr.cell? ⟨gb120, 1, none⟩ = some (.slice A0_1 l0_1.length c0_1) := (blk_cell BK120.out 1).trans rfl; have hfz42_0 := blk_frozen BK120.out 0; have hfz42_1 := blk_frozen BK120.out 1
               go_wp2
               go_roundg k4
               case measure => have := HK1.out; have := HK2.out; have := HJ8.out; have := HK4.out; omega
               case rel => exact ⟨(x3_2), (wrap64 (x5_2 + 1)), zb_, H', ⟨zhi_⟩, ⟨zjc_⟩, ⟨zb BK120.out⟩, ⟨zdb_⟩⟩
       ·rw [if_neg c8] at H
        have c8b0 := decide_eq_false c8; clear c8; have H' := aM H; clear H
        go_wp2
        go_roundg k2
        case measure => have := HK1.out; have := HK2.out; omega
        case rel => exact ⟨(x3_2), (wrap64 (x4_1 + 1)), zb_, H', ⟨zci_⟩, ⟨zr HO_3.out⟩, ⟨zb BK120.out⟩, ⟨zfd_⟩⟩
    ·rw [if_neg c6] at H
     have c6b0 := decide_eq_false c6; clear c6; obtain rfl := Option.some.inj H; have hcz43_0 : wr.cell? ⟨gb120, 0, none⟩ = some (.int .i64 a0_0) := (blk_cell BK120.out 0).trans rfl; have hcz43_1 : wr.cell? ⟨gb120, 1, none⟩ = some (.slice A0_1 l0_1.length c0_1) := (blk_cell BK120.out 1).trans rfl; have hfz43_0 := blk_frozen BK120.out 0; have hfz43_1 := blk_frozen BK120.out 1
     go_wp2
     go_ret
     exact ⟨_, by first | rfl | (simp [errW_none, errW_some] <;> rfl) | (simp only [← hji3, ← hji5]; first | rfl | (simp [errW_none, errW_some] <;> rfl)) | (simp [*, errW_none, errW_some] <;> rfl), by refine zr ?_; exact HO_3.out, zfd_⟩
   ·rw [if_neg c4] at H
    exact absurd H (by simp)
def spec_PrimeTerms.f (k : Nat) (a0_0 : Int) (l0_1 : List Int) : Option ((List (S72)) × Bool) := (spec_ttGood.f k a0_0 l0_1).bind fun t128 => (if t128 = true then ((spec_nfPrimes.f k a0_0 l0_1).bind fun t129 => (some (t129, true))) else (some (([] : List (S72)), false)))
theorem spec_PrimeTerms.calls (k : Nat) (a0_0 : Int) (A0_1 : Option Addr) (c0_1 : Nat) (l0_1 : List Int) (r1 : List (S72)) (r2 : Bool) (w : World) (hr0_1 : Kd.C (Kd.int .i64) w A0_1 l0_1.length l0_1) (hc0_1 : l0_1.length ≤ c0_1) (h : spec_PrimeTerms.f k a0_0 l0_1 = some (r1, r2)) :
  Calls Try.prog 45 #[.agg #[.int .i64 a0_0, .slice A0_1 l0_1.length c0_1]] w fun e w' => ∃ v0_ : Value, e = .returned (.tuple #[v0_, .bool r2]) ∧ Kd.R k72 72 w' w.heap.size (fun _ => True) v0_ r1 ∧ Below w.heap.size w w' := by
 have hu60 := Try.underlying60
 have HR0_1 := aM hr0_1
 have HC0_1 := aM hc0_1
 clear hr0_1 hc0_1
 have HB := aM (Below.refl w.heap.size w)
 have H : ((spec_ttGood.f k a0_0 l0_1).bind fun t128 => (if t128 = true then ((spec_nfPrimes.f k a0_0 l0_1).bind fun t129 => (some (t129, true))) else (some (([] : List (S72)), false)))) = some (r1, r2) := h
 clear h
 replace H := oB.mp H
 obtain ⟨t128, A20, H⟩ := H
 replace H : (if t128 = true then ((spec_nfPrimes.f k a0_0 l0_1).bind fun t129 => (some (t129, true))) else (some (([] : List (S72)), false))) = some (r1, r2) := H
 have A2 := aM A20
 clear A20
 by_cases c3 : t128 = true
 ·subst c3
  have H1 : ((spec_nfPrimes.f k a0_0 l0_1).bind fun t129 => (some (t129, true))) = some (r1, r2) := by rw [if_pos rfl] at H; exact H
  clear H; have H := H1; clear H1; replace H := oB.mp H; obtain ⟨t129, A40, H⟩ := H; replace H : (some (t129, true)) = some (r1, r2) := H; have A4 := aM A40; clear A40
  simp only [Option.some.injEq, Prod.mk.injEq] at H
  obtain ⟨rfl, rfl⟩ := H
  go_enter Try.func45, Try.ntmps45
  go_wp2_with (first | ((with_reducible refine gate_dst (N := 1) rfl ?_); refine box_event ?hg (N := 1) ?hd (cs := #[.int .i64 a0_0, .slice A0_1 l0_1.length c0_1]) (t := 60) ?hr ?_; (case hd => rfl); (case hg => rfl); (case hr => exact zc_); intro gb127 hg w5 hbox hb; have n_ := z (below_step za_ hb) <| z (hbox) <| z ((by rw [hg]; exact (below_size za_) : w.heap.size ≤ gb127)) <| z1 ((by rw [hg]; exact (below_size za_) : w.heap.size ≤ gb127)); clear HB; obtain ⟨HB, BK127, GW127, GE127⟩ := n_; clear hb hbox hg; have hcz6_0 : w5.cell? ⟨gb127, 0, none⟩ = some (.int .i64 a0_0) := (blk_cell BK127.out 0).trans rfl; have hcz6_1 : w5.cell? ⟨gb127, 1, none⟩ = some (.slice A0_1 l0_1.length c0_1) := (blk_cell BK127.out 1).trans rfl; have hfz6_0 := blk_frozen BK127.out 0; have hfz6_1 := blk_frozen BK127.out 1) | ((with_reducible refine gate_callee (f := 131) rfl ?_); refine goesL_ (some 5) rfl rfl Try.func131 (by kernel_rfl) rfl #[.agg #[.int .i64 a0_0, .slice A0_1 l0_1.length c0_1]] rfl ze_ ?_; (with_reducible refine (spec_ttGood.calls k a0_0 _ _ l0_1 true _ ?side1 ?side2 A2.out).mono ?_); (case side1 => exact zi_); (case side2 => exact HC0_1.out); rintro e w7 ⟨rfl, hb⟩; refine ⟨_, rfl, ?_⟩; have n_ := z (blk_below (zb BK127.out) hb) <| z1 (below_step zfj_ hb); clear BK127 HB; obtain ⟨BK127, HB⟩ := n_; clear hb; have hcz8_0 : w7.cell? ⟨gb127, 0, none⟩ = some (.int .i64 a0_0) := (blk_cell BK127.out 0).trans rfl; have hcz8_1 : w7.cell? ⟨gb127, 1, none⟩ = some (.slice A0_1 l0_1.length c0_1) := (blk_cell BK127.out 1).trans rfl; have hfz8_0 := blk_frozen BK127.out 0; have hfz8_1 := blk_frozen BK127.out 1) | ((with_reducible refine gate_callee (f := 132) rfl ?_); refine goesL_ (some 8) rfl rfl Try.func132 (by kernel_rfl) rfl #[.agg #[.int .i64 a0_0, .slice A0_1 l0_1.length c0_1]] rfl ze_ ?_; (with_reducible refine (spec_nfPrimes.calls k a0_0 _ _ l0_1 t129 _ ?side1 ?side2 A4.out).mono ?_); (case side1 => exact zi_); (case side2 => exact HC0_1.out); rintro e w9 ⟨v130, rfl, ho0, hb⟩; refine ⟨_, rfl, ?_⟩; have n_ := z (Kd.R_lower ho0 (below_size zfj_)) <| z (blk_below (zb BK127.out) hb) <| z1 (below_step zfj_ hb); clear BK127 HB; obtain ⟨HO131, BK127, HB⟩ := n_; clear hb; (try clear ho0)))
  go_ret2
  exact ⟨_, zf_, by refine zr ?_; exact HO131.out, zfj_⟩
 ·replace c3 := Bool.eq_false_iff.mpr c3
  subst c3; have H1 : (some (([] : List (S72)), false)) = some (r1, r2) := by rw [if_neg (show ¬ (false = true) by decide)] at H; exact H
  clear H; have H := H1; clear H1
  simp only [Option.some.injEq, Prod.mk.injEq] at H
  obtain ⟨rfl, rfl⟩ := H
  go_enter Try.func45, Try.ntmps45
  go_wp2_with (first | ((with_reducible refine gate_dst (N := 1) rfl ?_); refine box_event ?hg (N := 1) ?hd (cs := #[.int .i64 a0_0, .slice A0_1 l0_1.length c0_1]) (t := 60) ?hr ?_; (case hd => rfl); (case hg => rfl); (case hr => exact zc_); intro gb127 hg w10 hbox hb; have n_ := z (below_step za_ hb) <| z (hbox) <| z ((by rw [hg]; exact (below_size za_) : w.heap.size ≤ gb127)) <| z1 ((by rw [hg]; exact (below_size za_) : w.heap.size ≤ gb127)); clear HB; obtain ⟨HB, BK127, GW127, GE127⟩ := n_; clear hb hbox hg; have hcz11_0 : w10.cell? ⟨gb127, 0, none⟩ = some (.int .i64 a0_0) := (blk_cell BK127.out 0).trans rfl; have hcz11_1 : w10.cell? ⟨gb127, 1, none⟩ = some (.slice A0_1 l0_1.length c0_1) := (blk_cell BK127.out 1).trans rfl; have hfz11_0 := blk_frozen BK127.out 0; have hfz11_1 := blk_frozen BK127.out 1) | ((with_reducible refine gate_callee (f := 131) rfl ?_); refine goesL_ (some 5) rfl rfl Try.func131 (by kernel_rfl) rfl #[.agg #[.int .i64 a0_0, .slice A0_1 l0_1.length c0_1]] rfl ze_ ?_; (with_reducible refine (spec_ttGood.calls k a0_0 _ _ l0_1 false _ ?side1 ?side2 A2.out).mono ?_); (case side1 => exact zi_); (case side2 => exact HC0_1.out); rintro e w12 ⟨rfl, hb⟩; refine ⟨_, rfl, ?_⟩; have n_ := z (blk_below (zb BK127.out) hb) <| z1 (below_step zfj_ hb); clear BK127 HB; obtain ⟨BK127, HB⟩ := n_; clear hb))
  go_ret2
  exact ⟨_, zf_, zbi_, zfj_⟩
mutual
def spec_nfCovers.l0 : Nat → List Int → List (S72) → Int → Int → Int → List Int → Option (List Int)
 | 0, _, _, _, _, _, _ => none
 | k + 1, x5, x11, x12, x13, x133000, x133001 => if x13 < x12 then (if 0 ≤ x13 then (if x13 < (x11.length : Int) then ((spec_nfIndices.f k x133000 ((rd_T72 x11 x13).f0) ((rd_T72 x11 x13).f1)).bind fun t135 => (spec_nfCovers.l1 k x5 0 x11 x12 x13 t135 (t135.length : Int) 0 x133000 x133001)) else (none)) else (none)) else (some x5)
def spec_nfCovers.l1 : Nat → List Int → Int → List (S72) → Int → Int → List Int → Int → Int → Int → List Int → Option (List Int)
 | 0, _, _, _, _, _, _, _, _, _, _ => none
 | k + 1, x5, x8, x11, x12, x13, x20, x21, x22, x133000, x133001 => if x22 < x21 then (if 0 ≤ x22 then (if x22 < (x20.length : Int) then (if 0 ≤ (IntKind.u64.wrap (rd x20 x22)) then (spec_nfCovers.l1 k x5 (Go.bits .or .i64 x8 (shl .i64 1 (IntKind.u64.wrap (rd x20 x22)))) x11 x12 x13 x20 x21 (wrap64 (x22 + 1)) x133000 x133001) else (none)) else (none)) else (none)) else (if x5.length < 17592186044416 then (spec_nfCovers.l0 k (x5 ++ [x8]) x11 x12 (wrap64 (x13 + 1)) x133000 x133001) else (none))
end
def spec_nfCovers.f (k : Nat) (a0_0 : Int) (l0_1 : List Int) (l1 : List (S72)) : Option (List Int) := spec_nfCovers.l0 k ([] : List Int) l1 (l1.length : Int) 0 a0_0 l0_1
theorem spec_nfCovers.calls (k : Nat) (a0_0 : Int) (A0_1 : Option Addr) (c0_1 : Nat) (l0_1 : List Int) (A1 : Option Addr) (c1 : Nat) (l1 : List (S72)) (r : List Int) (w : World) (hr0_1 : Kd.C (Kd.int .i64) w A0_1 l0_1.length l0_1) (hc0_1 : l0_1.length ≤ c0_1) (hr1 : Kd.C k72 w A1 l1.length l1) (hc1 : l1.length ≤ c1) (h : spec_nfCovers.f k a0_0 l0_1 l1 = some r) :
  Calls Try.prog 133 #[.agg #[.int .i64 a0_0, .slice A0_1 l0_1.length c0_1], .slice A1 l1.length c1] w fun e w' => ∃ v0_ : Value, e = .returned (v0_) ∧ Kd.R (Kd.int .i64) 3 w' w.heap.size (fun _ => True) v0_ r ∧ Below w.heap.size w w' := by
 have hu60 := Try.underlying60
 have hu72 := Try.underlying72
 have HR0_1 := aM hr0_1
 have HC0_1 := aM hc0_1
 clear hr0_1 hc0_1
 have HR1 := aM hr1
 have HC1 := aM hc1
 clear hr1 hc1
 have HB := aM (Below.refl w.heap.size w)
 have H : (spec_nfCovers.l0 k ([] : List Int) l1 (l1.length : Int) 0 a0_0 l0_1) = some r := h
 clear h
 have H' := aM H
 clear H
 go_enter Try.func133, Try.ntmps133
 go_wp2_with (first | ((with_reducible refine gate_dst (N := 2) rfl ?_); refine box_event ?hg (N := 2) ?hd (cs := #[.int .i64 a0_0, .slice A0_1 l0_1.length c0_1]) (t := 60) ?hr ?_; (case hd => rfl); (case hg => rfl); (case hr => exact zc_); intro gb132 hg w3 hbox hb; have n_ := z (below_step za_ hb) <| z (hbox) <| z ((by rw [hg]; exact (below_size za_) : w.heap.size ≤ gb132)) <| z1 ((by rw [hg]; exact (below_size za_) : w.heap.size ≤ gb132)); clear HB; obtain ⟨HB, BK132, GW132, GE132⟩ := n_; clear hb hbox hg))
 go_loopg [5, 13] k (fun kq v5 v13 w' => ∃ (x5_1 : List Int) (x13_1 : Int), v13 = .int .i64 x13_1 ∧ Aside0 (spec_nfCovers.l0 kq x5_1 l1 (l1.length : Int) x13_1 a0_0 l0_1 = some r) ∧ Aside0 (kq ≤ k) ∧ Aside0 (Kd.R (Kd.int .i64) 3 w' w.heap.size (fun _ => True) v5 x5_1) ∧ Aside0 (w'.heap[gb132]? = some (.cells #[.int .i64 a0_0, (.slice A0_1 l0_1.length c0_1)] 60 (0, 0))) ∧ Aside0 (Below w.heap.size w w'))
 case atStart => exact ⟨(([] : List Int)), (0), zb_, H', ⟨Nat.le_refl _⟩, ⟨zbi_⟩, ⟨zb BK132.out⟩, ⟨zhj_⟩⟩
 case round =>
  clear H'; obtain ⟨x5_1, x13_1, rfl, HA, HK1, HO_5, BK132, HB⟩ := hrel
  cases gk with
  | zero => exact absurd HA.out (by simp [spec_nfCovers.l0])
  | succ k1 =>
   have H := HA.out; clear HA
   simp only [spec_nfCovers.l0] at H
   by_cases c4 : x13_1 < (l1.length : Int)
   ·rw [if_pos c4] at H
    have c4b0 := decide_eq_true c4; clear c4
    by_cases c5 : 0 ≤ x13_1
    ·rw [if_pos c5] at H
     have c5b0 := decide_eq_true c5; clear c5
     by_cases c6 : x13_1 < (l1.length : Int)
     ·rw [if_pos c6] at H
      have c6b0 := decide_eq_true c6; clear c6; replace H := oB.mp H; obtain ⟨t135, A70, H⟩ := H; replace H : (spec_nfCovers.l1 k1 x5_1 0 l1 (l1.length : Int) x13_1 t135 (t135.length : Int) 0 a0_0 l0_1) = some r := H; have A7 := aM A70; clear A70; have H' := aM H; clear H; have p133 : 0 ≤ (x13_1 : Int) := of_decide_eq_true zd_; have q133 : x13_1 < (l1.length : Int) := of_decide_eq_true zd_; obtain ⟨ad133, e133, hx133_0, hx133_1⟩ := at_T72 HR1.out x13_1 p133 q133
      cases e133
      (try (replace hx133_0 := (HB.out.cell (World.block_lt_of_cell? w _ hx133_0)).trans hx133_0)); (try (replace hx133_1 := (HB.out.cell (World.block_lt_of_cell? w _ hx133_1)).trans hx133_1)); replace p133 := eq_true p133; replace q133 := eq_true q133
      go_wp2_with (first | ((with_reducible refine gate_dst (N := 7) rfl ?_); refine box_event ?hg (N := 7) ?hd (cs := #[.int .i64 0, .int .i64 0]) (t := 72) ?hr ?_; (case hd => rfl); (case hg => rfl); (case hr => exact zc_); intro gb134 hg w8 hbox hb; have n_ := z (Kd.R_below (zr HO_5.out) hb) <| z (blk_below (zb BK132.out) hb) <| z (below_step zhj_ hb) <| z (hbox) <| z ((by rw [hg]; exact (below_size zhj_) : w.heap.size ≤ gb134)) <| z ((by rw [hg]; exact (below_size zhj_) : w.heap.size ≤ gb134)) <| z ((by rw [hg]; exact Nat.ne_of_lt (blk_lt (zb BK132.out)) : gb132 ≠ gb134)) <| z1 ((by rw [hg]; exact Nat.ne_of_gt (blk_lt (zb BK132.out)) : gb134 ≠ gb132)); clear HO_5 BK132 HB; obtain ⟨HO_5, BK132, HB, BK134, GW134, GE134, NB132_134, NB134_132⟩ := n_; clear hb hbox hg; have hnb9 := NB134_132.out; have hnc9 := NB132_134.out; have hcz10_0 : w8.cell? ⟨gb134, 0, none⟩ = some (.int .i64 0) := (blk_cell BK134.out 0).trans rfl; have hcz10_1 : w8.cell? ⟨gb134, 1, none⟩ = some (.int .i64 0) := (blk_cell BK134.out 1).trans rfl; have hfz10_0 := blk_frozen BK134.out 0; have hfz10_1 := blk_frozen BK134.out 1; have hcz11_0 : w8.cell? ⟨gb132, 0, none⟩ = some (.int .i64 a0_0) := (blk_cell BK132.out 0).trans rfl; have hcz11_1 : w8.cell? ⟨gb132, 1, none⟩ = some (.slice A0_1 l0_1.length c0_1) := (blk_cell BK132.out 1).trans rfl; have hfz11_0 := blk_frozen BK132.out 0; have hfz11_1 := blk_frozen BK132.out 1) | ((with_reducible refine gate_callee (f := 137) rfl ?_); refine goesL_ (some 20) rfl rfl Try.func137 (by kernel_rfl) rfl #[.int .i64 a0_0, .agg #[.int .i64 ((rd_T72 l1 x13_1).f0), .int .i64 ((rd_T72 l1 x13_1).f1)]] rfl ze_ ?_; (with_reducible refine (spec_nfIndices.calls k1 a0_0 ((rd_T72 l1 x13_1).f0) ((rd_T72 l1 x13_1).f1) t135 _ A7.out).mono ?_); rintro e w12 ⟨v136, rfl, ho0, hb⟩; refine ⟨_, rfl, ?_⟩; have n_ := z (Kd.R_elder' (by refine zr ?_; exact (Kd.R_mono (Kd.R_far (p := ⟨gb134, 1, none⟩) (Kd.R_far (p := ⟨gb134, 0, none⟩) (Kd.R_types HO_5.out BK134.out (by decide)) (fun _ hk => hk.2) (.int .i64 ((rd_T72 l1 x13_1).f0))) (fun _ hk => hk.2) (.int .i64 ((rd_T72 l1 x13_1).f1))) (fun _ h_ => h_.1))) (Kd.R_base ho0) hb) <| z (Kd.R_lower (Kd.R_new' ho0 (Kd.R_lt (by refine zr ?_; exact (Kd.R_mono (Kd.R_far (p := ⟨gb134, 1, none⟩) (Kd.R_far (p := ⟨gb134, 0, none⟩) (Kd.R_types HO_5.out BK134.out (by decide)) (fun _ hk => hk.2) (.int .i64 ((rd_T72 l1 x13_1).f0))) (fun _ hk => hk.2) (.int .i64 ((rd_T72 l1 x13_1).f1))) (fun _ h_ => h_.1))))) (below_size zfe_)) <| z (blk_below (g := gb132) (o := .cells #[.int .i64 a0_0, .slice A0_1 l0_1.length c0_1] 60 (0, 0)) (by refine zb ?_; refine blk_far ?_ NB132_134.out _; refine zb ?_; refine blk_far ?_ NB132_134.out _; refine zb ?_; exact BK132.out) hb) <| z (blk_below (g := gb134) (o := .cells #[.int .i64 ((rd_T72 l1 x13_1).f0), .int .i64 ((rd_T72 l1 x13_1).f1)] 72 (0, 0)) (by refine zb ?_; refine blk_put (cs := #[.int .i64 ((rd_T72 l1 x13_1).f0), .int .i64 0]) ?_ 1 _ rfl; refine zb ?_; refine blk_put (cs := #[.int .i64 0, .int .i64 0]) ?_ 0 _ rfl; refine zb ?_; exact BK134.out) hb) <| z1 (below_step zfe_ hb); clear HO_5 BK132 BK134 HB; obtain ⟨HO_5, HO137, BK132, BK134, HB⟩ := n_; clear hb; (try clear hk); (try clear ho0); obtain ⟨Ao13, co13, eo13⟩ := Kd.R_slice HO137.out; subst eo13))
      go_loopg [8, 22] k1 (fun kq v8 v22 w' => ∃ (x8_2 : Int) (x22_2 : Int), v8 = .int .i64 x8_2 ∧ v22 = .int .i64 x22_2 ∧ Aside0 (spec_nfCovers.l1 kq x5_1 x8_2 l1 (l1.length : Int) x13_1 t135 (t135.length : Int) x22_2 a0_0 l0_1 = some r) ∧ Aside0 (kq ≤ k1) ∧ Aside0 (Kd.R (Kd.int .i64) 3 w' w.heap.size (fun k_ => some k_ ≠ ((.slice Ao13 t135.length co13) : Value).ownBlock) u5 x5_1) ∧ Aside0 (Kd.R (Kd.int .i64) 3 w' w.heap.size (fun k_ => some k_ ≠ (u5 : Value).ownBlock) (.slice Ao13 t135.length co13) t135) ∧ Aside0 (w'.heap[gb132]? = some (.cells #[.int .i64 a0_0, (.slice A0_1 l0_1.length c0_1)] 60 (0, 0))) ∧ Aside0 (w'.heap[gb134]? = some (.cells #[.int .i64 ((rd_T72 l1 x13_1).f0), .int .i64 ((rd_T72 l1 x13_1).f1)] 72 (0, 0))) ∧ Aside0 (Below w.heap.size w w'))
      case atStart => exact ⟨(0), (0), zb_, zb_, H', ⟨Nat.le_refl _⟩, ⟨by refine zr ?_; exact Kd.R_mono HO_5.out (fun _ hk => hk.2)⟩, ⟨by refine zr ?_; exact Kd.R_mono HO137.out (fun _ hk => hk.2)⟩, ⟨zb BK132.out⟩, ⟨zb BK134.out⟩, ⟨zfe_⟩⟩
      case round =>
       clear H'; (try clear c4b0); (try clear c5b0); (try clear c6b0); (try clear hcz10_0); (try clear hcz10_1); (try clear hcz11_0); (try clear hcz11_1); (try clear hfz10_0); (try clear hfz10_1); (try clear hfz11_0); (try clear hfz11_1); (try clear hx133_0); (try clear hx133_1); (try clear p133); (try clear q133); obtain ⟨x8_2, x22_2, rfl, rfl, HA, HK2, HO_5, HO_20, BK132, BK134, HB⟩ := hrel
       cases gk with
       | zero => exact absurd HA.out (by simp [spec_nfCovers.l1])
       | succ k2 =>
        have H := HA.out; clear HA
        simp only [spec_nfCovers.l1] at H
        by_cases c14 : x22_2 < (t135.length : Int)
        ·rw [if_pos c14] at H
         have c14b0 := decide_eq_true c14; clear c14
         by_cases c15 : 0 ≤ x22_2
         ·rw [if_pos c15] at H
          have c15b0 := decide_eq_true c15; clear c15
          by_cases c16 : x22_2 < (t135.length : Int)
          ·rw [if_pos c16] at H
           have c16b0 := decide_eq_true c16; clear c16; obtain ⟨ji17, hji17⟩ : ∃ j_ : Int, (IntKind.u64.wrap (rd t135 x22_2)) = j_ := ⟨_, rfl⟩; replace H : (if 0 ≤ (ji17) then (spec_nfCovers.l1 k2 x5_1 (Go.bits .or .i64 x8_2 (shl .i64 1 (ji17))) l1 (l1.length : Int) x13_1 t135 (t135.length : Int) (wrap64 (x22_2 + 1)) a0_0 l0_1) else (none)) = some r := by first | (rw [hji17] at H; exact H) | (simp only [hji17] at H ⊢; exact H)
           by_cases c18 : 0 ≤ (ji17)
           ·rw [if_pos c18] at H
            have c18b0 := eq_true c18; have c18b1 := decide_eq_true c18; clear c18; obtain ⟨ji19, hji19⟩ : ∃ j_ : Int, (shl .i64 1 (ji17)) = j_ := ⟨_, rfl⟩; replace H : (spec_nfCovers.l1 k2 x5_1 (Go.bits .or .i64 x8_2 (ji19)) l1 (l1.length : Int) x13_1 t135 (t135.length : Int) (wrap64 (x22_2 + 1)) a0_0 l0_1) = some r := by first | (rw [hji19] at H; exact H) | (simp only [hji19] at H ⊢; exact H)
            have hji19_ : (IntKind.i64.wrap (1 * 2 ^ min (ji17).toNat 64)) = ji19 := hji19; have hji19z : (ji17) ≤ 64 → (IntKind.i64.wrap (1 * 2 ^ (ji17).toNat)) = ji19 := shl_small hji19; have hji19u : (IntKind.i64.wrap (2 ^ min (ji17).toNat 64)) = ji19 := by have h_ := hji19_; rw [Int.one_mul] at h_; exact h_
            have hji19v : (ji17) ≤ 64 → (IntKind.i64.wrap (2 ^ (ji17).toNat)) = ji19 := fun hle_ => by have h_ := hji19z hle_; rw [Int.one_mul] at h_; exact h_
            have hji19y : (wrap64 (1 * 2 ^ min (ji17).toNat 64)) = ji19 := (i64_w _).symm.trans hji19_; have hji19x : (ji17) ≤ 64 → (wrap64 (1 * 2 ^ (ji17).toNat)) = ji19 := fun h_ => (i64_w _).symm.trans (hji19z h_)
            have H' := aM H; clear H; have p138 : 0 ≤ (x22_2 : Int) := of_decide_eq_true zd_; have q138 : x22_2 < (t135.length : Int) := of_decide_eq_true zd_; obtain ⟨ad138, e138, hx138_0⟩ := Kd.at_int (Kd.R_reads' HO_20.out).2.2 x22_2 p138 q138
            cases e138
            replace p138 := eq_true p138; replace q138 := eq_true q138
            go_wp2
            go_roundg k2
            case measure => have := HK1.out; have := HK2.out; omega
            case rel => exact ⟨(Go.bits .or .i64 x8_2 (ji19)), (wrap64 (x22_2 + 1)), (by first | rfl | (simp; done) | (simp only [← hji19] <;> (first | rfl | simp)) | (simp [*]; done)), zb_, H', ⟨zci_⟩, ⟨zr HO_5.out⟩, ⟨zr HO_20.out⟩, ⟨zb BK132.out⟩, ⟨zb BK134.out⟩, ⟨zfe_⟩⟩
           ·rw [if_neg c18] at H
            exact absurd H (by simp)
          ·rw [if_neg c16] at H
           exact absurd H (by simp)
         ·rw [if_neg c15] at H
          exact absurd H (by simp)
        ·rw [if_neg c14] at H
         have c14b0 := decide_eq_false c14; clear c14
         by_cases c20 : x5_1.length < 17592186044416
         ·rw [if_pos c20] at H
          have LMc20 := aM c20; clear c20; obtain ⟨y139, hy139⟩ : ∃ y_ : List Int, y_ = (x5_1 ++ [x8_2]) := ⟨_, rfl⟩; replace H : (spec_nfCovers.l0 k2 y139 l1 (l1.length : Int) (wrap64 (x13_1 + 1)) a0_0 l0_1) = some r := by first | (rw [hy139]; with_reducible exact H) | (have H2_ := (oS _ _).symm.trans H; rw [hy139]; with_reducible exact H2_) | (have H2_ := (oS _ _).symm.trans H; with_reducible exact H2_) | with_reducible exact H | (rw [hy139]; exact H) | exact H
          have Ny139 := aM hy139; clear hy139; have H' := aM H; clear H
          go_wp2_with (first | ((with_reducible refine gate_builtin (b := .append) (xs := #[.tmp 32, .tmp 34]) rfl ?_); at_builtin; refine Kd.R_append (Kd.int .i64) (w0 := w) w.heap.size rfl (.tmp 32) (.tmp 34) 24 3 (.int .i64 0) 8 rfl Try.underlying24 info3 rfl (by decide) (by omega) u5 x5_1 x8_2 [.int .i64 x8_2] (fun k_ => some k_ ≠ (.slice Ao13 t135.length co13 : Value).ownBlock) (fun _ => False) rfl rfl ?aP (fun _ hk => hk.elim) ?aF ?aO ?aB ?aS ?aL ?_; (case aP => exact rfl); (case aB => exact zfe_); (case aF => exact (fun k_ hk => Kd.fresh' (Kd.R_lt (zr HO_20.out)) k_ hk)); (case aO => exact (zr HO_5.out)); (case aS => exact (below_size zfe_)); (case aL => have := LMc20.out; omega); intro v140 w21 ho hb hg hat; rw [← Ny139.out] at ho; have n_ := z (Kd.R_after (ok := (fun _ => True)) (by refine zr ?_; exact Kd.R_mono HO_20.out (fun _ hk => ⟨trivial, hk⟩)) hg hat) <| z (blk_grown (g := gb132) (o := .cells #[.int .i64 a0_0, .slice A0_1 l0_1.length c0_1] 60 (0, 0)) (zb BK132.out) hg (Kd.R_ne HO_5.out BK132.out (by decide))) <| z (blk_grown (g := gb134) (o := .cells #[.int .i64 ((rd_T72 l1 x13_1).f0), .int .i64 ((rd_T72 l1 x13_1).f1)] 72 (0, 0)) (zb BK134.out) hg (Kd.R_ne HO_5.out BK134.out (by decide))) <| z (hb) <| z1 (ho); clear HO_20 BK132 BK134 HB HO_5; obtain ⟨HO_20, BK132, BK134, HB, HO141⟩ := n_; clear ho hb hg hat))
          go_roundg k2
          case measure => have := HK1.out; have := HK2.out; omega
          case rel => exact ⟨(y139), (wrap64 (x13_1 + 1)), zb_, H', ⟨zci_⟩, ⟨by refine zr ?_; exact Kd.R_mono HO141.out (fun _ hk => trivial)⟩, ⟨zb BK132.out⟩, ⟨zfe_⟩⟩
         ·rw [if_neg c20] at H
          exact absurd H (by simp)
     ·rw [if_neg c6] at H
      exact absurd H (by simp)
    ·rw [if_neg c5] at H
     exact absurd H (by simp)
   ·rw [if_neg c4] at H
    have c4b0 := decide_eq_false c4; clear c4; obtain rfl := Option.some.inj H
    go_wp2
    go_ret
    exact ⟨_, zf_, by refine zr ?_; exact HO_5.out, zhj_⟩
end Go.Proofs.Ytbkighlfgaifeaa.QFnLeastSums
