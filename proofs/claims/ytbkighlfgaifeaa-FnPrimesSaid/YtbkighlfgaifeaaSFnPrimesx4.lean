/- Functions of the law FnPrimes, each as a Lean function, and the proofs that the Go code comes to their answers. Made by wip/gen/slim.py. Conditions: those of each theorem. -/
import Derived.Test.YtbkighlfgaifeaaSFnPrimesx0
namespace Go.Proofs.Ytbkighlfgaifeaa.QFnPrimes
open Go.RowKit Go.Proofs.YtbkighlfgaifeaaW.PrintWords Go.Proofs.YtbkighlfgaifeaaW.PrintLast Go.Proofs.YtbkighlfgaifeaaW.PrintMore
open Go.Proofs.YtbkighlfgaifeaaW.PrintWords renaming pw_below_drewN → pN, below_drew1 → p1, below_alloc → pA
open Go.Proofs.YtbkighlfgaifeaaW.PrintWords.Kd renaming R_alloc → kA, R_drewN → kN, R_drew → kD, Q_alloc → qA, Q_drewN → qN, Q_drew → qD, C_alloc → cA, C_drewN → cN, C_drew → cD
open Go.Proofs.YtbkighlfgaifeaaW.PrintWords.Aside0 renaming mk → aM
open List renaming setIfInBounds_toArray → sI, set_cons_zero → s0, set_cons_succ → sS, map_toArray → mT, length_take → lT, length_drop → lD, map_cons → mC, map_nil → mN
open Option renaming bind_eq_some_iff → oB, bind_some → oS
attribute [local go_sem] max2_int min2_int max_two min_two max_three min_three max_four min_four
set_option maxHeartbeats 8000000
set_option maxRecDepth 100000
set_option linter.unusedVariables false
set_option linter.unusedSimpArgs false
def impl_implies.l0 : Nat → List Int → Int → Int → Int → Int → Option (Bool)
 | 0, _, _, _, _, _ => none
 | k + 1, x8, x9, x10, x197000, x197001 => if x10 < x9 then (if 0 ≤ x10 then (if x10 < (x8.length : Int) then (if (rd x8 x10) = 0 then (if (Go.bits .and .i64 x10 x197000) = x197001 then (some false) else (impl_implies.l0 k x8 x9 (wrap64 (x10 + 1)) x197000 x197001)) else (impl_implies.l0 k x8 x9 (wrap64 (x10 + 1)) x197000 x197001)) else (none)) else (none)) else (some true)
def impl_implies.f (k : Nat) (a0_0 : Int) (l0_1 : List Int) (a1_0 : Int) (a1_1 : Int) : Option (Bool) := impl_implies.l0 k l0_1 (l0_1.length : Int) 0 a1_0 a1_1
theorem impl_implies.calls (k : Nat) (a0_0 : Int) (A0_1 : Option Addr) (c0_1 : Nat) (l0_1 : List Int) (a1_0 : Int) (a1_1 : Int) (r : Bool) (w : World) (hr0_1 : Kd.C (Kd.int .i64) w A0_1 l0_1.length l0_1) (hc0_1 : l0_1.length ≤ c0_1) (h : impl_implies.f k a0_0 l0_1 a1_0 a1_1 = some r) :
  Calls Try.prog 140 #[.agg #[.int .i64 a0_0, .slice A0_1 l0_1.length c0_1], .agg #[.int .i64 a1_0, .int .i64 a1_1]] w fun e w' => e = .returned (.bool r) ∧ Below w.heap.size w w' := by
 have hu60 := Try.underlying60
 have hu72 := Try.underlying72
 have HR0_1 := aM hr0_1
 have HC0_1 := aM hc0_1
 clear hr0_1 hc0_1
 have HB := aM (Below.refl w.heap.size w)
 have H : (impl_implies.l0 k l0_1 (l0_1.length : Int) 0 a1_0 a1_1) = some r := h
 clear h
 have H' := aM H
 clear H
 go_enter Try.func140, Try.ntmps140
 go_wp2_with (first | ((with_reducible refine gate_dst (N := 2) rfl ?_); refine box_event ?hg (N := 2) ?hd (cs := #[.int .i64 a0_0, .slice A0_1 l0_1.length c0_1]) (t := 60) ?hr ?_; (case hd => rfl); (case hg => rfl); (case hr => exact zc_); intro gb195 hg w3 hbox hb; have n_ := z (below_step za_ hb) <| z (hbox) <| z ((by rw [hg]; exact (below_size za_) : w.heap.size ≤ gb195)) <| z1 ((by rw [hg]; exact (below_size za_) : w.heap.size ≤ gb195)); clear HB; obtain ⟨HB, BK195, GW195, GE195⟩ := n_; clear hb hbox hg) | ((with_reducible refine gate_dst (N := 3) rfl ?_); refine box_event ?hg (N := 3) ?hd (cs := #[.int .i64 a1_0, .int .i64 a1_1]) (t := 72) ?hr ?_; (case hd => rfl); (case hg => rfl); (case hr => exact zc_); intro gb196 hg w4 hbox hb; have n_ := z (blk_below (g := gb195) (o := .cells #[.int .i64 a0_0, .slice A0_1 l0_1.length c0_1] 60 (0, 0)) (zb BK195.out) hb) <| z (below_step zbaa_ hb) <| z (hbox) <| z ((by rw [hg]; exact (below_size zbaa_) : w.heap.size ≤ gb196)) <| z ((by rw [hg]; exact (below_size zbaa_) : w.heap.size ≤ gb196)) <| z ((by rw [hg]; exact Nat.ne_of_lt (blk_lt (g := gb195) (o := .cells #[.int .i64 a0_0, .slice A0_1 l0_1.length c0_1] 60 (0, 0)) (zb BK195.out)) : gb195 ≠ gb196)) <| z1 ((by rw [hg]; exact Nat.ne_of_gt (blk_lt (g := gb195) (o := .cells #[.int .i64 a0_0, .slice A0_1 l0_1.length c0_1] 60 (0, 0)) (zb BK195.out)) : gb196 ≠ gb195)); clear BK195 HB; obtain ⟨BK195, HB, BK196, GW196, GE196, NB195_196, NB196_195⟩ := n_; clear hb hbox hg; have hnb5 := NB195_196.out; have hnc5 := NB196_195.out; have hcz6_0 : w4.cell? ⟨gb195, 0, none⟩ = some (.int .i64 a0_0) := (blk_cell BK195.out 0).trans rfl; have hcz6_1 : w4.cell? ⟨gb195, 1, none⟩ = some (.slice A0_1 l0_1.length c0_1) := (blk_cell BK195.out 1).trans rfl; have hfz6_0 := blk_frozen BK195.out 0; have hfz6_1 := blk_frozen BK195.out 1))
 go_loopg [10] k (fun kq v10 w' => ∃ (x10_1 : Int), v10 = .int .i64 x10_1 ∧ Aside0 (impl_implies.l0 kq l0_1 (l0_1.length : Int) x10_1 a1_0 a1_1 = some r) ∧ Aside0 (kq ≤ k) ∧ Aside0 (w'.heap[gb195]? = some (.cells #[.int .i64 a0_0, (.slice A0_1 l0_1.length c0_1)] 60 (0, 0))) ∧ Aside0 (w'.heap[gb196]? = some (.cells #[.int .i64 a1_0, .int .i64 a1_1] 72 (0, 0))) ∧ Aside0 (Below w.heap.size w w'))
 case atStart => exact ⟨(0), zd_, H', ⟨Nat.le_refl _⟩, ⟨zb BK195.out⟩, ⟨zb BK196.out⟩, ⟨zhd_⟩⟩
 case round =>
  clear H'; (try clear c1); (try clear p2); (try clear c5); (try clear hcz6_0); (try clear hcz6_1); (try clear hfz6_0); (try clear hfz6_1); obtain ⟨x10_1, rfl, HA, HK1, BK195, BK196, HB⟩ := hrel
  cases gk with
  | zero => exact absurd HA.out (by simp [impl_implies.l0])
  | succ k1 =>
   have H := HA.out; clear HA
   simp only [impl_implies.l0] at H
   by_cases c7 : x10_1 < (l0_1.length : Int)
   ·rw [if_pos c7] at H
    have c7b0 : decide (x10_1 < (l0_1.length : Int)) = true := decide_eq_true c7; clear c7
    by_cases c8 : 0 ≤ x10_1
    ·rw [if_pos c8] at H
     have c8b0 : decide (0 ≤ x10_1) = true := decide_eq_true c8; clear c8
     by_cases c9 : x10_1 < (l0_1.length : Int)
     ·rw [if_pos c9] at H
      have c9b0 : decide (x10_1 < (l0_1.length : Int)) = true := decide_eq_true c9; clear c9
      by_cases c10 : (rd l0_1 x10_1) = 0
      ·rw [if_pos c10] at H
       have c10b0 : ((rd l0_1 x10_1) == 0) = true := beq_iff_eq.mpr c10; have c10b1 : ((rd l0_1 x10_1) != 0) = false := bne_eq_false_iff_eq.mpr c10; clear c10
       by_cases c11 : (Go.bits .and .i64 x10_1 a1_0) = a1_1
       ·rw [if_pos c11] at H
        have c11b0 : ((Go.bits .and .i64 x10_1 a1_0) == a1_1) = true := beq_iff_eq.mpr c11; have c11b1 : ((Go.bits .and .i64 x10_1 a1_0) != a1_1) = false := bne_eq_false_iff_eq.mpr c11; clear c11; obtain rfl := Option.some.inj H; have p197 : 0 ≤ (x10_1 : Int) := of_decide_eq_true zb_; have q197 : x10_1 < (l0_1.length : Int) := of_decide_eq_true zb_; obtain ⟨ad197, e197, hx197_0⟩ := Kd.at_int HR0_1.out x10_1 p197 q197
        cases e197
        (try (replace hx197_0 := (HB.out.cell (World.block_lt_of_cell? w _ hx197_0)).trans hx197_0)); replace p197 := eq_true p197; replace q197 := eq_true q197; have hnb12 := NB196_195.out; have hnc12 := NB195_196.out; have hcz13_0 : wr.cell? ⟨gb196, 0, none⟩ = some (.int .i64 a1_0) := (blk_cell BK196.out 0).trans rfl; have hcz13_1 : wr.cell? ⟨gb196, 1, none⟩ = some (.int .i64 a1_1) := (blk_cell BK196.out 1).trans rfl; have hfz13_0 := blk_frozen BK196.out 0; have hfz13_1 := blk_frozen BK196.out 1
        go_wp2
        go_ret
        exact ⟨zi_, zhd_⟩
       ·rw [if_neg c11] at H
        have c11b0 : ((Go.bits .and .i64 x10_1 a1_0) == a1_1) = false := beq_eq_false_iff_ne.mpr c11; have c11b1 : ((Go.bits .and .i64 x10_1 a1_0) != a1_1) = true := bne_iff_ne.mpr c11; have H' := aM H; clear H; have p197 : 0 ≤ (x10_1 : Int) := of_decide_eq_true zb_; have q197 : x10_1 < (l0_1.length : Int) := of_decide_eq_true zb_; obtain ⟨ad197, e197, hx197_0⟩ := Kd.at_int HR0_1.out x10_1 p197 q197
        cases e197
        (try (replace hx197_0 := (HB.out.cell (World.block_lt_of_cell? w _ hx197_0)).trans hx197_0)); replace p197 := eq_true p197; replace q197 := eq_true q197; have hnb14 := NB196_195.out; have hnc14 := NB195_196.out; have hcz15_0 : wr.cell? ⟨gb196, 0, none⟩ = some (.int .i64 a1_0) := (blk_cell BK196.out 0).trans rfl; have hcz15_1 : wr.cell? ⟨gb196, 1, none⟩ = some (.int .i64 a1_1) := (blk_cell BK196.out 1).trans rfl; have hfz15_0 := blk_frozen BK196.out 0; have hfz15_1 := blk_frozen BK196.out 1
        go_wp2
        go_roundg k1
        case measure => have := HK1.out; omega
        case rel => exact ⟨(wrap64 (x10_1 + 1)), zd_, H', ⟨zbc_⟩, ⟨zb BK195.out⟩, ⟨zb BK196.out⟩, ⟨zhd_⟩⟩
      ·rw [if_neg c10] at H
       have c10b0 : ((rd l0_1 x10_1) == 0) = false := beq_eq_false_iff_ne.mpr c10; have c10b1 : ((rd l0_1 x10_1) != 0) = true := bne_iff_ne.mpr c10; have H' := aM H; clear H; have p197 : 0 ≤ (x10_1 : Int) := of_decide_eq_true zb_; have q197 : x10_1 < (l0_1.length : Int) := of_decide_eq_true zb_; obtain ⟨ad197, e197, hx197_0⟩ := Kd.at_int HR0_1.out x10_1 p197 q197
       cases e197
       (try (replace hx197_0 := (HB.out.cell (World.block_lt_of_cell? w _ hx197_0)).trans hx197_0)); replace p197 := eq_true p197; replace q197 := eq_true q197
       go_wp2
       go_roundg k1
       case measure => have := HK1.out; omega
       case rel => exact ⟨(wrap64 (x10_1 + 1)), zd_, H', ⟨zbc_⟩, ⟨zb BK195.out⟩, ⟨zb BK196.out⟩, ⟨zhd_⟩⟩
     ·rw [if_neg c9] at H
      exact absurd H (by simp)
    ·rw [if_neg c8] at H
     exact absurd H (by simp)
   ·rw [if_neg c7] at H
    have c7b0 : decide (x10_1 < (l0_1.length : Int)) = false := decide_eq_false c7; clear c7; obtain rfl := Option.some.inj H
    go_wp2
    go_ret
    exact ⟨zi_, zhd_⟩
end Go.Proofs.Ytbkighlfgaifeaa.QFnPrimes
