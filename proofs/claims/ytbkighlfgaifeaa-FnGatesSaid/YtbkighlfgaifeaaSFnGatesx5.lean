/- Functions of FnGates, each as a Lean function, with the proof that the Go code comes to its answers. -/
import Derived.Test.YtbkighlfgaifeaaSFnGatesx0
import Derived.Test.YtbkighlfgaifeaaSFnGatesx4
namespace Go.Proofs.Ytbkighlfgaifeaa.QFnGates
open Go.RowKit Go.Proofs.YtbkighlfgaifeaaW.PrintWords Go.Proofs.YtbkighlfgaifeaaW.PrintLast Go.Proofs.YtbkighlfgaifeaaW.PrintMore
open Go.Proofs.YtbkighlfgaifeaaW.PrintWords renaming pw_below_drewN → pN, below_drew1 → p1, below_alloc → pA
open Go.Proofs.YtbkighlfgaifeaaW.PrintWords.Kd renaming R_alloc → kA, R_drewN → kN, R_drew → kD, Q_alloc → qA, Q_drewN → qN, Q_drew → qD, C_alloc → cA, C_drewN → cN, C_drew → cD
open Go.Proofs.YtbkighlfgaifeaaW.PrintWords.Aside0 renaming mk → aM
open List renaming setIfInBounds_toArray → sI, set_cons_zero → s0, set_cons_succ → sS, map_toArray → mT, length_take → lT, length_drop → lD, map_cons → mC, map_nil → mN
open Option renaming bind_eq_some_iff → oB, bind_some → oS
attribute [local go_sem] max2_int min2_int max_two min_two max_three min_three max_four min_four
set_option maxHeartbeats 8000000
set_option maxRecDepth 100000
set_option linter.unusedVariables false
set_option linter.unusedSimpArgs false
def spec_ciGood.l0 : Nat → List (S57) → Int → Int → Int → List (S57) → List Int → Option (Bool)
 | 0, _, _, _, _, _, _ => none
 | k + 1, x7, x8, x9, x164000, x164001, x164002 => if x9 < x8 then (if 0 ≤ x9 then (if x9 < (x7.length : Int) then ((spec_l1In.f ((rd_T57 x7 x9).f0) 1 4).bind fun t169 => (if t169 = true then ((spec_l1In.f ((rd_T57 x7 x9).f1) 0 (wrap64 ((wrap64 (x164000 + x9)) - 1))).bind fun t170 => (if t170 = true then ((spec_l1In.f ((rd_T57 x7 x9).f2) 0 (wrap64 ((wrap64 (x164000 + x9)) - 1))).bind fun t171 => (if t171 = true then (if ((rd_T57 x7 x9).f0) = 4 then (if ((rd_T57 x7 x9).f2) = ((rd_T57 x7 x9).f1) then (spec_ciGood.l0 k x7 x8 (wrap64 (x9 + 1)) x164000 x164001 x164002) else (some false)) else (spec_ciGood.l0 k x7 x8 (wrap64 (x9 + 1)) x164000 x164001 x164002)) else (some false))) else (some false))) else (some false))) else (none)) else (none)) else ((spec_ttInputs.f x164000).bind fun t164 => (if t164 = true then (if (x164001.length : Int) ≤ 16 then ((spec_l1In.f (x164002.length : Int) 1 4).bind fun t165 => (if t165 = true then ((spec_l1All.f k x164002 0 (wrap64 ((wrap64 (x164000 + (x164001.length : Int))) - 1))).bind fun t166 => (some t166)) else (some false))) else (some false)) else (some false)))
def spec_ciGood.f (k : Nat) (a0_0 : Int) (l0_1 : List (S57)) (l0_2 : List Int) : Option (Bool) := spec_ciGood.l0 k l0_1 (l0_1.length : Int) 0 a0_0 l0_1 l0_2
theorem spec_ciGood.calls (k : Nat) (a0_0 : Int) (A0_1 : Option Addr) (c0_1 : Nat) (l0_1 : List (S57)) (A0_2 : Option Addr) (c0_2 : Nat) (l0_2 : List Int) (r : Bool) (w : World) (hr0_1 : Kd.C k57 w A0_1 l0_1.length l0_1) (hc0_1 : l0_1.length ≤ c0_1) (hr0_2 : Kd.C (Kd.int .i64) w A0_2 l0_2.length l0_2) (hc0_2 : l0_2.length ≤ c0_2) (h : spec_ciGood.f k a0_0 l0_1 l0_2 = some r) :
  Calls Try.prog 119 #[.agg #[.int .i64 a0_0, .slice A0_1 l0_1.length c0_1, .slice A0_2 l0_2.length c0_2]] w fun e w' => e = .returned (.bool r) ∧ Below w.heap.size w w' := by
 have hu49 := Try.underlying49
 have hu57 := Try.underlying57
 have HR0_1 := aM hr0_1
 have HC0_1 := aM hc0_1
 clear hr0_1 hc0_1
 have HR0_2 := aM hr0_2
 have HC0_2 := aM hc0_2
 clear hr0_2 hc0_2
 have HB := aM (Below.refl w.heap.size w)
 have H : (spec_ciGood.l0 k l0_1 (l0_1.length : Int) 0 a0_0 l0_1 l0_2) = some r := h
 clear h
 have H' := aM H
 clear H
 go_enter Try.func119, Try.ntmps119
 go_wp2_with (first | ((with_reducible refine gate_dst (N := 1) rfl ?_); (try (refine gate_guard (by rfl) ?_; dsimp only)); refine box_event ?hg (N := 1) ?hd (cs := #[.int .i64 a0_0, .slice A0_1 l0_1.length c0_1, .slice A0_2 l0_2.length c0_2]) (t := 49) ?hr ?_; (case hd => rfl); (case hg => rfl); (case hr => exact zc_); intro gb163 hg w2 hbox hb; have n_ := z (below_step zb_ hb) <| z (hbox) <| z ((by rw [hg]; exact (below_size zb_) : w.heap.size ≤ gb163)) <| z1 ((by rw [hg]; exact (below_size zb_) : w.heap.size ≤ gb163)); clear HB; obtain ⟨HB, BK163, GW163, GE163⟩ := n_; clear hb hbox hg; have hcz3_0 : w2.cell? ⟨gb163, 0, none⟩ = some (.int .i64 a0_0) := (blk_cell BK163.out 0).trans rfl; have hcz3_1 : w2.cell? ⟨gb163, 1, none⟩ = some (.slice A0_1 l0_1.length c0_1) := (blk_cell BK163.out 1).trans rfl; have hcz3_2 : w2.cell? ⟨gb163, 2, none⟩ = some (.slice A0_2 l0_2.length c0_2) := (blk_cell BK163.out 2).trans rfl; have hfz3_0 := blk_frozen BK163.out 0; have hfz3_1 := blk_frozen BK163.out 1; have hfz3_2 := blk_frozen BK163.out 2))
 go_loopg [9] k (fun kq v9 w' => ∃ (x9_1 : Int), v9 = .int .i64 x9_1 ∧ Aside0 (spec_ciGood.l0 kq l0_1 (l0_1.length : Int) x9_1 a0_0 l0_1 l0_2 = some r) ∧ Aside0 (kq ≤ k) ∧ Aside0 (w'.heap[gb163]? = some (.cells #[.int .i64 a0_0, (.slice A0_1 l0_1.length c0_1), (.slice A0_2 l0_2.length c0_2)] 49 (0, 0))) ∧ Aside0 (Below w.heap.size w w'))
 case atStart => exact ⟨(0), zd_, H', ⟨Nat.le_refl _⟩, ⟨zb BK163.out⟩, ⟨zbf_⟩⟩
 case round =>
  clear H'; (try clear hcz3_0); (try clear hcz3_1); (try clear hcz3_2); (try clear hfz3_0); (try clear hfz3_1); (try clear hfz3_2); obtain ⟨x9_1, rfl, HA, HK1, BK163, HB⟩ := hrel
  cases gk with
  | zero => exact absurd HA.out (by simp [spec_ciGood.l0])
  | succ k1 =>
   have H := HA.out; clear HA
   simp only [spec_ciGood.l0] at H
   by_cases c4 : x9_1 < (l0_1.length : Int)
   ·rw [if_pos c4] at H
    have c4b0 := decide_eq_true c4; clear c4
    by_cases c5 : 0 ≤ x9_1
    ·rw [if_pos c5] at H
     have c5b0 := decide_eq_true c5; clear c5
     by_cases c6 : x9_1 < (l0_1.length : Int)
     ·rw [if_pos c6] at H
      have c6b0 := decide_eq_true c6; clear c6; replace H := oB.mp H; obtain ⟨t169, A70, H⟩ := H; replace H : (if t169 = true then ((spec_l1In.f ((rd_T57 l0_1 x9_1).f1) 0 (wrap64 ((wrap64 (a0_0 + x9_1)) - 1))).bind fun t170 => (if t170 = true then ((spec_l1In.f ((rd_T57 l0_1 x9_1).f2) 0 (wrap64 ((wrap64 (a0_0 + x9_1)) - 1))).bind fun t171 => (if t171 = true then (if ((rd_T57 l0_1 x9_1).f0) = 4 then (if ((rd_T57 l0_1 x9_1).f2) = ((rd_T57 l0_1 x9_1).f1) then (spec_ciGood.l0 k1 l0_1 (l0_1.length : Int) (wrap64 (x9_1 + 1)) a0_0 l0_1 l0_2) else (some false)) else (spec_ciGood.l0 k1 l0_1 (l0_1.length : Int) (wrap64 (x9_1 + 1)) a0_0 l0_1 l0_2)) else (some false))) else (some false))) else (some false)) = some r := H; have A7 := aM A70; clear A70
      by_cases c8 : t169 = true
      ·subst c8
       have H1 : ((spec_l1In.f ((rd_T57 l0_1 x9_1).f1) 0 (wrap64 ((wrap64 (a0_0 + x9_1)) - 1))).bind fun t170 => (if t170 = true then ((spec_l1In.f ((rd_T57 l0_1 x9_1).f2) 0 (wrap64 ((wrap64 (a0_0 + x9_1)) - 1))).bind fun t171 => (if t171 = true then (if ((rd_T57 l0_1 x9_1).f0) = 4 then (if ((rd_T57 l0_1 x9_1).f2) = ((rd_T57 l0_1 x9_1).f1) then (spec_ciGood.l0 k1 l0_1 (l0_1.length : Int) (wrap64 (x9_1 + 1)) a0_0 l0_1 l0_2) else (some false)) else (spec_ciGood.l0 k1 l0_1 (l0_1.length : Int) (wrap64 (x9_1 + 1)) a0_0 l0_1 l0_2)) else (some false))) else (some false))) = some r := by rw [if_pos rfl] at H; exact H
       clear H; have H := H1; clear H1; replace H := oB.mp H; obtain ⟨t170, A90, H⟩ := H; replace H : (if t170 = true then ((spec_l1In.f ((rd_T57 l0_1 x9_1).f2) 0 (wrap64 ((wrap64 (a0_0 + x9_1)) - 1))).bind fun t171 => (if t171 = true then (if ((rd_T57 l0_1 x9_1).f0) = 4 then (if ((rd_T57 l0_1 x9_1).f2) = ((rd_T57 l0_1 x9_1).f1) then (spec_ciGood.l0 k1 l0_1 (l0_1.length : Int) (wrap64 (x9_1 + 1)) a0_0 l0_1 l0_2) else (some false)) else (spec_ciGood.l0 k1 l0_1 (l0_1.length : Int) (wrap64 (x9_1 + 1)) a0_0 l0_1 l0_2)) else (some false))) else (some false)) = some r := H; have A9 := aM A90; clear A90
       by_cases c10 : t170 = true
       ·subst c10
        have H1 : ((spec_l1In.f ((rd_T57 l0_1 x9_1).f2) 0 (wrap64 ((wrap64 (a0_0 + x9_1)) - 1))).bind fun t171 => (if t171 = true then (if ((rd_T57 l0_1 x9_1).f0) = 4 then (if ((rd_T57 l0_1 x9_1).f2) = ((rd_T57 l0_1 x9_1).f1) then (spec_ciGood.l0 k1 l0_1 (l0_1.length : Int) (wrap64 (x9_1 + 1)) a0_0 l0_1 l0_2) else (some false)) else (spec_ciGood.l0 k1 l0_1 (l0_1.length : Int) (wrap64 (x9_1 + 1)) a0_0 l0_1 l0_2)) else (some false))) = some r := by rw [if_pos rfl] at H; exact H
        clear H; have H := H1; clear H1; replace H := oB.mp H; obtain ⟨t171, A110, H⟩ := H; replace H : (if t171 = true then (if ((rd_T57 l0_1 x9_1).f0) = 4 then (if ((rd_T57 l0_1 x9_1).f2) = ((rd_T57 l0_1 x9_1).f1) then (spec_ciGood.l0 k1 l0_1 (l0_1.length : Int) (wrap64 (x9_1 + 1)) a0_0 l0_1 l0_2) else (some false)) else (spec_ciGood.l0 k1 l0_1 (l0_1.length : Int) (wrap64 (x9_1 + 1)) a0_0 l0_1 l0_2)) else (some false)) = some r := H; have A11 := aM A110; clear A110
        by_cases c12 : t171 = true
        ·subst c12
         have H1 : (if ((rd_T57 l0_1 x9_1).f0) = 4 then (if ((rd_T57 l0_1 x9_1).f2) = ((rd_T57 l0_1 x9_1).f1) then (spec_ciGood.l0 k1 l0_1 (l0_1.length : Int) (wrap64 (x9_1 + 1)) a0_0 l0_1 l0_2) else (some false)) else (spec_ciGood.l0 k1 l0_1 (l0_1.length : Int) (wrap64 (x9_1 + 1)) a0_0 l0_1 l0_2)) = some r := by rw [if_pos rfl] at H; exact H
         clear H; have H := H1; clear H1
         by_cases c13 : ((rd_T57 l0_1 x9_1).f0) = 4
         ·rw [if_pos c13] at H
          have c13b0 := beq_iff_eq.mpr c13; have c13b1 := bne_eq_false_iff_eq.mpr c13; clear c13
          by_cases c14 : ((rd_T57 l0_1 x9_1).f2) = ((rd_T57 l0_1 x9_1).f1)
          ·rw [if_pos c14] at H
           have c14b0 := beq_iff_eq.mpr c14; have c14b1 := bne_eq_false_iff_eq.mpr c14; clear c14; have H' := aM H; clear H; have p167 : 0 ≤ (x9_1 : Int) := of_decide_eq_true za_; have q167 : x9_1 < (l0_1.length : Int) := of_decide_eq_true za_; obtain ⟨ad167, e167, hx167_0, hx167_1, hx167_2⟩ := at_T57 HR0_1.out x9_1 p167 q167
           cases e167
           (try (replace hx167_0 := (HB.out.cell (World.block_lt_of_cell? w _ hx167_0)).trans hx167_0)); (try (replace hx167_1 := (HB.out.cell (World.block_lt_of_cell? w _ hx167_1)).trans hx167_1)); (try (replace hx167_2 := (HB.out.cell (World.block_lt_of_cell? w _ hx167_2)).trans hx167_2)); replace p167 := eq_true p167; replace q167 := eq_true q167
           go_wp2_with (first | ((with_reducible refine gate_dst (N := 4) rfl ?_); (try (refine gate_guard (by rfl) ?_; dsimp only)); refine box_event ?hg (N := 4) ?hd (cs := #[.int .i64 0, .int .i64 0, .int .i64 0]) (t := 57) ?hr ?_; (case hd => rfl); (case hg => rfl); (case hr => exact zc_); intro gb168 hg w15 hbox hb; have n_ := z (blk_below (zb BK163.out) hb) <| z (below_step zbf_ hb) <| z (hbox) <| z ((by rw [hg]; exact (below_size zbf_) : w.heap.size ≤ gb168)) <| z ((by rw [hg]; exact (below_size zbf_) : w.heap.size ≤ gb168)) <| z ((by rw [hg]; exact Nat.ne_of_lt (blk_lt (zb BK163.out)) : gb163 ≠ gb168)) <| z1 ((by rw [hg]; exact Nat.ne_of_gt (blk_lt (zb BK163.out)) : gb168 ≠ gb163)); clear BK163 HB; obtain ⟨BK163, HB, BK168, GW168, GE168, NB163_168, NB168_163⟩ := n_; clear hb hbox hg; have hnb16 := NB168_163.out; have hnc16 := NB163_168.out; have hcz17_0 : w15.cell? ⟨gb168, 0, none⟩ = some (.int .i64 0) := (blk_cell BK168.out 0).trans rfl; have hcz17_1 : w15.cell? ⟨gb168, 1, none⟩ = some (.int .i64 0) := (blk_cell BK168.out 1).trans rfl; have hcz17_2 : w15.cell? ⟨gb168, 2, none⟩ = some (.int .i64 0) := (blk_cell BK168.out 2).trans rfl; have hfz17_0 := blk_frozen BK168.out 0; have hfz17_1 := blk_frozen BK168.out 1; have hfz17_2 := blk_frozen BK168.out 2; have hcz18_0 : w15.cell? ⟨gb163, 0, none⟩ = some (.int .i64 a0_0) := (blk_cell BK163.out 0).trans rfl; have hcz18_1 : w15.cell? ⟨gb163, 1, none⟩ = some (.slice (some ad167) l0_1.length c0_1) := (blk_cell BK163.out 1).trans rfl; have hcz18_2 : w15.cell? ⟨gb163, 2, none⟩ = some (.slice A0_2 l0_2.length c0_2) := (blk_cell BK163.out 2).trans rfl; have hfz18_0 := blk_frozen BK163.out 0; have hfz18_1 := blk_frozen BK163.out 1; have hfz18_2 := blk_frozen BK163.out 2) | ((with_reducible refine gate_callee (f := 108) rfl ?_); refine goesL_ (some 20) rfl rfl Try.func108 (by kernel_rfl) rfl #[.int .i64 ((rd_T57 l0_1 x9_1).f0), .int .i64 1, .int .i64 4] rfl ze_ ?_; (with_reducible refine (spec_l1In.calls ((rd_T57 l0_1 x9_1).f0) 1 4 true _ A7.out).mono ?_); rintro e w' ⟨rfl, ⟨nd, rfl⟩⟩; refine ⟨_, rfl, ?_⟩) | (go_at_call 108; (with_reducible refine (spec_l1In.calls ((rd_T57 l0_1 x9_1).f1) 0 (wrap64 ((wrap64 (a0_0 + x9_1)) - 1)) true _ A9.out).mono ?_); rintro e w' ⟨rfl, ⟨nd, rfl⟩⟩) | (go_at_call 108; (with_reducible refine (spec_l1In.calls ((rd_T57 l0_1 x9_1).f2) 0 (wrap64 ((wrap64 (a0_0 + x9_1)) - 1)) true _ A11.out).mono ?_); rintro e w' ⟨rfl, ⟨nd, rfl⟩⟩))
           go_roundg k1
           case measure => have := HK1.out; omega
           case rel => exact ⟨(wrap64 (x9_1 + 1)), zd_, H', ⟨zbd_⟩, ⟨by refine zb ?_; refine blk_far ?_ NB163_168.out _; refine zb ?_; refine blk_far ?_ NB163_168.out _; refine zb ?_; refine blk_far ?_ NB163_168.out _; refine zb ?_; exact BK163.out⟩, ⟨zgf_⟩⟩
          ·rw [if_neg c14] at H
           have c14b0 := beq_eq_false_iff_ne.mpr c14; have c14b1 := bne_iff_ne.mpr c14; obtain rfl := Option.some.inj H; have p167 : 0 ≤ (x9_1 : Int) := of_decide_eq_true za_; have q167 : x9_1 < (l0_1.length : Int) := of_decide_eq_true za_; obtain ⟨ad167, e167, hx167_0, hx167_1, hx167_2⟩ := at_T57 HR0_1.out x9_1 p167 q167
           cases e167
           (try (replace hx167_0 := (HB.out.cell (World.block_lt_of_cell? w _ hx167_0)).trans hx167_0)); (try (replace hx167_1 := (HB.out.cell (World.block_lt_of_cell? w _ hx167_1)).trans hx167_1)); (try (replace hx167_2 := (HB.out.cell (World.block_lt_of_cell? w _ hx167_2)).trans hx167_2)); replace p167 := eq_true p167; replace q167 := eq_true q167
           go_wp2_with (first | ((with_reducible refine gate_dst (N := 4) rfl ?_); (try (refine gate_guard (by rfl) ?_; dsimp only)); refine box_event ?hg (N := 4) ?hd (cs := #[.int .i64 0, .int .i64 0, .int .i64 0]) (t := 57) ?hr ?_; (case hd => rfl); (case hg => rfl); (case hr => exact zc_); intro gb168 hg w19 hbox hb; have n_ := z (blk_below (zb BK163.out) hb) <| z (below_step zbf_ hb) <| z (hbox) <| z ((by rw [hg]; exact (below_size zbf_) : w.heap.size ≤ gb168)) <| z ((by rw [hg]; exact (below_size zbf_) : w.heap.size ≤ gb168)) <| z ((by rw [hg]; exact Nat.ne_of_lt (blk_lt (zb BK163.out)) : gb163 ≠ gb168)) <| z1 ((by rw [hg]; exact Nat.ne_of_gt (blk_lt (zb BK163.out)) : gb168 ≠ gb163)); clear BK163 HB; obtain ⟨BK163, HB, BK168, GW168, GE168, NB163_168, NB168_163⟩ := n_; clear hb hbox hg; have hnb20 := NB168_163.out; have hnc20 := NB163_168.out; have hcz21_0 : w19.cell? ⟨gb168, 0, none⟩ = some (.int .i64 0) := (blk_cell BK168.out 0).trans rfl; have hcz21_1 : w19.cell? ⟨gb168, 1, none⟩ = some (.int .i64 0) := (blk_cell BK168.out 1).trans rfl; have hcz21_2 : w19.cell? ⟨gb168, 2, none⟩ = some (.int .i64 0) := (blk_cell BK168.out 2).trans rfl; have hfz21_0 := blk_frozen BK168.out 0; have hfz21_1 := blk_frozen BK168.out 1; have hfz21_2 := blk_frozen BK168.out 2; have hcz22_0 : w19.cell? ⟨gb163, 0, none⟩ = some (.int .i64 a0_0) := (blk_cell BK163.out 0).trans rfl; have hcz22_1 : w19.cell? ⟨gb163, 1, none⟩ = some (.slice (some ad167) l0_1.length c0_1) := (blk_cell BK163.out 1).trans rfl; have hcz22_2 : w19.cell? ⟨gb163, 2, none⟩ = some (.slice A0_2 l0_2.length c0_2) := (blk_cell BK163.out 2).trans rfl; have hfz22_0 := blk_frozen BK163.out 0; have hfz22_1 := blk_frozen BK163.out 1; have hfz22_2 := blk_frozen BK163.out 2) | ((with_reducible refine gate_callee (f := 108) rfl ?_); refine goesL_ (some 20) rfl rfl Try.func108 (by kernel_rfl) rfl #[.int .i64 ((rd_T57 l0_1 x9_1).f0), .int .i64 1, .int .i64 4] rfl ze_ ?_; (with_reducible refine (spec_l1In.calls ((rd_T57 l0_1 x9_1).f0) 1 4 true _ A7.out).mono ?_); rintro e w' ⟨rfl, ⟨nd, rfl⟩⟩; refine ⟨_, rfl, ?_⟩) | (go_at_call 108; (with_reducible refine (spec_l1In.calls ((rd_T57 l0_1 x9_1).f1) 0 (wrap64 ((wrap64 (a0_0 + x9_1)) - 1)) true _ A9.out).mono ?_); rintro e w' ⟨rfl, ⟨nd, rfl⟩⟩) | (go_at_call 108; (with_reducible refine (spec_l1In.calls ((rd_T57 l0_1 x9_1).f2) 0 (wrap64 ((wrap64 (a0_0 + x9_1)) - 1)) true _ A11.out).mono ?_); rintro e w' ⟨rfl, ⟨nd, rfl⟩⟩))
           go_ret
           exact ⟨zf_, zgf_⟩
         ·rw [if_neg c13] at H
          have c13b0 := beq_eq_false_iff_ne.mpr c13; have c13b1 := bne_iff_ne.mpr c13; have H' := aM H; clear H; have p167 : 0 ≤ (x9_1 : Int) := of_decide_eq_true za_; have q167 : x9_1 < (l0_1.length : Int) := of_decide_eq_true za_; obtain ⟨ad167, e167, hx167_0, hx167_1, hx167_2⟩ := at_T57 HR0_1.out x9_1 p167 q167
          cases e167
          (try (replace hx167_0 := (HB.out.cell (World.block_lt_of_cell? w _ hx167_0)).trans hx167_0)); (try (replace hx167_1 := (HB.out.cell (World.block_lt_of_cell? w _ hx167_1)).trans hx167_1)); (try (replace hx167_2 := (HB.out.cell (World.block_lt_of_cell? w _ hx167_2)).trans hx167_2)); replace p167 := eq_true p167; replace q167 := eq_true q167
          go_wp2_with (first | ((with_reducible refine gate_dst (N := 4) rfl ?_); (try (refine gate_guard (by rfl) ?_; dsimp only)); refine box_event ?hg (N := 4) ?hd (cs := #[.int .i64 0, .int .i64 0, .int .i64 0]) (t := 57) ?hr ?_; (case hd => rfl); (case hg => rfl); (case hr => exact zc_); intro gb168 hg w23 hbox hb; have n_ := z (blk_below (zb BK163.out) hb) <| z (below_step zbf_ hb) <| z (hbox) <| z ((by rw [hg]; exact (below_size zbf_) : w.heap.size ≤ gb168)) <| z ((by rw [hg]; exact (below_size zbf_) : w.heap.size ≤ gb168)) <| z ((by rw [hg]; exact Nat.ne_of_lt (blk_lt (zb BK163.out)) : gb163 ≠ gb168)) <| z1 ((by rw [hg]; exact Nat.ne_of_gt (blk_lt (zb BK163.out)) : gb168 ≠ gb163)); clear BK163 HB; obtain ⟨BK163, HB, BK168, GW168, GE168, NB163_168, NB168_163⟩ := n_; clear hb hbox hg; have hnb24 := NB168_163.out; have hnc24 := NB163_168.out; have hcz25_0 : w23.cell? ⟨gb168, 0, none⟩ = some (.int .i64 0) := (blk_cell BK168.out 0).trans rfl; have hcz25_1 : w23.cell? ⟨gb168, 1, none⟩ = some (.int .i64 0) := (blk_cell BK168.out 1).trans rfl; have hcz25_2 : w23.cell? ⟨gb168, 2, none⟩ = some (.int .i64 0) := (blk_cell BK168.out 2).trans rfl; have hfz25_0 := blk_frozen BK168.out 0; have hfz25_1 := blk_frozen BK168.out 1; have hfz25_2 := blk_frozen BK168.out 2; have hcz26_0 : w23.cell? ⟨gb163, 0, none⟩ = some (.int .i64 a0_0) := (blk_cell BK163.out 0).trans rfl; have hcz26_1 : w23.cell? ⟨gb163, 1, none⟩ = some (.slice (some ad167) l0_1.length c0_1) := (blk_cell BK163.out 1).trans rfl; have hcz26_2 : w23.cell? ⟨gb163, 2, none⟩ = some (.slice A0_2 l0_2.length c0_2) := (blk_cell BK163.out 2).trans rfl; have hfz26_0 := blk_frozen BK163.out 0; have hfz26_1 := blk_frozen BK163.out 1; have hfz26_2 := blk_frozen BK163.out 2) | ((with_reducible refine gate_callee (f := 108) rfl ?_); refine goesL_ (some 20) rfl rfl Try.func108 (by kernel_rfl) rfl #[.int .i64 ((rd_T57 l0_1 x9_1).f0), .int .i64 1, .int .i64 4] rfl ze_ ?_; (with_reducible refine (spec_l1In.calls ((rd_T57 l0_1 x9_1).f0) 1 4 true _ A7.out).mono ?_); rintro e w' ⟨rfl, ⟨nd, rfl⟩⟩; refine ⟨_, rfl, ?_⟩) | (go_at_call 108; (with_reducible refine (spec_l1In.calls ((rd_T57 l0_1 x9_1).f1) 0 (wrap64 ((wrap64 (a0_0 + x9_1)) - 1)) true _ A9.out).mono ?_); rintro e w' ⟨rfl, ⟨nd, rfl⟩⟩) | (go_at_call 108; (with_reducible refine (spec_l1In.calls ((rd_T57 l0_1 x9_1).f2) 0 (wrap64 ((wrap64 (a0_0 + x9_1)) - 1)) true _ A11.out).mono ?_); rintro e w' ⟨rfl, ⟨nd, rfl⟩⟩))
          go_roundg k1
          case measure => have := HK1.out; omega
          case rel => exact ⟨(wrap64 (x9_1 + 1)), zd_, H', ⟨zbd_⟩, ⟨by refine zb ?_; refine blk_far ?_ NB163_168.out _; refine zb ?_; refine blk_far ?_ NB163_168.out _; refine zb ?_; refine blk_far ?_ NB163_168.out _; refine zb ?_; exact BK163.out⟩, ⟨zgf_⟩⟩
        ·replace c12 := Bool.eq_false_iff.mpr c12
         subst c12; have H1 : (some false) = some r := by rw [if_neg (show ¬ (false = true) by decide)] at H; exact H
         clear H; have H := H1; clear H1; obtain rfl := Option.some.inj H; have p167 : 0 ≤ (x9_1 : Int) := of_decide_eq_true za_; have q167 : x9_1 < (l0_1.length : Int) := of_decide_eq_true za_; obtain ⟨ad167, e167, hx167_0, hx167_1, hx167_2⟩ := at_T57 HR0_1.out x9_1 p167 q167
         cases e167
         (try (replace hx167_0 := (HB.out.cell (World.block_lt_of_cell? w _ hx167_0)).trans hx167_0)); (try (replace hx167_1 := (HB.out.cell (World.block_lt_of_cell? w _ hx167_1)).trans hx167_1)); (try (replace hx167_2 := (HB.out.cell (World.block_lt_of_cell? w _ hx167_2)).trans hx167_2)); replace p167 := eq_true p167; replace q167 := eq_true q167
         go_wp2_with (first | ((with_reducible refine gate_dst (N := 4) rfl ?_); (try (refine gate_guard (by rfl) ?_; dsimp only)); refine box_event ?hg (N := 4) ?hd (cs := #[.int .i64 0, .int .i64 0, .int .i64 0]) (t := 57) ?hr ?_; (case hd => rfl); (case hg => rfl); (case hr => exact zc_); intro gb168 hg w27 hbox hb; have n_ := z (blk_below (zb BK163.out) hb) <| z (below_step zbf_ hb) <| z (hbox) <| z ((by rw [hg]; exact (below_size zbf_) : w.heap.size ≤ gb168)) <| z ((by rw [hg]; exact (below_size zbf_) : w.heap.size ≤ gb168)) <| z ((by rw [hg]; exact Nat.ne_of_lt (blk_lt (zb BK163.out)) : gb163 ≠ gb168)) <| z1 ((by rw [hg]; exact Nat.ne_of_gt (blk_lt (zb BK163.out)) : gb168 ≠ gb163)); clear BK163 HB; obtain ⟨BK163, HB, BK168, GW168, GE168, NB163_168, NB168_163⟩ := n_; clear hb hbox hg; have hnb28 := NB168_163.out; have hnc28 := NB163_168.out; have hcz29_0 : w27.cell? ⟨gb168, 0, none⟩ = some (.int .i64 0) := (blk_cell BK168.out 0).trans rfl; have hcz29_1 : w27.cell? ⟨gb168, 1, none⟩ = some (.int .i64 0) := (blk_cell BK168.out 1).trans rfl; have hcz29_2 : w27.cell? ⟨gb168, 2, none⟩ = some (.int .i64 0) := (blk_cell BK168.out 2).trans rfl; have hfz29_0 := blk_frozen BK168.out 0; have hfz29_1 := blk_frozen BK168.out 1; have hfz29_2 := blk_frozen BK168.out 2; have hcz30_0 : w27.cell? ⟨gb163, 0, none⟩ = some (.int .i64 a0_0) := (blk_cell BK163.out 0).trans rfl; have hcz30_1 : w27.cell? ⟨gb163, 1, none⟩ = some (.slice (some ad167) l0_1.length c0_1) := (blk_cell BK163.out 1).trans rfl; have hcz30_2 : w27.cell? ⟨gb163, 2, none⟩ = some (.slice A0_2 l0_2.length c0_2) := (blk_cell BK163.out 2).trans rfl; have hfz30_0 := blk_frozen BK163.out 0; have hfz30_1 := blk_frozen BK163.out 1; have hfz30_2 := blk_frozen BK163.out 2) | ((with_reducible refine gate_callee (f := 108) rfl ?_); refine goesL_ (some 20) rfl rfl Try.func108 (by kernel_rfl) rfl #[.int .i64 ((rd_T57 l0_1 x9_1).f0), .int .i64 1, .int .i64 4] rfl ze_ ?_; (with_reducible refine (spec_l1In.calls ((rd_T57 l0_1 x9_1).f0) 1 4 true _ A7.out).mono ?_); rintro e w' ⟨rfl, ⟨nd, rfl⟩⟩; refine ⟨_, rfl, ?_⟩) | (go_at_call 108; (with_reducible refine (spec_l1In.calls ((rd_T57 l0_1 x9_1).f1) 0 (wrap64 ((wrap64 (a0_0 + x9_1)) - 1)) true _ A9.out).mono ?_); rintro e w' ⟨rfl, ⟨nd, rfl⟩⟩) | (go_at_call 108; (with_reducible refine (spec_l1In.calls ((rd_T57 l0_1 x9_1).f2) 0 (wrap64 ((wrap64 (a0_0 + x9_1)) - 1)) false _ A11.out).mono ?_); rintro e w' ⟨rfl, ⟨nd, rfl⟩⟩))
         go_ret
         exact ⟨zf_, zgf_⟩
       ·replace c10 := Bool.eq_false_iff.mpr c10
        subst c10; have H1 : (some false) = some r := by rw [if_neg (show ¬ (false = true) by decide)] at H; exact H
        clear H; have H := H1; clear H1; obtain rfl := Option.some.inj H; have p167 : 0 ≤ (x9_1 : Int) := of_decide_eq_true za_; have q167 : x9_1 < (l0_1.length : Int) := of_decide_eq_true za_; obtain ⟨ad167, e167, hx167_0, hx167_1, hx167_2⟩ := at_T57 HR0_1.out x9_1 p167 q167
        cases e167
        (try (replace hx167_0 := (HB.out.cell (World.block_lt_of_cell? w _ hx167_0)).trans hx167_0)); (try (replace hx167_1 := (HB.out.cell (World.block_lt_of_cell? w _ hx167_1)).trans hx167_1)); (try (replace hx167_2 := (HB.out.cell (World.block_lt_of_cell? w _ hx167_2)).trans hx167_2)); replace p167 := eq_true p167; replace q167 := eq_true q167
        go_wp2_with (first | ((with_reducible refine gate_dst (N := 4) rfl ?_); (try (refine gate_guard (by rfl) ?_; dsimp only)); refine box_event ?hg (N := 4) ?hd (cs := #[.int .i64 0, .int .i64 0, .int .i64 0]) (t := 57) ?hr ?_; (case hd => rfl); (case hg => rfl); (case hr => exact zc_); intro gb168 hg w31 hbox hb; have n_ := z (blk_below (zb BK163.out) hb) <| z (below_step zbf_ hb) <| z (hbox) <| z ((by rw [hg]; exact (below_size zbf_) : w.heap.size ≤ gb168)) <| z ((by rw [hg]; exact (below_size zbf_) : w.heap.size ≤ gb168)) <| z ((by rw [hg]; exact Nat.ne_of_lt (blk_lt (zb BK163.out)) : gb163 ≠ gb168)) <| z1 ((by rw [hg]; exact Nat.ne_of_gt (blk_lt (zb BK163.out)) : gb168 ≠ gb163)); clear BK163 HB; obtain ⟨BK163, HB, BK168, GW168, GE168, NB163_168, NB168_163⟩ := n_; clear hb hbox hg; have hnb32 := NB168_163.out; have hnc32 := NB163_168.out; have hcz33_0 : w31.cell? ⟨gb168, 0, none⟩ = some (.int .i64 0) := (blk_cell BK168.out 0).trans rfl; have hcz33_1 : w31.cell? ⟨gb168, 1, none⟩ = some (.int .i64 0) := (blk_cell BK168.out 1).trans rfl; have hcz33_2 : w31.cell? ⟨gb168, 2, none⟩ = some (.int .i64 0) := (blk_cell BK168.out 2).trans rfl; have hfz33_0 := blk_frozen BK168.out 0; have hfz33_1 := blk_frozen BK168.out 1; have hfz33_2 := blk_frozen BK168.out 2; have hcz34_0 : w31.cell? ⟨gb163, 0, none⟩ = some (.int .i64 a0_0) := (blk_cell BK163.out 0).trans rfl; have hcz34_1 : w31.cell? ⟨gb163, 1, none⟩ = some (.slice (some ad167) l0_1.length c0_1) := (blk_cell BK163.out 1).trans rfl; have hcz34_2 : w31.cell? ⟨gb163, 2, none⟩ = some (.slice A0_2 l0_2.length c0_2) := (blk_cell BK163.out 2).trans rfl; have hfz34_0 := blk_frozen BK163.out 0; have hfz34_1 := blk_frozen BK163.out 1; have hfz34_2 := blk_frozen BK163.out 2) | ((with_reducible refine gate_callee (f := 108) rfl ?_); refine goesL_ (some 20) rfl rfl Try.func108 (by kernel_rfl) rfl #[.int .i64 ((rd_T57 l0_1 x9_1).f0), .int .i64 1, .int .i64 4] rfl ze_ ?_; (with_reducible refine (spec_l1In.calls ((rd_T57 l0_1 x9_1).f0) 1 4 true _ A7.out).mono ?_); rintro e w' ⟨rfl, ⟨nd, rfl⟩⟩; refine ⟨_, rfl, ?_⟩) | (go_at_call 108; (with_reducible refine (spec_l1In.calls ((rd_T57 l0_1 x9_1).f1) 0 (wrap64 ((wrap64 (a0_0 + x9_1)) - 1)) false _ A9.out).mono ?_); rintro e w' ⟨rfl, ⟨nd, rfl⟩⟩))
        go_ret
        exact ⟨zf_, zgf_⟩
      ·replace c8 := Bool.eq_false_iff.mpr c8
       subst c8; have H1 : (some false) = some r := by rw [if_neg (show ¬ (false = true) by decide)] at H; exact H
       clear H; have H := H1; clear H1; obtain rfl := Option.some.inj H; have p167 : 0 ≤ (x9_1 : Int) := of_decide_eq_true za_; have q167 : x9_1 < (l0_1.length : Int) := of_decide_eq_true za_; obtain ⟨ad167, e167, hx167_0, hx167_1, hx167_2⟩ := at_T57 HR0_1.out x9_1 p167 q167
       cases e167
       (try (replace hx167_0 := (HB.out.cell (World.block_lt_of_cell? w _ hx167_0)).trans hx167_0)); (try (replace hx167_1 := (HB.out.cell (World.block_lt_of_cell? w _ hx167_1)).trans hx167_1)); (try (replace hx167_2 := (HB.out.cell (World.block_lt_of_cell? w _ hx167_2)).trans hx167_2)); replace p167 := eq_true p167; replace q167 := eq_true q167
       go_wp2_with (first | ((with_reducible refine gate_dst (N := 4) rfl ?_); (try (refine gate_guard (by rfl) ?_; dsimp only)); refine box_event ?hg (N := 4) ?hd (cs := #[.int .i64 0, .int .i64 0, .int .i64 0]) (t := 57) ?hr ?_; (case hd => rfl); (case hg => rfl); (case hr => exact zc_); intro gb168 hg w35 hbox hb; have n_ := z (blk_below (zb BK163.out) hb) <| z (below_step zbf_ hb) <| z (hbox) <| z ((by rw [hg]; exact (below_size zbf_) : w.heap.size ≤ gb168)) <| z ((by rw [hg]; exact (below_size zbf_) : w.heap.size ≤ gb168)) <| z ((by rw [hg]; exact Nat.ne_of_lt (blk_lt (zb BK163.out)) : gb163 ≠ gb168)) <| z1 ((by rw [hg]; exact Nat.ne_of_gt (blk_lt (zb BK163.out)) : gb168 ≠ gb163)); clear BK163 HB; obtain ⟨BK163, HB, BK168, GW168, GE168, NB163_168, NB168_163⟩ := n_; clear hb hbox hg; have hnb36 := NB168_163.out; have hnc36 := NB163_168.out; have hcz37_0 : w35.cell? ⟨gb168, 0, none⟩ = some (.int .i64 0) := (blk_cell BK168.out 0).trans rfl; have hcz37_1 : w35.cell? ⟨gb168, 1, none⟩ = some (.int .i64 0) := (blk_cell BK168.out 1).trans rfl; have hcz37_2 : w35.cell? ⟨gb168, 2, none⟩ = some (.int .i64 0) := (blk_cell BK168.out 2).trans rfl; have hfz37_0 := blk_frozen BK168.out 0; have hfz37_1 := blk_frozen BK168.out 1; have hfz37_2 := blk_frozen BK168.out 2; have hcz38_0 : w35.cell? ⟨gb163, 0, none⟩ = some (.int .i64 a0_0) := (blk_cell BK163.out 0).trans rfl; have hcz38_1 : w35.cell? ⟨gb163, 1, none⟩ = some (.slice (some ad167) l0_1.length c0_1) := (blk_cell BK163.out 1).trans rfl; have hcz38_2 : w35.cell? ⟨gb163, 2, none⟩ = some (.slice A0_2 l0_2.length c0_2) := (blk_cell BK163.out 2).trans rfl; have hfz38_0 := blk_frozen BK163.out 0; have hfz38_1 := blk_frozen BK163.out 1; have hfz38_2 := blk_frozen BK163.out 2) | ((with_reducible refine gate_callee (f := 108) rfl ?_); refine goesL_ (some 20) rfl rfl Try.func108 (by kernel_rfl) rfl #[.int .i64 ((rd_T57 l0_1 x9_1).f0), .int .i64 1, .int .i64 4] rfl ze_ ?_; (with_reducible refine (spec_l1In.calls ((rd_T57 l0_1 x9_1).f0) 1 4 false _ A7.out).mono ?_); rintro e w' ⟨rfl, ⟨nd, rfl⟩⟩; refine ⟨_, rfl, ?_⟩))
       go_ret
       exact ⟨zf_, zgf_⟩
     ·rw [if_neg c6] at H
      exact absurd H (by simp)
    ·rw [if_neg c5] at H
     exact absurd H (by simp)
   ·rw [if_neg c4] at H
    have c4b0 := decide_eq_false c4; clear c4; replace H := oB.mp H; obtain ⟨t164, A390, H⟩ := H; replace H : (if t164 = true then (if (l0_1.length : Int) ≤ 16 then ((spec_l1In.f (l0_2.length : Int) 1 4).bind fun t165 => (if t165 = true then ((spec_l1All.f k1 l0_2 0 (wrap64 ((wrap64 (a0_0 + (l0_1.length : Int))) - 1))).bind fun t166 => (some t166)) else (some false))) else (some false)) else (some false)) = some r := H; have A39 := aM A390; clear A390
    by_cases c40 : t164 = true
    ·subst c40
     have H1 : (if (l0_1.length : Int) ≤ 16 then ((spec_l1In.f (l0_2.length : Int) 1 4).bind fun t165 => (if t165 = true then ((spec_l1All.f k1 l0_2 0 (wrap64 ((wrap64 (a0_0 + (l0_1.length : Int))) - 1))).bind fun t166 => (some t166)) else (some false))) else (some false)) = some r := by rw [if_pos rfl] at H; exact H
     clear H; have H := H1; clear H1
     by_cases c41 : (l0_1.length : Int) ≤ 16
     ·rw [if_pos c41] at H
      have c41b0 := decide_eq_true c41; have c41b1 : decide (l0_1.length ≤ 16) = true := decide_eq_true (by omega); clear c41; replace H := oB.mp H; obtain ⟨t165, A420, H⟩ := H; replace H : (if t165 = true then ((spec_l1All.f k1 l0_2 0 (wrap64 ((wrap64 (a0_0 + (l0_1.length : Int))) - 1))).bind fun t166 => (some t166)) else (some false)) = some r := H; have A42 := aM A420; clear A420
      by_cases c43 : t165 = true
      ·subst c43
       have H1 : ((spec_l1All.f k1 l0_2 0 (wrap64 ((wrap64 (a0_0 + (l0_1.length : Int))) - 1))).bind fun t166 => (some t166)) = some r := by rw [if_pos rfl] at H; exact H
       clear H; have H := H1; clear H1; replace H := oB.mp H; obtain ⟨t166, A440, H⟩ := H; replace H : (some t166) = some r := H; have A44 := aM A440; clear A440; obtain rfl := Option.some.inj H; have hcz45_0 : wr.cell? ⟨gb163, 0, none⟩ = some (.int .i64 a0_0) := (blk_cell BK163.out 0).trans rfl; have hcz45_1 : wr.cell? ⟨gb163, 1, none⟩ = some (.slice A0_1 l0_1.length c0_1) := (blk_cell BK163.out 1).trans rfl; have hcz45_2 : wr.cell? ⟨gb163, 2, none⟩ = some (.slice A0_2 l0_2.length c0_2) := (blk_cell BK163.out 2).trans rfl; have hfz45_0 := blk_frozen BK163.out 0; have hfz45_1 := blk_frozen BK163.out 1; have hfz45_2 := blk_frozen BK163.out 2
       go_wp2_with (first | ((with_reducible refine gate_callee (f := 144) rfl ?_); refine goesL_ (some 53) rfl rfl Try.func144 (by kernel_rfl) rfl #[.int .i64 a0_0] rfl ze_ ?_; (with_reducible refine (spec_ttInputs.calls a0_0 true _ A39.out).mono ?_); rintro e w' ⟨rfl, ⟨nd, rfl⟩⟩; refine ⟨_, rfl, ?_⟩) | (go_at_call 108; (with_reducible refine (spec_l1In.calls (l0_2.length : Int) 1 4 true _ A42.out).mono ?_); rintro e w' ⟨rfl, ⟨nd, rfl⟩⟩) | (go_at_call 126; (with_reducible refine (spec_l1All.calls k1 _ _ l0_2 0 (wrap64 ((wrap64 (a0_0 + (l0_1.length : Int))) - 1)) t166 _ ?side1 ?side2 A44.out).mono ?_); (case side1 => repeat (first | exact (Kd.C_below HR0_2.out zbf_) | (with_reducible refine cA ?_ _) | (with_reducible refine cN ?_ _) | (with_reducible refine cD ?_))); (case side2 => exact HC0_2.out); rintro e w' ⟨rfl, ⟨nd, rfl⟩⟩))
       go_ret
       exact ⟨zf_, zbf_⟩
      ·replace c43 := Bool.eq_false_iff.mpr c43
       subst c43; have H1 : (some false) = some r := by rw [if_neg (show ¬ (false = true) by decide)] at H; exact H
       clear H; have H := H1; clear H1; obtain rfl := Option.some.inj H; have hcz46_0 : wr.cell? ⟨gb163, 0, none⟩ = some (.int .i64 a0_0) := (blk_cell BK163.out 0).trans rfl; have hcz46_1 : wr.cell? ⟨gb163, 1, none⟩ = some (.slice A0_1 l0_1.length c0_1) := (blk_cell BK163.out 1).trans rfl; have hcz46_2 : wr.cell? ⟨gb163, 2, none⟩ = some (.slice A0_2 l0_2.length c0_2) := (blk_cell BK163.out 2).trans rfl; have hfz46_0 := blk_frozen BK163.out 0; have hfz46_1 := blk_frozen BK163.out 1; have hfz46_2 := blk_frozen BK163.out 2
       go_wp2_with (first | ((with_reducible refine gate_callee (f := 144) rfl ?_); refine goesL_ (some 53) rfl rfl Try.func144 (by kernel_rfl) rfl #[.int .i64 a0_0] rfl ze_ ?_; (with_reducible refine (spec_ttInputs.calls a0_0 true _ A39.out).mono ?_); rintro e w' ⟨rfl, ⟨nd, rfl⟩⟩; refine ⟨_, rfl, ?_⟩) | (go_at_call 108; (with_reducible refine (spec_l1In.calls (l0_2.length : Int) 1 4 false _ A42.out).mono ?_); rintro e w' ⟨rfl, ⟨nd, rfl⟩⟩))
       go_ret
       exact ⟨zf_, zbf_⟩
     ·rw [if_neg c41] at H
      have c41b0 := decide_eq_false c41; have c41b1 : decide (l0_1.length ≤ 16) = false := decide_eq_false (by omega); clear c41; obtain rfl := Option.some.inj H; have hcz47_0 : wr.cell? ⟨gb163, 0, none⟩ = some (.int .i64 a0_0) := (blk_cell BK163.out 0).trans rfl; have hcz47_1 : wr.cell? ⟨gb163, 1, none⟩ = some (.slice A0_1 l0_1.length c0_1) := (blk_cell BK163.out 1).trans rfl; have hcz47_2 : wr.cell? ⟨gb163, 2, none⟩ = some (.slice A0_2 l0_2.length c0_2) := (blk_cell BK163.out 2).trans rfl; have hfz47_0 := blk_frozen BK163.out 0; have hfz47_1 := blk_frozen BK163.out 1; have hfz47_2 := blk_frozen BK163.out 2
      go_wp2_with (first | ((with_reducible refine gate_callee (f := 144) rfl ?_); refine goesL_ (some 53) rfl rfl Try.func144 (by kernel_rfl) rfl #[.int .i64 a0_0] rfl ze_ ?_; (with_reducible refine (spec_ttInputs.calls a0_0 true _ A39.out).mono ?_); rintro e w' ⟨rfl, ⟨nd, rfl⟩⟩; refine ⟨_, rfl, ?_⟩))
      go_ret
      exact ⟨zf_, zbf_⟩
    ·replace c40 := Bool.eq_false_iff.mpr c40
     subst c40; have H1 : (some false) = some r := by rw [if_neg (show ¬ (false = true) by decide)] at H; exact H
     clear H; have H := H1; clear H1; obtain rfl := Option.some.inj H; have hcz48_0 : wr.cell? ⟨gb163, 0, none⟩ = some (.int .i64 a0_0) := (blk_cell BK163.out 0).trans rfl; have hcz48_1 : wr.cell? ⟨gb163, 1, none⟩ = some (.slice A0_1 l0_1.length c0_1) := (blk_cell BK163.out 1).trans rfl; have hcz48_2 : wr.cell? ⟨gb163, 2, none⟩ = some (.slice A0_2 l0_2.length c0_2) := (blk_cell BK163.out 2).trans rfl; have hfz48_0 := blk_frozen BK163.out 0; have hfz48_1 := blk_frozen BK163.out 1; have hfz48_2 := blk_frozen BK163.out 2
     go_wp2_with (first | ((with_reducible refine gate_callee (f := 144) rfl ?_); refine goesL_ (some 53) rfl rfl Try.func144 (by kernel_rfl) rfl #[.int .i64 a0_0] rfl ze_ ?_; (with_reducible refine (spec_ttInputs.calls a0_0 false _ A39.out).mono ?_); rintro e w' ⟨rfl, ⟨nd, rfl⟩⟩; refine ⟨_, rfl, ?_⟩))
     go_ret
     exact ⟨zf_, zbf_⟩
def spec_l1Most.f (a0 : Int) (a1 : Int) : Option (Int) := if a0 > a1 then (some a0) else (some a1)
theorem spec_l1Most.calls (a0 : Int) (a1 : Int) (r : Int) (w : World) (h : spec_l1Most.f a0 a1 = some r) :
  Calls Try.prog 106 #[.int .i64 a0, .int .i64 a1] w fun e w' => e = .returned (.int .i64 r) ∧ Drawn0 w w' := by
 have H : (if a0 > a1 then (some a0) else (some a1)) = some r := h
 clear h
 by_cases c3 : a0 > a1
 ·rw [if_pos c3] at H
  have c3b0 : decide (a1 < a0) = true := decide_eq_true c3; clear c3; obtain rfl := Option.some.inj H
  go_enter Try.func106, Try.ntmps106
  go_wp2
  go_ret
  exact ⟨zd_, zi_⟩
 ·rw [if_neg c3] at H
  have c3b0 : decide (a1 < a0) = false := decide_eq_false c3; clear c3; obtain rfl := Option.some.inj H
  go_enter Try.func106, Try.ntmps106
  go_wp2
  go_ret
  exact ⟨zd_, zi_⟩
def spec_ciDepths.l0 : Nat → List Int → List (S57) → Int → Int → Int → List (S57) → List Int → Option (List Int)
 | 0, _, _, _, _, _, _, _ => none
 | k + 1, x3, x10, x11, x12, x173000, x173001, x173002 => if x12 < x11 then (if 0 ≤ x12 then (if x12 < (x10.length : Int) then (if 0 ≤ ((rd_T57 x10 x12).f1) then (if ((rd_T57 x10 x12).f1) < (x3.length : Int) then (if 0 ≤ ((rd_T57 x10 x12).f2) then (if ((rd_T57 x10 x12).f2) < (x3.length : Int) then ((spec_l1Most.f (rd x3 ((rd_T57 x10 x12).f1)) (rd x3 ((rd_T57 x10 x12).f2))).bind fun t180 => (if x3.length < 17592186044416 then (spec_ciDepths.l0 k (x3 ++ [wrap64 (1 + t180)]) x10 x11 (wrap64 (x12 + 1)) x173000 x173001 x173002) else (none))) else (none)) else (none)) else (none)) else (none)) else (none)) else (none)) else (if 0 ≤ x173000 then (if x173000 ≤ (x3.length : Int) then (some (x3.drop (x173000 : Int).toNat)) else (none)) else (none))
def spec_ciDepths.f (k : Nat) (a0_0 : Int) (l0_1 : List (S57)) (l0_2 : List Int) : Option (List Int) := if 0 ≤ a0_0 then (if (a0_0 : Int).toNat ≤ 35184372088832 then (spec_ciDepths.l0 k (List.replicate (a0_0 : Int).toNat 0) l0_1 (l0_1.length : Int) 0 a0_0 l0_1 l0_2) else (none)) else (none)
def spec_ciDepths.T5 : Bool × List (List Nat × List Nat) := (true, [([], []), ([], []), ([], []), ([2], [2]), ([1, 3], [1, 3]), ([4], [4]), ([], []), ([], []), ([7], [7]), ([6, 8], [6, 8]), ([9], [9]), ([5, 10], [5, 10]), ([11], [11]), ([12], [12]), ([0, 13, 11], [0, 13]), ([14, 14, 0, 1, 2, 3, 4, 5, 6, 7, 8, 9, 10, 11, 12, 13, 14], [0, 1, 6, 14])])
def spec_ciDepths.B5 : List Nat := [0, 0, 0, 4, 14, 30, 0, 0, 128, 448, 960, 2046, 4094, 8190, 16383, 32767]
theorem spec_ciDepths.tab5 : rtab .any (opsOf Try.f120 5) = spec_ciDepths.T5 := by kernel_rfl
theorem spec_ciDepths.bits5 : waitsOk spec_ciDepths.T5.2 spec_ciDepths.B5 = true := by kernel_rfl
theorem spec_ciDepths.calls (k : Nat) (a0_0 : Int) (A0_1 : Option Addr) (c0_1 : Nat) (l0_1 : List (S57)) (A0_2 : Option Addr) (c0_2 : Nat) (l0_2 : List Int) (r : List Int) (w : World) (hr0_1 : Kd.C k57 w A0_1 l0_1.length l0_1) (hc0_1 : l0_1.length ≤ c0_1) (hr0_2 : Kd.C (Kd.int .i64) w A0_2 l0_2.length l0_2) (hc0_2 : l0_2.length ≤ c0_2) (h : spec_ciDepths.f k a0_0 l0_1 l0_2 = some r) :
  Calls Try.prog 120 #[.agg #[.int .i64 a0_0, .slice A0_1 l0_1.length c0_1, .slice A0_2 l0_2.length c0_2]] w fun e w' => ∃ v0_ : Value, e = .returned (v0_) ∧ Kd.Q (Kd.int .i64) 3 w' w.heap.size (fun _ => True) v0_ r ∧ Below w.heap.size w w' := by
 have hu49 := Try.underlying49
 have hu57 := Try.underlying57
 have HR0_1 := aM hr0_1
 have HC0_1 := aM hc0_1
 clear hr0_1 hc0_1
 have HR0_2 := aM hr0_2
 have HC0_2 := aM hc0_2
 clear hr0_2 hc0_2
 have HB := aM (Below.refl w.heap.size w)
 have H : (if 0 ≤ a0_0 then (if (a0_0 : Int).toNat ≤ 35184372088832 then (spec_ciDepths.l0 k (List.replicate (a0_0 : Int).toNat 0) l0_1 (l0_1.length : Int) 0 a0_0 l0_1 l0_2) else (none)) else (none)) = some r := h
 clear h
 by_cases c2 : 0 ≤ a0_0
 ·rw [if_pos c2] at H
  have c2b0 := eq_true c2; have c2b1 := decide_eq_true c2; clear c2
  by_cases c3 : (a0_0 : Int).toNat ≤ 35184372088832
  ·rw [if_pos c3] at H
   have c3b0 := eq_true c3; have c3b1 := decide_eq_true c3; clear c3; obtain ⟨y173, hy173⟩ : ∃ y_ : List Int, y_ = (List.replicate (a0_0 : Int).toNat 0) := ⟨_, rfl⟩; replace H : (spec_ciDepths.l0 k y173 l0_1 (l0_1.length : Int) 0 a0_0 l0_1 l0_2) = some r := by first | (rw [hy173]; with_reducible exact H) | (have H2_ := (oS _ _).symm.trans H; rw [hy173]; with_reducible exact H2_) | (have H2_ := (oS _ _).symm.trans H; with_reducible exact H2_) | with_reducible exact H | (rw [hy173]; exact H) | exact H
   have Ny173 := aM hy173; clear hy173; have H' := aM H; clear H
   go_enter Try.func120, Try.ntmps120
   go_wp2_with (first | ((with_reducible refine gate_dst (N := 1) rfl ?_); refine box_event ?hg (N := 1) ?hd (cs := #[.int .i64 a0_0, .slice A0_1 l0_1.length c0_1, .slice A0_2 l0_2.length c0_2]) (t := 49) ?hr ?_; (case hd => rfl); (case hg => rfl); (case hr => exact zc_); intro gb172 hg w4 hbox hb; have n_ := z (below_step zb_ hb) <| z (hbox) <| z ((by rw [hg]; exact (below_size zb_) : w.heap.size ≤ gb172)) <| z1 ((by rw [hg]; exact (below_size zb_) : w.heap.size ≤ gb172)); clear HB; obtain ⟨HB, BK172, GW172, GE172⟩ := n_; clear hb hbox hg; have hcz5_0 : w4.cell? ⟨gb172, 0, none⟩ = some (.int .i64 a0_0) := (blk_cell BK172.out 0).trans rfl; have hcz5_1 : w4.cell? ⟨gb172, 1, none⟩ = some (.slice A0_1 l0_1.length c0_1) := (blk_cell BK172.out 1).trans rfl; have hcz5_2 : w4.cell? ⟨gb172, 2, none⟩ = some (.slice A0_2 l0_2.length c0_2) := (blk_cell BK172.out 2).trans rfl; have hfz5_0 := blk_frozen BK172.out 0; have hfz5_1 := blk_frozen BK172.out 1; have hfz5_2 := blk_frozen BK172.out 2) | ((with_reducible refine gate_dst (N := 8) rfl ?_); refine Kd.R_make (Kd.int .i64) _ 3 rfl (N := 8) rfl 24 _ _ rfl a0_0 rfl rfl Try.underlying24 (.int .i64 0) 8 info3 rfl (by decide) (by omega) 0 (ok := fun _ => True) (okp := fun _ => True) rfl (fun _ hk => hk) trivial (of_decide_eq_true za_) (Nat.le_trans (Nat.mul_le_mul_right _ (of_decide_eq_true za_ : a0_0.toNat ≤ 35184372088832)) (by omega)) (Below.refl _ _) (Nat.le_refl _) ?_; intro v174 w6 ho7 hb hg_ hnew_; clear hg_ hnew_; (first | rw [← Ny173.out] at ho7 | (simp only [Int.reduceToNat] at ho7; rw [← Ny173.out] at ho7)); have n_ := z (Kd.R_lower ho7 (below_size zfi_)) <| z (blk_below (zb BK172.out) hb) <| z1 (below_step zfi_ hb); clear BK172 HB; obtain ⟨HO175, BK172, HB⟩ := n_; clear hb ho7; have hcz8_0 : w6.cell? ⟨gb172, 0, none⟩ = some (.int .i64 a0_0) := (blk_cell BK172.out 0).trans rfl; have hcz8_1 : w6.cell? ⟨gb172, 1, none⟩ = some (.slice A0_1 l0_1.length c0_1) := (blk_cell BK172.out 1).trans rfl; have hcz8_2 : w6.cell? ⟨gb172, 2, none⟩ = some (.slice A0_2 l0_2.length c0_2) := (blk_cell BK172.out 2).trans rfl; have hfz8_0 := blk_frozen BK172.out 0; have hfz8_1 := blk_frozen BK172.out 1; have hfz8_2 := blk_frozen BK172.out 2))
   go_loopg [3, 12] k (fun kq v3 v12 w' => ∃ (x3_1 : List Int) (x12_1 : Int), v12 = .int .i64 x12_1 ∧ Aside0 (spec_ciDepths.l0 kq x3_1 l0_1 (l0_1.length : Int) x12_1 a0_0 l0_1 l0_2 = some r) ∧ Aside0 (kq ≤ k) ∧ Aside0 (Kd.R (Kd.int .i64) 3 w' w.heap.size (fun _ => True) v3 x3_1) ∧ Aside0 (w'.heap[gb172]? = some (.cells #[.int .i64 a0_0, (.slice A0_1 l0_1.length c0_1), (.slice A0_2 l0_2.length c0_2)] 49 (0, 0))) ∧ Aside0 (Below w.heap.size w w'))
   case atStart => exact ⟨(y173), (0), zd_, H', ⟨Nat.le_refl _⟩, ⟨zr HO175.out⟩, ⟨zb BK172.out⟩, ⟨zfi_⟩⟩
   case round =>
    clear H'; (try clear c2b0); (try clear c2b1); (try clear c3b0); (try clear c3b1); (try clear hcz5_0); (try clear hcz5_1); (try clear hcz5_2); (try clear hcz8_0); (try clear hcz8_1); (try clear hcz8_2); (try clear hfz5_0); (try clear hfz5_1); (try clear hfz5_2); (try clear hfz8_0); (try clear hfz8_1); (try clear hfz8_2); obtain ⟨x3_1, x12_1, rfl, HA, HK1, HO_3, BK172, HB⟩ := hrel
    cases gk with
    | zero => exact absurd HA.out (by simp [spec_ciDepths.l0])
    | succ k1 =>
     have H := HA.out; clear HA
     simp only [spec_ciDepths.l0] at H
     by_cases c9 : x12_1 < (l0_1.length : Int)
     ·rw [if_pos c9] at H
      have c9b0 := decide_eq_true c9; clear c9
      by_cases c10 : 0 ≤ x12_1
      ·rw [if_pos c10] at H
       have c10b0 := decide_eq_true c10; clear c10
       by_cases c11 : x12_1 < (l0_1.length : Int)
       ·rw [if_pos c11] at H
        have c11b0 := decide_eq_true c11; clear c11
        by_cases c12 : 0 ≤ ((rd_T57 l0_1 x12_1).f1)
        ·rw [if_pos c12] at H
         have c12b0 := decide_eq_true c12; clear c12
         by_cases c13 : ((rd_T57 l0_1 x12_1).f1) < (x3_1.length : Int)
         ·rw [if_pos c13] at H
          have c13b0 := decide_eq_true c13; clear c13
          by_cases c14 : 0 ≤ ((rd_T57 l0_1 x12_1).f2)
          ·rw [if_pos c14] at H
           have c14b0 := decide_eq_true c14; clear c14
           by_cases c15 : ((rd_T57 l0_1 x12_1).f2) < (x3_1.length : Int)
           ·rw [if_pos c15] at H
            have c15b0 := decide_eq_true c15; clear c15; replace H := oB.mp H; obtain ⟨t180, A160, H⟩ := H; replace H : (if x3_1.length < 17592186044416 then (spec_ciDepths.l0 k1 (x3_1 ++ [wrap64 (1 + t180)]) l0_1 (l0_1.length : Int) (wrap64 (x12_1 + 1)) a0_0 l0_1 l0_2) else (none)) = some r := H; have A16 := aM A160; clear A160
            by_cases c17 : x3_1.length < 17592186044416
            ·rw [if_pos c17] at H
             have LMc17 := aM c17; clear c17; obtain ⟨y181, hy181⟩ : ∃ y_ : List Int, y_ = (x3_1 ++ [wrap64 (1 + t180)]) := ⟨_, rfl⟩; replace H : (spec_ciDepths.l0 k1 y181 l0_1 (l0_1.length : Int) (wrap64 (x12_1 + 1)) a0_0 l0_1 l0_2) = some r := by first | (rw [hy181]; with_reducible exact H) | (have H2_ := (oS _ _).symm.trans H; rw [hy181]; with_reducible exact H2_) | (have H2_ := (oS _ _).symm.trans H; with_reducible exact H2_) | with_reducible exact H | (rw [hy181]; exact H) | exact H
             have Ny181 := aM hy181; clear hy181; have H' := aM H; clear H; have p176 : 0 ≤ (x12_1 : Int) := of_decide_eq_true za_; have q176 : x12_1 < (l0_1.length : Int) := of_decide_eq_true za_; obtain ⟨ad176, e176, hx176_0, hx176_1, hx176_2⟩ := at_T57 HR0_1.out x12_1 p176 q176
             cases e176
             (try (replace hx176_0 := (HB.out.cell (World.block_lt_of_cell? w _ hx176_0)).trans hx176_0)); (try (replace hx176_1 := (HB.out.cell (World.block_lt_of_cell? w _ hx176_1)).trans hx176_1)); (try (replace hx176_2 := (HB.out.cell (World.block_lt_of_cell? w _ hx176_2)).trans hx176_2)); replace p176 := eq_true p176; replace q176 := eq_true q176; (try go_wp2_with (first | ((with_reducible refine gate_dst (N := 5) rfl ?_); refine box_event ?hg (N := 5) ?hd (cs := #[.int .i64 0, .int .i64 0, .int .i64 0]) (t := 57) ?hr ?_; (case hd => rfl); (case hg => rfl); (case hr => exact zc_); intro gb177 hg w18 hbox hb; have n_ := z (Kd.R_below (zr HO_3.out) hb) <| z (blk_below (zb BK172.out) hb) <| z (below_step zfi_ hb) <| z (hbox) <| z ((by rw [hg]; exact (below_size zfi_) : w.heap.size ≤ gb177)) <| z ((by rw [hg]; exact (below_size zfi_) : w.heap.size ≤ gb177)) <| z ((by rw [hg]; exact Nat.ne_of_lt (blk_lt (zb BK172.out)) : gb172 ≠ gb177)) <| z1 ((by rw [hg]; exact Nat.ne_of_gt (blk_lt (zb BK172.out)) : gb177 ≠ gb172)); clear HO_3 BK172 HB; obtain ⟨HO_3, BK172, HB, BK177, GW177, GE177, NB172_177, NB177_172⟩ := n_; clear hb hbox hg; have hnb19 := NB177_172.out; have hnc19 := NB172_177.out; have hcz20_0 : w18.cell? ⟨gb177, 0, none⟩ = some (.int .i64 0) := (blk_cell BK177.out 0).trans rfl; have hcz20_1 : w18.cell? ⟨gb177, 1, none⟩ = some (.int .i64 0) := (blk_cell BK177.out 1).trans rfl; have hcz20_2 : w18.cell? ⟨gb177, 2, none⟩ = some (.int .i64 0) := (blk_cell BK177.out 2).trans rfl; have hfz20_0 := blk_frozen BK177.out 0; have hfz20_1 := blk_frozen BK177.out 1; have hfz20_2 := blk_frozen BK177.out 2))); have n0_ : Aside0 (Kd.R (Kd.int .i64) 3 (((w18.setCell ⟨gb177, 0, none⟩ (.int .i64 ((rd_T57 l0_1 x12_1).f0))).setCell ⟨gb177, 1, none⟩ (.int .i64 ((rd_T57 l0_1 x12_1).f1))).setCell ⟨gb177, 2, none⟩ (.int .i64 ((rd_T57 l0_1 x12_1).f2))) w.heap.size (fun _ => True) u3 x3_1) := ⟨by refine zr ?_; exact Kd.R_mono (Kd.R_far (p := ⟨gb177, 2, none⟩) (Kd.R_far (p := ⟨gb177, 1, none⟩) (Kd.R_far (p := ⟨gb177, 0, none⟩) (Kd.R_types HO_3.out BK177.out (by decide)) (fun _ hk => hk.2) (.int .i64 ((rd_T57 l0_1 x12_1).f0))) (fun _ hk => hk.2) (.int .i64 ((rd_T57 l0_1 x12_1).f1))) (fun _ hk => hk.2) (.int .i64 ((rd_T57 l0_1 x12_1).f2))) (fun _ hk => trivial)⟩; have n1_ : Aside0 ((((w18.setCell ⟨gb177, 0, none⟩ (.int .i64 ((rd_T57 l0_1 x12_1).f0))).setCell ⟨gb177, 1, none⟩ (.int .i64 ((rd_T57 l0_1 x12_1).f1))).setCell ⟨gb177, 2, none⟩ (.int .i64 ((rd_T57 l0_1 x12_1).f2))).heap[gb172]? = some (.cells #[.int .i64 a0_0, .slice (some ad176) l0_1.length c0_1, .slice A0_2 l0_2.length c0_2] 49 (0, 0))) := ⟨by refine zb ?_; refine blk_far ?_ NB172_177.out _; refine zb ?_; refine blk_far ?_ NB172_177.out _; refine zb ?_; refine blk_far ?_ NB172_177.out _; refine zb ?_; exact BK172.out⟩; have n2_ : Aside0 ((((w18.setCell ⟨gb177, 0, none⟩ (.int .i64 ((rd_T57 l0_1 x12_1).f0))).setCell ⟨gb177, 1, none⟩ (.int .i64 ((rd_T57 l0_1 x12_1).f1))).setCell ⟨gb177, 2, none⟩ (.int .i64 ((rd_T57 l0_1 x12_1).f2))).heap[gb177]? = some (.cells #[.int .i64 ((rd_T57 l0_1 x12_1).f0), .int .i64 ((rd_T57 l0_1 x12_1).f1), .int .i64 ((rd_T57 l0_1 x12_1).f2)] 57 (0, 0))) := ⟨by refine zb ?_; refine blk_put (cs := #[.int .i64 ((rd_T57 l0_1 x12_1).f0), .int .i64 ((rd_T57 l0_1 x12_1).f1), .int .i64 0]) ?_ 2 _ rfl; refine zb ?_; refine blk_put (cs := #[.int .i64 ((rd_T57 l0_1 x12_1).f0), .int .i64 0, .int .i64 0]) ?_ 1 _ rfl; refine zb ?_; refine blk_put (cs := #[.int .i64 0, .int .i64 0, .int .i64 0]) ?_ 0 _ rfl; refine zb ?_; exact BK177.out⟩; have n3_ : Aside0 (Below w.heap.size w (((w18.setCell ⟨gb177, 0, none⟩ (.int .i64 ((rd_T57 l0_1 x12_1).f0))).setCell ⟨gb177, 1, none⟩ (.int .i64 ((rd_T57 l0_1 x12_1).f1))).setCell ⟨gb177, 2, none⟩ (.int .i64 ((rd_T57 l0_1 x12_1).f2)))) := ⟨zia_⟩; (try clear HO_3); (try clear BK172); (try clear BK177); (try clear HB); generalize (((w18.setCell ⟨gb177, 0, none⟩ (.int .i64 ((rd_T57 l0_1 x12_1).f0))).setCell ⟨gb177, 1, none⟩ (.int .i64 ((rd_T57 l0_1 x12_1).f1))).setCell ⟨gb177, 2, none⟩ (.int .i64 ((rd_T57 l0_1 x12_1).f2))) = w21 at n0_ n1_ n2_ n3_ ⊢; have HO_3 := n0_; have BK172 := n1_; have BK177 := n2_; have HB := n3_; clear n0_ n1_ n2_ n3_; have n_ := z (kD HO_3.out) <| z (blk_drew BK172.out) <| z (blk_drew BK177.out) <| z1 (p1 HB.out)
             clear HO_3 BK172 BK177 HB; obtain ⟨HO_3, BK172, BK177, HB⟩ := n_; obtain ⟨Ao23, co23, eo23⟩ := Kd.R_slice HO_3.out; (first | subst eo23 | (injection eo23 with f1_ f2_ f3_; have f4_ := f1_.symm; have f5_ := f3_.symm; clear f1_ f2_ f3_; subst f4_; subst f5_)); have p178 : 0 ≤ (((rd_T57 l0_1 x12_1).f1) : Int) := of_decide_eq_true za_; have q178 : ((rd_T57 l0_1 x12_1).f1) < (x3_1.length : Int) := of_decide_eq_true za_; obtain ⟨ad178, e178, hx178_0⟩ := Kd.at_int (Kd.R_reads' HO_3.out).2.2 ((rd_T57 l0_1 x12_1).f1) p178 q178
             cases e178
             replace p178 := eq_true p178; replace q178 := eq_true q178; have p179 : 0 ≤ (((rd_T57 l0_1 x12_1).f2) : Int) := of_decide_eq_true za_; have q179 : ((rd_T57 l0_1 x12_1).f2) < (x3_1.length : Int) := of_decide_eq_true za_; obtain ⟨ad179, e179, hx179_0⟩ := Kd.at_int (Kd.R_reads' HO_3.out).2.2 ((rd_T57 l0_1 x12_1).f2) p179 q179; obtain rfl : ad178 = ad179 := (by injection e179); replace p179 := eq_true p179; replace q179 := eq_true q179
             refine start_ (n := 16) (S := fun w' => w'.cell? ⟨gb177, 0, none⟩ = some (.int .i64 ((rd_T57 l0_1 x12_1).f0)) ∧ w'.cell? ⟨gb177, 1, none⟩ = some (.int .i64 ((rd_T57 l0_1 x12_1).f1)) ∧ w'.cell? ⟨gb177, 2, none⟩ = some (.int .i64 ((rd_T57 l0_1 x12_1).f2)) ∧ w'.cell? (ad178.add (((rd_T57 l0_1 x12_1).f1)).toNat) = some (.int .i64 (rd x3_1 ((rd_T57 l0_1 x12_1).f1))) ∧ w'.cell? (ad178.add (((rd_T57 l0_1 x12_1).f2)).toNat) = some (.int .i64 (rd x3_1 ((rd_T57 l0_1 x12_1).f2)))) (ds := [13, 14]) #[fi,fi,fi,fi,fi,fi,fi,fi,fi,fi,fi,fi,fi,fi,fi,fi] (by kernel_rfl) rfl rfl ⟨(blk_cell BK177.out 0).trans rfl, (blk_cell BK177.out 1).trans rfl, (blk_cell BK177.out 2).trans rfl, hx178_0, hx179_0⟩ (fun hHeld => ?_); refine with_tabW spec_ciDepths.tab5 spec_ciDepths.bits5 (fun HT_ HW_ => ?_)
             generalize w21.drew = w22 at HO_3 BK172 BK177 HB hx178_0 hx179_0 hHeld ⊢; refine py_ 0 16 HT_.out ?_; refine py_ 1 17 HT_.out ?_; refine py_ 2 18 HT_.out ?_; refine py_ 6 22 HT_.out ?_; refine py_ 7 23 HT_.out ?_
             refine take_ (i := 3) (N := some 19) (v := ?_) (a' := ?_) #[ti,ti,ti,ti,fi,fi,ti,ti,fi,fi,fi,fi,fi,fi,fi,fi] rfl rfl (take_ofW HT_.out HW_.out (by kernel_rfl)) (fun _ _ _ h => h) (Or.inl ⟨by rfl, ?_⟩) hHeld ?_ ?_
             rotate_left
             ·rintro w' ⟨s0, s1, s2, s3, s4⟩
              go_simp
              with_reducible rfl
             rotate_left
             ·simp only [Act.put, sI, s0, sS, i64_w, i32_w]
              rfl
             refine py_ 4 20 HT_.out ?_
             refine take_ (i := 5) (N := some 21) (v := ?_) (a' := ?_) #[ti,ti,ti,ti,ti,ti,ti,ti,fi,fi,fi,fi,fi,fi,fi,fi] rfl rfl (take_ofW HT_.out HW_.out (by kernel_rfl)) (fun _ _ _ h => h) (Or.inl ⟨by rfl, ?_⟩) hHeld ?_ ?_
             rotate_left
             ·rintro w' ⟨s0, s1, s2, s3, s4⟩
              go_simp
              with_reducible rfl
             rotate_left
             ·simp only [Act.put, sI, s0, sS, i64_w, i32_w]
              rfl
             refine take_ (i := 8) (N := some 24) (v := ?_) (a' := ?_) #[ti,ti,ti,ti,ti,ti,ti,ti,ti,fi,fi,fi,fi,fi,fi,fi] rfl rfl (take_ofW HT_.out HW_.out (by kernel_rfl)) (fun _ _ _ h => h) (Or.inl ⟨by rfl, ?_⟩) hHeld ?_ ?_
             rotate_left
             ·rintro w' ⟨s0, s1, s2, s3, s4⟩
              go_simp
              with_reducible rfl
             rotate_left
             ·simp only [Act.put, sI, s0, sS, i64_w, i32_w]
              rfl
             refine py_ 9 25 HT_.out ?_
             refine take_ (i := 10) (N := some 26) (v := ?_) (a' := ?_) #[ti,ti,ti,ti,ti,ti,ti,ti,ti,ti,ti,fi,fi,fi,fi,fi] rfl rfl (take_ofW HT_.out HW_.out (by kernel_rfl)) (fun _ _ _ h => h) (Or.inl ⟨by rfl, ?_⟩) hHeld ?_ ?_
             rotate_left
             ·rintro w' ⟨s0, s1, s2, s3, s4⟩
              go_simp
              with_reducible rfl
             rotate_left
             ·simp only [Act.put, sI, s0, sS, i64_w, i32_w]
              rfl
             refine one_ (i := 11) (N := some 27) #[ti,ti,ti,ti,ti,ti,ti,ti,ti,ti,ti,ti,fi,fi,fi,fi] rfl rfl (one_of HT_.out (by kernel_rfl)) (by decide) (fun K hK => ?_)
             refine goes_ Try.func106 (by kernel_rfl) rfl #[.int .i64 (rd x3_1 ((rd_T57 l0_1 x12_1).f1)), .int .i64 (rd x3_1 ((rd_T57 l0_1 x12_1).f2))] (by rfl) rfl rfl ze_ ?_
             with_reducible refine (spec_l1Most.calls (rd x3_1 ((rd_T57 l0_1 x12_1).f1)) (rd x3_1 ((rd_T57 l0_1 x12_1).f2)) t180 _ A16.out).mono ?_
             rintro e w' ⟨rfl, ⟨nd, rfl⟩⟩
             refine ⟨_, rfl, ?_⟩
             refine hK.out _ _ ⟨(blk_cell BK177.out 0).trans rfl, (blk_cell BK177.out 1).trans rfl, (blk_cell BK177.out 2).trans rfl, hHeld.2.2.2.1, hHeld.2.2.2.2⟩ (fun hHeld => ?_)
             clear hK K
             refine norm_ (a' := ?_) ?_ ?_
             rotate_left
             ·show Act.put _ (some 27) _ = _
              simp only [Act.put, sI, s0, sS, i64_w, i32_w]
              rfl
             refine py_ 12 28 HT_.out ?_
             refine last_ (i := 13) (N := some 29) #[ti,ti,ti,ti,ti,ti,ti,ti,ti,ti,ti,ti,ti,ti,fi,fi] rfl rfl (one_of HT_.out (by kernel_rfl)) (by decide) (fun K hK => ?_)
             refine value_ (w1 := ?_) (v := ?_) (by rfl) rfl ?_ ?_
             rotate_left 2
             ·go_simp
              constructor
              ·rfl
              ·rfl
             refine hK.out _ _ ?_
             clear hK K
             refine norm_ (a' := ?_) ?_ ?_
             rotate_left
             ·show Act.put _ (some 29) _ = _
              simp only [Act.put, sI, s0, sS, i64_w, i32_w]
              rfl
             refine last_ (i := 14) (N := some 30) #[ti,ti,ti,ti,ti,ti,ti,ti,ti,ti,ti,ti,ti,ti,ti,fi] rfl rfl (one_of HT_.out (by kernel_rfl)) (by decide) (fun K hK => ?_)
             refine Kd.R_append_step (Kd.int .i64) (w0 := w) w.heap.size (by rfl) (.tmp 16) (.tmp 29) 24 3 (.int .i64 0) 8 rfl Try.underlying24 info3 rfl (by decide) (by omega) (.slice (some ad178) x3_1.length co23) x3_1 (wrap64 (1 + t180)) [.int .i64 (wrap64 (1 + t180))] (fun _ => True) (fun _ => False) rfl rfl ?aP (fun _ hk => hk.elim) ?aF ?aO ?aB ?aS ?aL ?_
             (case aP => exact rfl)
             (case aB => exact zia_)
             (case aF => exact zbe_)
             (case aO => exact (zr HO_3.out))
             (case aS => exact (below_size zia_))
             (case aL => have := LMc17.out; omega)
             intro v182 w24 ho hb hg hat
             rw [← Ny181.out] at ho; have n_ := z (blk_grown (g := gb172) (o := .cells #[.int .i64 a0_0, .slice (some ad176) l0_1.length c0_1, .slice A0_2 l0_2.length c0_2] 49 (0, 0)) (zb BK172.out) hg (Kd.R_ne HO_3.out BK172.out (by decide))) <| z (blk_grown (g := gb177) (o := .cells #[.int .i64 ((rd_T57 l0_1 x12_1).f0), .int .i64 ((rd_T57 l0_1 x12_1).f1), .int .i64 ((rd_T57 l0_1 x12_1).f2)] 57 (0, 0)) (zb BK177.out) hg (Kd.R_ne HO_3.out BK177.out (by decide))) <| z (hb) <| z1 (ho)
             clear BK172 BK177 HB HO_3; obtain ⟨BK172, BK177, HB, HO183⟩ := n_; clear ho hb hg hat
             refine hK.out _ _ ?_
             clear hK K
             refine norm_ (a' := ?_) ?_ ?_
             rotate_left
             ·show Act.put _ (some 30) _ = _
              simp only [Act.put, sI, s0, sS, i64_w, i32_w]
              rfl
             refine py_ 15 3 HT_.out ?_
             refine done_ (done_of HT_.out (by kernel_rfl)) ?_
             (try go_wp2)
             go_roundg k1
             case measure => have := HK1.out; omega
             case rel => exact ⟨(y181), (wrap64 (x12_1 + 1)), zd_, H', ⟨zbd_⟩, ⟨zr HO183.out⟩, ⟨zb BK172.out⟩, ⟨zia_⟩⟩
            ·rw [if_neg c17] at H
             exact absurd H (by simp)
           ·rw [if_neg c15] at H
            exact absurd H (by simp)
          ·rw [if_neg c14] at H
           exact absurd H (by simp)
         ·rw [if_neg c13] at H
          exact absurd H (by simp)
        ·rw [if_neg c12] at H
         exact absurd H (by simp)
       ·rw [if_neg c11] at H
        exact absurd H (by simp)
      ·rw [if_neg c10] at H
       exact absurd H (by simp)
     ·rw [if_neg c9] at H
      have c9b0 := decide_eq_false c9; clear c9
      by_cases c25 : 0 ≤ a0_0
      ·rw [if_pos c25] at H
       have c25b0 := eq_true c25; have c25b1 := decide_eq_true c25; clear c25
       by_cases c26 : a0_0 ≤ (x3_1.length : Int)
       ·rw [if_pos c26] at H
        have c26b0 := eq_true c26; have c26b1 := decide_eq_true c26; clear c26; obtain ⟨y184, hy184⟩ : ∃ y_ : List Int, y_ = (x3_1.drop (a0_0 : Int).toNat) := ⟨_, rfl⟩; replace H : (some y184) = some r := by first | (rw [hy184]; with_reducible exact H) | (have H2_ := (oS _ _).symm.trans H; rw [hy184]; with_reducible exact H2_) | (have H2_ := (oS _ _).symm.trans H; with_reducible exact H2_) | with_reducible exact H | (rw [hy184]; exact H) | exact H
        have Ny184 := aM hy184; clear hy184; obtain rfl := Option.some.inj H; have hcz27_0 : wr.cell? ⟨gb172, 0, none⟩ = some (.int .i64 a0_0) := (blk_cell BK172.out 0).trans rfl; have hcz27_1 : wr.cell? ⟨gb172, 1, none⟩ = some (.slice A0_1 l0_1.length c0_1) := (blk_cell BK172.out 1).trans rfl; have hcz27_2 : wr.cell? ⟨gb172, 2, none⟩ = some (.slice A0_2 l0_2.length c0_2) := (blk_cell BK172.out 2).trans rfl; have hfz27_0 := blk_frozen BK172.out 0; have hfz27_1 := blk_frozen BK172.out 1; have hfz27_2 := blk_frozen BK172.out 2; obtain ⟨Ao28, co28, eo28⟩ := Kd.R_slice HO_3.out; subst eo28; have q29 : (a0_0 : Int) ≤ ((x3_1.length : Int) : Int) := of_decide_eq_true za_; obtain ⟨i029, hi029, _, hsz29, _⟩ := info_parts info3; have hcut29 := cut_from (P := Try.prog) 24 3 .i64 Try.underlying24 hi029 1 hsz29 Ao28 x3_1.length co28 a0_0 (of_decide_eq_true za_) q29; have hr29 := Kd.Q_drop (k := (a0_0 : Int).toNat) (Kd.Q_of_R HO_3.out) (by omega); obtain ⟨A29, hA29⟩ : ∃ A1, A1 = (if co28 = (a0_0 : Int).toNat then Ao28 else (Ao28 : Option Addr).map (·.add ((a0_0 : Int).toNat * 1))) := ⟨_, rfl⟩; obtain ⟨c29, hc29⟩ : ∃ c1, c1 = co28 - (a0_0 : Int).toNat := ⟨_, rfl⟩; have hy29 : y184.length = x3_1.length - (a0_0 : Int).toNat := (by rw [Ny184.out, lD]); rw [← Ny184.out] at hr29; rw [← hy29, ← hA29, ← hc29] at hcut29; replace hr29 : Kd.Q (Kd.int .i64) 3 wr w.heap.size (fun _ => True) (.slice A29 y184.length c29) y184 := (by rw [hA29, hc29, hy29]; exact hr29); have HE29 : Aside0 ((Value.slice A29 y184.length c29).ownBlock = (.slice Ao28 x3_1.length co28 : Value).ownBlock) := ⟨by rw [hA29]; split <;> (cases (Ao28 : Option Addr) <;> first | rfl | (simp only [Value.ownBlock, Option.map, Go.Addr.add]; split <;> rfl))⟩; clear hy29 hi029 hsz29 HO_3 hA29 hc29; have HO186 := aM hr29; clear hr29; replace q29 := eq_true q29
        go_wp2
        go_ret
        exact ⟨_, zf_, by refine zq ?_; exact HO186.out, zfi_⟩
       ·rw [if_neg c26] at H
        exact absurd H (by simp)
      ·rw [if_neg c25] at H
       exact absurd H (by simp)
  ·rw [if_neg c3] at H
   exact absurd H (by simp)
 ·rw [if_neg c2] at H
  exact absurd H (by simp)
def spec_GateDepths.f (k : Nat) (a0_0 : Int) (l0_1 : List (S57)) (l0_2 : List Int) : Option (List Int × Bool) := (spec_ciGood.f k a0_0 l0_1 l0_2).bind fun t188 => (if t188 = true then ((spec_ciDepths.f k a0_0 l0_1 l0_2).bind fun t189 => (some (t189, true))) else (some (([] : List Int), false)))
theorem spec_GateDepths.calls (k : Nat) (a0_0 : Int) (A0_1 : Option Addr) (c0_1 : Nat) (l0_1 : List (S57)) (A0_2 : Option Addr) (c0_2 : Nat) (l0_2 : List Int) (r1 : List Int) (r2 : Bool) (w : World) (hr0_1 : Kd.C k57 w A0_1 l0_1.length l0_1) (hc0_1 : l0_1.length ≤ c0_1) (hr0_2 : Kd.C (Kd.int .i64) w A0_2 l0_2.length l0_2) (hc0_2 : l0_2.length ≤ c0_2) (h : spec_GateDepths.f k a0_0 l0_1 l0_2 = some (r1, r2)) :
  Calls Try.prog 28 #[.agg #[.int .i64 a0_0, .slice A0_1 l0_1.length c0_1, .slice A0_2 l0_2.length c0_2]] w fun e w' => ∃ v0_ : Value, e = .returned (.tuple #[v0_, .bool r2]) ∧ Kd.Q (Kd.int .i64) 3 w' w.heap.size (fun _ => True) v0_ r1 ∧ Below w.heap.size w w' := by
 have hu49 := Try.underlying49
 have HR0_1 := aM hr0_1
 have HC0_1 := aM hc0_1
 clear hr0_1 hc0_1
 have HR0_2 := aM hr0_2
 have HC0_2 := aM hc0_2
 clear hr0_2 hc0_2
 have HB := aM (Below.refl w.heap.size w)
 have H : ((spec_ciGood.f k a0_0 l0_1 l0_2).bind fun t188 => (if t188 = true then ((spec_ciDepths.f k a0_0 l0_1 l0_2).bind fun t189 => (some (t189, true))) else (some (([] : List Int), false)))) = some (r1, r2) := h
 clear h
 replace H := oB.mp H
 obtain ⟨t188, A20, H⟩ := H
 replace H : (if t188 = true then ((spec_ciDepths.f k a0_0 l0_1 l0_2).bind fun t189 => (some (t189, true))) else (some (([] : List Int), false))) = some (r1, r2) := H
 have A2 := aM A20
 clear A20
 by_cases c3 : t188 = true
 ·subst c3
  have H1 : ((spec_ciDepths.f k a0_0 l0_1 l0_2).bind fun t189 => (some (t189, true))) = some (r1, r2) := by rw [if_pos rfl] at H; exact H
  clear H; have H := H1; clear H1; replace H := oB.mp H; obtain ⟨t189, A40, H⟩ := H; replace H : (some (t189, true)) = some (r1, r2) := H; have A4 := aM A40; clear A40
  simp only [Option.some.injEq, Prod.mk.injEq] at H
  obtain ⟨rfl, rfl⟩ := H
  go_enter Try.func28, Try.ntmps28
  go_wp2_with (first | ((with_reducible refine gate_dst (N := 1) rfl ?_); refine box_event ?hg (N := 1) ?hd (cs := #[.int .i64 a0_0, .slice A0_1 l0_1.length c0_1, .slice A0_2 l0_2.length c0_2]) (t := 49) ?hr ?_; (case hd => rfl); (case hg => rfl); (case hr => exact zc_); intro gb187 hg w5 hbox hb; have n_ := z (below_step zb_ hb) <| z (hbox) <| z ((by rw [hg]; exact (below_size zb_) : w.heap.size ≤ gb187)) <| z1 ((by rw [hg]; exact (below_size zb_) : w.heap.size ≤ gb187)); clear HB; obtain ⟨HB, BK187, GW187, GE187⟩ := n_; clear hb hbox hg; have hcz6_0 : w5.cell? ⟨gb187, 0, none⟩ = some (.int .i64 a0_0) := (blk_cell BK187.out 0).trans rfl; have hcz6_1 : w5.cell? ⟨gb187, 1, none⟩ = some (.slice A0_1 l0_1.length c0_1) := (blk_cell BK187.out 1).trans rfl; have hcz6_2 : w5.cell? ⟨gb187, 2, none⟩ = some (.slice A0_2 l0_2.length c0_2) := (blk_cell BK187.out 2).trans rfl; have hfz6_0 := blk_frozen BK187.out 0; have hfz6_1 := blk_frozen BK187.out 1; have hfz6_2 := blk_frozen BK187.out 2) | ((with_reducible refine gate_callee (f := 119) rfl ?_); refine goesL_ (some 5) rfl rfl Try.func119 (by kernel_rfl) rfl #[.agg #[.int .i64 a0_0, .slice A0_1 l0_1.length c0_1, .slice A0_2 l0_2.length c0_2]] rfl ze_ ?_; (with_reducible refine (spec_ciGood.calls k a0_0 _ _ l0_1 _ _ l0_2 true _ ?side1 ?side2 ?side3 ?side4 A2.out).mono ?_); (case side1 => exact zg_); (case side2 => exact HC0_1.out); (case side3 => exact zj_); (case side4 => exact HC0_2.out); rintro e w7 ⟨rfl, hb⟩; refine ⟨_, rfl, ?_⟩; have n_ := z (blk_below (zb BK187.out) hb) <| z1 (below_step zgg_ hb); clear BK187 HB; obtain ⟨BK187, HB⟩ := n_; clear hb; have hcz8_0 : w7.cell? ⟨gb187, 0, none⟩ = some (.int .i64 a0_0) := (blk_cell BK187.out 0).trans rfl; have hcz8_1 : w7.cell? ⟨gb187, 1, none⟩ = some (.slice A0_1 l0_1.length c0_1) := (blk_cell BK187.out 1).trans rfl; have hcz8_2 : w7.cell? ⟨gb187, 2, none⟩ = some (.slice A0_2 l0_2.length c0_2) := (blk_cell BK187.out 2).trans rfl; have hfz8_0 := blk_frozen BK187.out 0; have hfz8_1 := blk_frozen BK187.out 1; have hfz8_2 := blk_frozen BK187.out 2) | ((with_reducible refine gate_callee (f := 120) rfl ?_); refine goesL_ (some 8) rfl rfl Try.func120 (by kernel_rfl) rfl #[.agg #[.int .i64 a0_0, .slice A0_1 l0_1.length c0_1, .slice A0_2 l0_2.length c0_2]] rfl ze_ ?_; (with_reducible refine (spec_ciDepths.calls k a0_0 _ _ l0_1 _ _ l0_2 t189 _ ?side1 ?side2 ?side3 ?side4 A4.out).mono ?_); (case side1 => exact zg_); (case side2 => exact HC0_1.out); (case side3 => exact zj_); (case side4 => exact HC0_2.out); rintro e w9 ⟨v190, rfl, ho0, hb⟩; refine ⟨_, rfl, ?_⟩; have n_ := z (Kd.Q_lower ho0 (below_size zgg_)) <| z (blk_below (zb BK187.out) hb) <| z1 (below_step zgg_ hb); clear BK187 HB; obtain ⟨HO191, BK187, HB⟩ := n_; clear hb; (try clear ho0)))
  go_ret2
  exact ⟨_, zf_, by refine zq ?_; exact HO191.out, zgg_⟩
 ·replace c3 := Bool.eq_false_iff.mpr c3
  subst c3; have H1 : (some (([] : List Int), false)) = some (r1, r2) := by rw [if_neg (show ¬ (false = true) by decide)] at H; exact H
  clear H; have H := H1; clear H1
  simp only [Option.some.injEq, Prod.mk.injEq] at H
  obtain ⟨rfl, rfl⟩ := H
  go_enter Try.func28, Try.ntmps28
  go_wp2_with (first | ((with_reducible refine gate_dst (N := 1) rfl ?_); refine box_event ?hg (N := 1) ?hd (cs := #[.int .i64 a0_0, .slice A0_1 l0_1.length c0_1, .slice A0_2 l0_2.length c0_2]) (t := 49) ?hr ?_; (case hd => rfl); (case hg => rfl); (case hr => exact zc_); intro gb187 hg w10 hbox hb; have n_ := z (below_step zb_ hb) <| z (hbox) <| z ((by rw [hg]; exact (below_size zb_) : w.heap.size ≤ gb187)) <| z1 ((by rw [hg]; exact (below_size zb_) : w.heap.size ≤ gb187)); clear HB; obtain ⟨HB, BK187, GW187, GE187⟩ := n_; clear hb hbox hg; have hcz11_0 : w10.cell? ⟨gb187, 0, none⟩ = some (.int .i64 a0_0) := (blk_cell BK187.out 0).trans rfl; have hcz11_1 : w10.cell? ⟨gb187, 1, none⟩ = some (.slice A0_1 l0_1.length c0_1) := (blk_cell BK187.out 1).trans rfl; have hcz11_2 : w10.cell? ⟨gb187, 2, none⟩ = some (.slice A0_2 l0_2.length c0_2) := (blk_cell BK187.out 2).trans rfl; have hfz11_0 := blk_frozen BK187.out 0; have hfz11_1 := blk_frozen BK187.out 1; have hfz11_2 := blk_frozen BK187.out 2) | ((with_reducible refine gate_callee (f := 119) rfl ?_); refine goesL_ (some 5) rfl rfl Try.func119 (by kernel_rfl) rfl #[.agg #[.int .i64 a0_0, .slice A0_1 l0_1.length c0_1, .slice A0_2 l0_2.length c0_2]] rfl ze_ ?_; (with_reducible refine (spec_ciGood.calls k a0_0 _ _ l0_1 _ _ l0_2 false _ ?side1 ?side2 ?side3 ?side4 A2.out).mono ?_); (case side1 => exact zg_); (case side2 => exact HC0_1.out); (case side3 => exact zj_); (case side4 => exact HC0_2.out); rintro e w12 ⟨rfl, hb⟩; refine ⟨_, rfl, ?_⟩; have n_ := z (blk_below (zb BK187.out) hb) <| z1 (below_step zgg_ hb); clear BK187 HB; obtain ⟨BK187, HB⟩ := n_; clear hb))
  go_ret2
  exact ⟨_, zf_, Kd.Q_of_R zcb_, zgg_⟩
end Go.Proofs.Ytbkighlfgaifeaa.QFnGates
