/- Functions of FnLevels, each as a Lean function, with the proof that the Go code comes to its answers. -/
import Derived.Test.YtlnhpkjioppbiaaSFnLevelsx1
import Derived.Test.YtlnhpkjioppbiaaSFnLevelsx3
namespace Go.Proofs.Ytlnhpkjioppbiaa.QFnLevels
open Go.RowKit Go.Proofs.YtlnhpkjioppbiaaW.PrintWords Go.Proofs.YtlnhpkjioppbiaaW.PrintLast Go.Proofs.YtlnhpkjioppbiaaW.PrintMore
open Go.Proofs.YtlnhpkjioppbiaaW.PrintWords renaming pw_below_drewN → pN, below_drew1 → p1, below_alloc → pA
open Go.Proofs.YtlnhpkjioppbiaaW.PrintWords.Kd renaming R_alloc → kA, R_drewN → kN, R_drew → kD, Q_alloc → qA, Q_drewN → qN, Q_drew → qD, C_alloc → cA, C_drewN → cN, C_drew → cD
open Go.Proofs.YtlnhpkjioppbiaaW.PrintWords.Aside0 renaming mk → aM
open List renaming setIfInBounds_toArray → sI, set_cons_zero → s0, set_cons_succ → sS, map_toArray → mT, length_take → lT, length_drop → lD, map_cons → mC, map_nil → mN
open Option renaming bind_eq_some_iff → oB
attribute [local go_sem] max2_int min2_int max_two min_two max_three min_three max_four min_four
set_option maxHeartbeats 8000000
set_option maxRecDepth 100000
set_option linter.unusedVariables false
set_option linter.unusedSimpArgs false
open Option renaming bind_eq_some_iff → oB, bind_some → oS
def spec_DrawLevelsOf.f (l0 : List Int) : Option (Int × (List (S109)) × List Int) := (spec_l1Cur_anyCircuit.f l0 0 0).bind fun bt119 => (some (bt119.1, bt119.2.1, bt119.2.2.1))
theorem spec_DrawLevelsOf.calls (A0 : Option Addr) (c0 : Nat) (l0 : List Int) (r1 : Int) (r2 : List (S109)) (r3 : List Int) (w : World) (hr0 : Kd.C (Kd.int .u8) w A0 l0.length l0) (hc0 : l0.length ≤ c0) (h : spec_DrawLevelsOf.f l0 = some (r1, r2, r3)) :
  Calls Try.prog 31 #[.slice A0 l0.length c0] w fun e w' => ∃ v1_ v2_ : Value, e = .returned (.agg #[.int .i64 r1, v1_, v2_]) ∧ Kd.R k109 109 w' w.heap.size (fun _ => True) v1_ r2 ∧ Kd.R (Kd.int .i64) 3 w' w.heap.size (fun _ => True) v2_ r3 ∧ Below w.heap.size w w' := by
 have hu61 := Try.underlying61
 have hu86 := Try.underlying86
 have HR0 := aM hr0
 have HC0 := aM hc0
 clear hr0 hc0
 have HB := aM (Below.refl w.heap.size w)
 have H : ((spec_l1Cur_anyCircuit.f l0 0 0).bind fun bt119 => (some (bt119.1, bt119.2.1, bt119.2.2.1))) = some (r1, r2, r3) := h
 clear h
 replace H := oB.mp H
 obtain ⟨⟨t119, t120, t123, t126, t127⟩, A20, H⟩ := H
 replace H : (some (t119, t120, t123)) = some (r1, r2, r3) := H
 have A2 := aM A20
 clear A20
 simp only [Option.some.injEq, Prod.mk.injEq] at H
 obtain ⟨rfl, rfl, rfl⟩ := H
 go_enter Try.func31, Try.ntmps31
 go_wp2_with (first | ((with_reducible refine gate_dst (N := 2) rfl ?_); refine box_event ?hg (N := 2) ?hd (cs := #[.int .i64 0, .slice none 0 0, .slice none 0 0]) (t := 61) ?hr ?_; (case hd => rfl); (case hg => rfl); (case hr => exact zd_); intro gb117 hg w3 hbox hb; have n_ := z (below_step zb_ hb) <| z (hbox) <| z ((by rw [hg]; exact (below_size zb_) : w.heap.size ≤ gb117)) <| z1 ((by rw [hg]; exact (below_size zb_) : w.heap.size ≤ gb117)); clear HB; obtain ⟨HB, BK117, GW117, GE117⟩ := n_; clear hb hbox hg) | ((with_reducible refine gate_dst (N := 6) rfl ?_); refine box_event ?hg (N := 6) ?hd (cs := #[.slice A0 l0.length c0, .int .i64 0, .int .u64 0]) (t := 86) ?hr ?_; (case hd => rfl); (case hg => rfl); (case hr => exact zd_); intro gb118 hg w4 hbox hb; have n_ := z (blk_below (zb BK117.out) hb) <| z (below_step zfe_ hb) <| z ((by rw [hg]; exact (below_size zfe_) : w.heap.size ≤ gb118)) <| z ((by rw [hg]; exact (below_size zfe_) : w.heap.size ≤ gb118)) <| z ((by rw [hg]; exact Nat.ne_of_lt (blk_lt (zb BK117.out)) : gb117 ≠ gb118)) <| z ((by rw [hg]; exact Nat.ne_of_gt (blk_lt (zb BK117.out)) : gb118 ≠ gb117)) <| z1 ((⟨_, _, hbox, (by rw [hg]; exact (below_size zfe_) : w.heap.size ≤ gb118), HR0.out⟩ : IsS86 w w4 gb118 l0 0 0)); clear BK117 HB; obtain ⟨BK117, HB, GW118, GE118, NB117_118, NB118_117, HI118⟩ := n_; clear hb hbox hg) | ((with_reducible refine gate_callee (f := 83) rfl ?_); refine goesL_ (some 8) rfl rfl Try.func83 (by kernel_rfl) rfl #[.pointer (some ⟨gb118, 0, none⟩)] rfl zf_ ?_; (with_reducible refine (spec_l1Cur_anyCircuit.calls gb118 l0 0 0 t119 t120 t123 t126 t127 w _ ?side1 ?side2 A2.out).mono ?_); (case side1 => repeat (first | (with_reducible first | exact HI118.out | apply IsS86.alloc | apply IsS86.drewN | apply IsS86.drew | apply IsS86.set_1 | apply IsS86.set_2 | refine IsS86.far ?_ NB118_117.out _) | exact HI118.out)); (case side2 => exact zff_); rintro e w5 ⟨v121, v124, rfl, ho0, ho1, hi, hb, hk⟩; refine ⟨_, rfl, ?_⟩; have n_ := z (KeepBut.blk hk (zb BK117.out) NB117_118.out (by simp)) <| z (Kd.R_lower ho0 (below_size zff_)) <| z (Kd.R_lower ho1 (below_size zff_)) <| z (hb) <| z1 (hi); clear BK117 HB HI118; obtain ⟨BK117, HO122, HO125, HB, HI118⟩ := n_; clear hb hk hi; (try clear ho0); (try clear ho1); have hnb6 := NB117_118.out; have hnc6 := NB118_117.out; obtain ⟨hcz7_0, hcz7_1, hcz7_2, hfz7_0, hfz7_1, hfz7_2⟩ := zk3 BK117.out; obtain ⟨Ao8, co8, eo8⟩ := Kd.R_slice HO122.out; subst eo8; obtain ⟨Ao9, co9, eo9⟩ := Kd.R_slice HO125.out; subst eo9))
 refine bodyPost_ret (results_cell_row rfl _ _ gb117 61 #[.int .i64 t119, .slice Ao8 t120.length co8, .slice Ao9 t123.length co9] (0, 0) _ rfl (by refine zb ?_; refine blk_put (cs := #[.int .i64 t119, .slice Ao8 t120.length co8, .slice none 0 0]) ?_ 2 _ rfl; refine zb ?_; refine blk_put (cs := #[.int .i64 t119, .slice none 0 0, .slice none 0 0]) ?_ 1 _ rfl; refine zb ?_; refine blk_put (cs := #[.int .i64 0, .slice none 0 0, .slice none 0 0]) ?_ 0 _ rfl; refine zb ?_; exact BK117.out) Try.underlying61 rfl (by kernel_rfl)) rfl ?_
 exact ⟨_, _, zh_, by refine zr ?_; exact Kd.R_mono (Kd.R_far (p := ⟨gb117, 2, none⟩) (Kd.R_far (p := ⟨gb117, 1, none⟩) (Kd.R_far (p := ⟨gb117, 0, none⟩) (Kd.R_types HO122.out BK117.out (by decide)) (fun _ hk => hk.2) (.int .i64 t119)) (fun _ hk => hk.2) (.slice Ao8 t120.length co8)) (fun _ hk => hk.2) (.slice Ao9 t123.length co9)) (fun _ hk => trivial), by refine zr ?_; exact Kd.R_mono (Kd.R_far (p := ⟨gb117, 2, none⟩) (Kd.R_far (p := ⟨gb117, 1, none⟩) (Kd.R_far (p := ⟨gb117, 0, none⟩) (Kd.R_types HO125.out BK117.out (by decide)) (fun _ hk => hk.2) (.int .i64 t119)) (fun _ hk => hk.2) (.slice Ao8 t120.length co8)) (fun _ hk => hk.2) (.slice Ao9 t123.length co9)) (fun _ hk => trivial), zff_⟩
mutual
def impl_IsCircuit.j0 : Nat → Bool → Int → List (S109) → List Int → Option (Bool)
 | 0, _, _, _, _ => none
 | k + 1, x32, x129000, x129001, x129002 => if x32 = true then (some false) else (impl_IsCircuit.l0 k x129001 (x129001.length : Int) 0 x129000 x129001 x129002)
def impl_IsCircuit.l0 : Nat → List (S109) → Int → Int → Int → List (S109) → List Int → Option (Bool)
 | 0, _, _, _, _, _, _ => none
 | k + 1, x34, x35, x36, x129000, x129001, x129002 => if x36 < x35 then (if 0 ≤ x36 then (if x36 < (x34.length : Int) then (if ((rd_T109 x34 x36).f0) < 1 then (some false) else (if ((rd_T109 x34 x36).f0) > 4 then (some false) else (if ((rd_T109 x34 x36).f1) < 0 then (some false) else (if ((rd_T109 x34 x36).f1) ≥ (wrap64 (x129000 + x36)) then (some false) else (if ((rd_T109 x34 x36).f2) < 0 then (some false) else (if ((rd_T109 x34 x36).f2) ≥ (wrap64 (x129000 + x36)) then (some false) else (if ((rd_T109 x34 x36).f0) = 4 then (if ((rd_T109 x34 x36).f1) = ((rd_T109 x34 x36).f2) then (impl_IsCircuit.l0 k x34 x35 (wrap64 (x36 + 1)) x129000 x129001 x129002) else (some false)) else (impl_IsCircuit.l0 k x34 x35 (wrap64 (x36 + 1)) x129000 x129001 x129002)))))))) else (none)) else (none)) else (impl_IsCircuit.l1 k x129002 (x129002.length : Int) 0 x129000 x129001 x129002)
def impl_IsCircuit.l1 : Nat → List Int → Int → Int → Int → List (S109) → List Int → Option (Bool)
 | 0, _, _, _, _, _, _ => none
 | k + 1, x91, x92, x93, x129000, x129001, x129002 => if x93 < x92 then (if 0 ≤ x93 then (if x93 < (x91.length : Int) then (if (rd x91 x93) < 0 then (some false) else (if (rd x91 x93) ≥ (wrap64 (x129000 + (x129001.length : Int))) then (some false) else (impl_IsCircuit.l1 k x91 x92 (wrap64 (x93 + 1)) x129000 x129001 x129002))) else (none)) else (none)) else (some true)
end
def impl_IsCircuit.f (k : Nat) (a0_0 : Int) (l0_1 : List (S109)) (l0_2 : List Int) : Option (Bool) := if a0_0 < 0 then (impl_IsCircuit.j0 k true a0_0 l0_1 l0_2) else (if a0_0 > 4 then (impl_IsCircuit.j0 k true a0_0 l0_1 l0_2) else (if (l0_1.length : Int) > 16 then (impl_IsCircuit.j0 k true a0_0 l0_1 l0_2) else (if (l0_2.length : Int) < 1 then (impl_IsCircuit.j0 k true a0_0 l0_1 l0_2) else (impl_IsCircuit.j0 k (decide ((l0_2.length : Int) > 4)) a0_0 l0_1 l0_2))))
theorem impl_IsCircuit.calls (k : Nat) (a0_0 : Int) (A0_1 : Option Addr) (c0_1 : Nat) (l0_1 : List (S109)) (A0_2 : Option Addr) (c0_2 : Nat) (l0_2 : List Int) (r : Bool) (w : World) (hr0_1 : Kd.C k109 w A0_1 l0_1.length l0_1) (hc0_1 : l0_1.length ≤ c0_1) (hr0_2 : Kd.C (Kd.int .i64) w A0_2 l0_2.length l0_2) (hc0_2 : l0_2.length ≤ c0_2) (h : impl_IsCircuit.f k a0_0 l0_1 l0_2 = some r) :
  Calls Try.prog 84 #[.agg #[.int .i64 a0_0, .slice A0_1 l0_1.length c0_1, .slice A0_2 l0_2.length c0_2]] w fun e w' => e = .returned (.bool r) ∧ Below w.heap.size w w' := by
 have hu61 := Try.underlying61
 have hu109 := Try.underlying109
 have HR0_1 := aM hr0_1
 have HC0_1 := aM hc0_1
 clear hr0_1 hc0_1
 have HR0_2 := aM hr0_2
 have HC0_2 := aM hc0_2
 clear hr0_2 hc0_2
 have HB := aM (Below.refl w.heap.size w)
 have H : (if a0_0 < 0 then (impl_IsCircuit.j0 k true a0_0 l0_1 l0_2) else (if a0_0 > 4 then (impl_IsCircuit.j0 k true a0_0 l0_1 l0_2) else (if (l0_1.length : Int) > 16 then (impl_IsCircuit.j0 k true a0_0 l0_1 l0_2) else (if (l0_2.length : Int) < 1 then (impl_IsCircuit.j0 k true a0_0 l0_1 l0_2) else (impl_IsCircuit.j0 k (decide ((l0_2.length : Int) > 4)) a0_0 l0_1 l0_2))))) = some r := h
 clear h
 have HC2 := aM H
 clear H
 go_enter Try.func84, Try.ntmps84
 go_upto_region 1 with (first | ((with_reducible refine gate_dst (N := 1) rfl ?_); (try (refine gate_guard (by rfl) ?_; dsimp only)); refine box_event ?hg (N := 1) ?hd (cs := #[.int .i64 a0_0, .slice A0_1 l0_1.length c0_1, .slice A0_2 l0_2.length c0_2]) (t := 61) ?hr ?_; (case hd => rfl); (case hg => rfl); (case hr => exact zd_); intro gb128 hg w3 hbox hb; have n_ := z (below_step zb_ hb) <| z (hbox) <| z ((by rw [hg]; exact (below_size zb_) : w.heap.size ≤ gb128)) <| z1 ((by rw [hg]; exact (below_size zb_) : w.heap.size ≤ gb128)); clear HB; obtain ⟨HB, BK128, GW128, GE128⟩ := n_; clear hb hbox hg))
 (try simp only [Act.put, sI, s0, sS])
 go_cut [32] (fun v32 wc => ∃ (kq : Nat) (x32_1 : Bool), v32 = .bool x32_1 ∧ Aside0 (impl_IsCircuit.j0 kq x32_1 a0_0 l0_1 l0_2 = some r) ∧ Aside0 (kq ≤ k) ∧ Aside0 (wc.heap[gb128]? = some (.cells #[.int .i64 a0_0, (.slice A0_1 l0_1.length c0_1), (.slice A0_2 l0_2.length c0_2)] 61 (0, 0))) ∧ Aside0 (Below w.heap.size w wc))
 case first =>
  have H := HC2.out; clear HC2
  by_cases c4 : a0_0 < 0
  ·rw [if_pos c4] at H
   have c4b0 := decide_eq_true c4; clear c4; (first | rw [c4b0] | (simp only [i64_w, i32_w]; rw [c4b0]) | skip); have H' := aM H; clear H; obtain ⟨hcz5_0, hcz5_1, hcz5_2, hfz5_0, hfz5_1, hfz5_2⟩ := zk3 BK128.out
   go_wp2
   go_meet
   case rel => exact ⟨_, (true), zc_, H', ⟨zdb_⟩, ⟨zb BK128.out⟩, ⟨zj_⟩⟩
  ·rw [if_neg c4] at H
   have c4b0 := decide_eq_false c4; clear c4; (first | rw [c4b0] | (simp only [i64_w, i32_w]; rw [c4b0]) | skip)
   by_cases c6 : a0_0 > 4
   ·rw [if_pos c6] at H
    have c6b0 : decide (4 < a0_0) = true := decide_eq_true c6; clear c6; have H' := aM H; clear H; obtain ⟨hcz7_0, hcz7_1, hcz7_2, hfz7_0, hfz7_1, hfz7_2⟩ := zk3 BK128.out
    go_wp2
    go_meet
    case rel => exact ⟨_, (true), zc_, H', ⟨zdb_⟩, ⟨zb BK128.out⟩, ⟨zj_⟩⟩
   ·rw [if_neg c6] at H
    have c6b0 : decide (4 < a0_0) = false := decide_eq_false c6; clear c6
    by_cases c8 : (l0_1.length : Int) > 16
    ·rw [if_pos c8] at H
     have c8b0 : decide (16 < (l0_1.length : Int)) = true := decide_eq_true c8; have c8b1 : decide (16 < l0_1.length) = true := decide_eq_true (by omega); clear c8; have H' := aM H; clear H; obtain ⟨hcz9_0, hcz9_1, hcz9_2, hfz9_0, hfz9_1, hfz9_2⟩ := zk3 BK128.out
     go_wp2
     go_meet
     case rel => exact ⟨_, (true), zc_, H', ⟨zdb_⟩, ⟨zb BK128.out⟩, ⟨zj_⟩⟩
    ·rw [if_neg c8] at H
     have c8b0 : decide (16 < (l0_1.length : Int)) = false := decide_eq_false c8; have c8b1 : decide (16 < l0_1.length) = false := decide_eq_false (by omega); clear c8
     by_cases c10 : (l0_2.length : Int) < 1
     ·rw [if_pos c10] at H
      have c10b0 := decide_eq_true c10; have c10b1 : decide (l0_2.length < 1) = true := decide_eq_true (by omega); clear c10; have H' := aM H; clear H; obtain ⟨hcz11_0, hcz11_1, hcz11_2, hfz11_0, hfz11_1, hfz11_2⟩ := zk3 BK128.out
      go_wp2
      go_meet
      case rel => exact ⟨_, (true), zc_, H', ⟨zdb_⟩, ⟨zb BK128.out⟩, ⟨zj_⟩⟩
     ·rw [if_neg c10] at H
      have c10b0 := decide_eq_false c10; have c10b1 : decide (l0_2.length < 1) = false := decide_eq_false (by omega); clear c10; have H' := aM H; clear H; obtain ⟨hcz12_0, hcz12_1, hcz12_2, hfz12_0, hfz12_1, hfz12_2⟩ := zk3 BK128.out
      go_wp2
      go_meet
      case rel => exact ⟨_, (decide ((l0_2.length : Int) > 4)), zc_, H', ⟨zdb_⟩, ⟨zb BK128.out⟩, ⟨zj_⟩⟩
 case rest =>
  clear HC2; obtain ⟨kq, x32_1, rfl, HA, HJ1, BK128, HB⟩ := hcut
  cases kq with
  | zero => exact absurd HA.out (by simp [impl_IsCircuit.j0])
  | succ kj1 =>
   have H := HA.out; clear HA
   simp only [impl_IsCircuit.j0] at H
   by_cases c13 : x32_1 = true
   ·subst c13
    have H1 : (some false) = some r := by rw [if_pos rfl] at H; exact H
    clear H; have H := H1; clear H1; obtain rfl := Option.some.inj H
    go_wp2
    go_ret
    exact ⟨zh_, zj_⟩
   ·replace c13 := Bool.eq_false_iff.mpr c13
    subst c13; have H1 : (impl_IsCircuit.l0 kj1 l0_1 (l0_1.length : Int) 0 a0_0 l0_1 l0_2) = some r := by rw [if_neg (show ¬ (false = true) by decide)] at H; exact H
    clear H; have H := H1; clear H1; have H' := aM H; clear H; obtain ⟨hcz14_0, hcz14_1, hcz14_2, hfz14_0, hfz14_1, hfz14_2⟩ := zk3 BK128.out
    go_wp2
    go_loopg [36] kj1 (fun kq v36 w' => ∃ (x36_2 : Int), v36 = .int .i64 x36_2 ∧ Aside0 (impl_IsCircuit.l0 kq l0_1 (l0_1.length : Int) x36_2 a0_0 l0_1 l0_2 = some r) ∧ Aside0 (kq ≤ kj1) ∧ Aside0 (w'.heap[gb128]? = some (.cells #[.int .i64 a0_0, (.slice A0_1 l0_1.length c0_1), (.slice A0_2 l0_2.length c0_2)] 61 (0, 0))) ∧ Aside0 (Below w.heap.size w w'))
    case atStart => exact ⟨(0), zc_, H', ⟨Nat.le_refl _⟩, ⟨zb BK128.out⟩, ⟨zj_⟩⟩
    case round =>
     clear H'; (try clear hcz14_0); (try clear hcz14_1); (try clear hcz14_2); (try clear hfz14_0); (try clear hfz14_1); (try clear hfz14_2); obtain ⟨x36_2, rfl, HA, HK2, BK128, HB⟩ := hrel
     cases gk with
     | zero => exact absurd HA.out (by simp [impl_IsCircuit.l0])
     | succ k2 =>
      have H := HA.out; clear HA
      simp only [impl_IsCircuit.l0] at H
      by_cases c15 : x36_2 < (l0_1.length : Int)
      ·rw [if_pos c15] at H
       have c15b0 := decide_eq_true c15; clear c15
       by_cases c16 : 0 ≤ x36_2
       ·rw [if_pos c16] at H
        have c16b0 := decide_eq_true c16; clear c16
        by_cases c17 : x36_2 < (l0_1.length : Int)
        ·rw [if_pos c17] at H
         have c17b0 := decide_eq_true c17; clear c17
         by_cases c18 : ((rd_T109 l0_1 x36_2).f0) < 1
         ·rw [if_pos c18] at H
          have c18b0 := decide_eq_true c18; clear c18; obtain rfl := Option.some.inj H; have p129 : 0 ≤ (x36_2 : Int) := of_decide_eq_true za_; have q129 : x36_2 < (l0_1.length : Int) := of_decide_eq_true za_; obtain ⟨ad129, e129, hx129_0, hx129_1, hx129_2⟩ := at_T109 HR0_1.out x36_2 p129 q129
          cases e129
          (try (replace hx129_0 := q3h_ HB.out hx129_0)); (try (replace hx129_1 := q3h_ HB.out hx129_1)); (try (replace hx129_2 := q3h_ HB.out hx129_2)); replace p129 := eq_true p129; replace q129 := eq_true q129
          go_wp2_with (first | ((with_reducible refine gate_dst (N := 4) rfl ?_); (try (refine gate_guard (by rfl) ?_; dsimp only)); refine box_event ?hg (N := 4) ?hd (cs := #[.int .i64 0, .int .i64 0, .int .i64 0]) (t := 109) ?hr ?_; (case hd => rfl); (case hg => rfl); (case hr => exact zd_); intro gb130 hg w19 hbox hb; have n_ := z (blk_below (zb BK128.out) hb) <| z (below_step zj_ hb) <| z (hbox) <| z ((by rw [hg]; exact (below_size zj_) : w.heap.size ≤ gb130)) <| z ((by rw [hg]; exact (below_size zj_) : w.heap.size ≤ gb130)) <| z ((by rw [hg]; exact Nat.ne_of_lt (blk_lt (zb BK128.out)) : gb128 ≠ gb130)) <| z1 ((by rw [hg]; exact Nat.ne_of_gt (blk_lt (zb BK128.out)) : gb130 ≠ gb128)); clear BK128 HB; obtain ⟨BK128, HB, BK130, GW130, GE130, NB128_130, NB130_128⟩ := n_; clear hb hbox hg; have hnb20 := NB130_128.out; have hnc20 := NB128_130.out; obtain ⟨hcz21_0, hcz21_1, hcz21_2, hfz21_0, hfz21_1, hfz21_2⟩ := zk3 BK130.out))
          go_ret
          exact ⟨zh_, zdg_⟩
         ·rw [if_neg c18] at H
          have c18b0 := decide_eq_false c18; clear c18
          by_cases c22 : ((rd_T109 l0_1 x36_2).f0) > 4
          ·rw [if_pos c22] at H
           have c22b0 : decide (4 < ((rd_T109 l0_1 x36_2).f0)) = true := decide_eq_true c22; clear c22; obtain rfl := Option.some.inj H; have p129 : 0 ≤ (x36_2 : Int) := of_decide_eq_true za_; have q129 : x36_2 < (l0_1.length : Int) := of_decide_eq_true za_; obtain ⟨ad129, e129, hx129_0, hx129_1, hx129_2⟩ := at_T109 HR0_1.out x36_2 p129 q129
           cases e129
           (try (replace hx129_0 := q3h_ HB.out hx129_0)); (try (replace hx129_1 := q3h_ HB.out hx129_1)); (try (replace hx129_2 := q3h_ HB.out hx129_2)); replace p129 := eq_true p129; replace q129 := eq_true q129
           go_wp2_with (first | ((with_reducible refine gate_dst (N := 4) rfl ?_); (try (refine gate_guard (by rfl) ?_; dsimp only)); refine box_event ?hg (N := 4) ?hd (cs := #[.int .i64 0, .int .i64 0, .int .i64 0]) (t := 109) ?hr ?_; (case hd => rfl); (case hg => rfl); (case hr => exact zd_); intro gb130 hg w23 hbox hb; have n_ := z (blk_below (zb BK128.out) hb) <| z (below_step zj_ hb) <| z (hbox) <| z ((by rw [hg]; exact (below_size zj_) : w.heap.size ≤ gb130)) <| z ((by rw [hg]; exact (below_size zj_) : w.heap.size ≤ gb130)) <| z ((by rw [hg]; exact Nat.ne_of_lt (blk_lt (zb BK128.out)) : gb128 ≠ gb130)) <| z1 ((by rw [hg]; exact Nat.ne_of_gt (blk_lt (zb BK128.out)) : gb130 ≠ gb128)); clear BK128 HB; obtain ⟨BK128, HB, BK130, GW130, GE130, NB128_130, NB130_128⟩ := n_; clear hb hbox hg; have hnb24 := NB130_128.out; have hnc24 := NB128_130.out; obtain ⟨hcz25_0, hcz25_1, hcz25_2, hfz25_0, hfz25_1, hfz25_2⟩ := zk3 BK130.out))
           go_ret
           exact ⟨zh_, zdg_⟩
          ·rw [if_neg c22] at H
           have c22b0 : decide (4 < ((rd_T109 l0_1 x36_2).f0)) = false := decide_eq_false c22; clear c22
           by_cases c26 : ((rd_T109 l0_1 x36_2).f1) < 0
           ·rw [if_pos c26] at H
            have c26b0 := decide_eq_true c26; clear c26; obtain rfl := Option.some.inj H; have p129 : 0 ≤ (x36_2 : Int) := of_decide_eq_true za_; have q129 : x36_2 < (l0_1.length : Int) := of_decide_eq_true za_; obtain ⟨ad129, e129, hx129_0, hx129_1, hx129_2⟩ := at_T109 HR0_1.out x36_2 p129 q129
            cases e129
            (try (replace hx129_0 := q3h_ HB.out hx129_0)); (try (replace hx129_1 := q3h_ HB.out hx129_1)); (try (replace hx129_2 := q3h_ HB.out hx129_2)); replace p129 := eq_true p129; replace q129 := eq_true q129
            go_wp2_with (first | ((with_reducible refine gate_dst (N := 4) rfl ?_); (try (refine gate_guard (by rfl) ?_; dsimp only)); refine box_event ?hg (N := 4) ?hd (cs := #[.int .i64 0, .int .i64 0, .int .i64 0]) (t := 109) ?hr ?_; (case hd => rfl); (case hg => rfl); (case hr => exact zd_); intro gb130 hg w27 hbox hb; have n_ := z (blk_below (zb BK128.out) hb) <| z (below_step zj_ hb) <| z (hbox) <| z ((by rw [hg]; exact (below_size zj_) : w.heap.size ≤ gb130)) <| z ((by rw [hg]; exact (below_size zj_) : w.heap.size ≤ gb130)) <| z ((by rw [hg]; exact Nat.ne_of_lt (blk_lt (zb BK128.out)) : gb128 ≠ gb130)) <| z1 ((by rw [hg]; exact Nat.ne_of_gt (blk_lt (zb BK128.out)) : gb130 ≠ gb128)); clear BK128 HB; obtain ⟨BK128, HB, BK130, GW130, GE130, NB128_130, NB130_128⟩ := n_; clear hb hbox hg; have hnb28 := NB130_128.out; have hnc28 := NB128_130.out; obtain ⟨hcz29_0, hcz29_1, hcz29_2, hfz29_0, hfz29_1, hfz29_2⟩ := zk3 BK130.out))
            go_ret
            exact ⟨zh_, zdg_⟩
           ·rw [if_neg c26] at H
            have c26b0 := decide_eq_false c26; clear c26
            by_cases c30 : ((rd_T109 l0_1 x36_2).f1) ≥ (wrap64 (a0_0 + x36_2))
            ·rw [if_pos c30] at H
             have c30b0 : decide ((wrap64 (a0_0 + x36_2)) ≤ ((rd_T109 l0_1 x36_2).f1)) = true := decide_eq_true c30; clear c30; obtain rfl := Option.some.inj H; have p129 : 0 ≤ (x36_2 : Int) := of_decide_eq_true za_; have q129 : x36_2 < (l0_1.length : Int) := of_decide_eq_true za_; obtain ⟨ad129, e129, hx129_0, hx129_1, hx129_2⟩ := at_T109 HR0_1.out x36_2 p129 q129
             cases e129
             (try (replace hx129_0 := q3h_ HB.out hx129_0)); (try (replace hx129_1 := q3h_ HB.out hx129_1)); (try (replace hx129_2 := q3h_ HB.out hx129_2)); replace p129 := eq_true p129; replace q129 := eq_true q129
             go_wp2_with (first | ((with_reducible refine gate_dst (N := 4) rfl ?_); (try (refine gate_guard (by rfl) ?_; dsimp only)); refine box_event ?hg (N := 4) ?hd (cs := #[.int .i64 0, .int .i64 0, .int .i64 0]) (t := 109) ?hr ?_; (case hd => rfl); (case hg => rfl); (case hr => exact zd_); intro gb130 hg w31 hbox hb; have n_ := z (blk_below (zb BK128.out) hb) <| z (below_step zj_ hb) <| z (hbox) <| z ((by rw [hg]; exact (below_size zj_) : w.heap.size ≤ gb130)) <| z ((by rw [hg]; exact (below_size zj_) : w.heap.size ≤ gb130)) <| z ((by rw [hg]; exact Nat.ne_of_lt (blk_lt (zb BK128.out)) : gb128 ≠ gb130)) <| z1 ((by rw [hg]; exact Nat.ne_of_gt (blk_lt (zb BK128.out)) : gb130 ≠ gb128)); clear BK128 HB; obtain ⟨BK128, HB, BK130, GW130, GE130, NB128_130, NB130_128⟩ := n_; clear hb hbox hg; have hnb32 := NB130_128.out; have hnc32 := NB128_130.out; obtain ⟨hcz33_0, hcz33_1, hcz33_2, hfz33_0, hfz33_1, hfz33_2⟩ := zk3 BK130.out; obtain ⟨hcz34_0, hcz34_1, hcz34_2, hfz34_0, hfz34_1, hfz34_2⟩ := zk3 BK128.out))
             go_ret
             exact ⟨zh_, zdg_⟩
            ·rw [if_neg c30] at H
             have c30b0 : decide ((wrap64 (a0_0 + x36_2)) ≤ ((rd_T109 l0_1 x36_2).f1)) = false := decide_eq_false c30; clear c30
             by_cases c35 : ((rd_T109 l0_1 x36_2).f2) < 0
             ·rw [if_pos c35] at H
              have c35b0 := decide_eq_true c35; clear c35; obtain rfl := Option.some.inj H; have p129 : 0 ≤ (x36_2 : Int) := of_decide_eq_true za_; have q129 : x36_2 < (l0_1.length : Int) := of_decide_eq_true za_; obtain ⟨ad129, e129, hx129_0, hx129_1, hx129_2⟩ := at_T109 HR0_1.out x36_2 p129 q129
              cases e129
              (try (replace hx129_0 := q3h_ HB.out hx129_0)); (try (replace hx129_1 := q3h_ HB.out hx129_1)); (try (replace hx129_2 := q3h_ HB.out hx129_2)); replace p129 := eq_true p129; replace q129 := eq_true q129
              go_wp2_with (first | ((with_reducible refine gate_dst (N := 4) rfl ?_); (try (refine gate_guard (by rfl) ?_; dsimp only)); refine box_event ?hg (N := 4) ?hd (cs := #[.int .i64 0, .int .i64 0, .int .i64 0]) (t := 109) ?hr ?_; (case hd => rfl); (case hg => rfl); (case hr => exact zd_); intro gb130 hg w36 hbox hb; have n_ := z (blk_below (zb BK128.out) hb) <| z (below_step zj_ hb) <| z (hbox) <| z ((by rw [hg]; exact (below_size zj_) : w.heap.size ≤ gb130)) <| z ((by rw [hg]; exact (below_size zj_) : w.heap.size ≤ gb130)) <| z ((by rw [hg]; exact Nat.ne_of_lt (blk_lt (zb BK128.out)) : gb128 ≠ gb130)) <| z1 ((by rw [hg]; exact Nat.ne_of_gt (blk_lt (zb BK128.out)) : gb130 ≠ gb128)); clear BK128 HB; obtain ⟨BK128, HB, BK130, GW130, GE130, NB128_130, NB130_128⟩ := n_; clear hb hbox hg; have hnb37 := NB130_128.out; have hnc37 := NB128_130.out; obtain ⟨hcz38_0, hcz38_1, hcz38_2, hfz38_0, hfz38_1, hfz38_2⟩ := zk3 BK130.out; obtain ⟨hcz39_0, hcz39_1, hcz39_2, hfz39_0, hfz39_1, hfz39_2⟩ := zk3 BK128.out))
              go_ret
              exact ⟨zh_, zdg_⟩
             ·rw [if_neg c35] at H
              have c35b0 := decide_eq_false c35; clear c35
              by_cases c40 : ((rd_T109 l0_1 x36_2).f2) ≥ (wrap64 (a0_0 + x36_2))
              ·rw [if_pos c40] at H
               have c40b0 : decide ((wrap64 (a0_0 + x36_2)) ≤ ((rd_T109 l0_1 x36_2).f2)) = true := decide_eq_true c40; clear c40; obtain rfl := Option.some.inj H; have p129 : 0 ≤ (x36_2 : Int) := of_decide_eq_true za_; have q129 : x36_2 < (l0_1.length : Int) := of_decide_eq_true za_; obtain ⟨ad129, e129, hx129_0, hx129_1, hx129_2⟩ := at_T109 HR0_1.out x36_2 p129 q129
               cases e129
               (try (replace hx129_0 := q3h_ HB.out hx129_0)); (try (replace hx129_1 := q3h_ HB.out hx129_1)); (try (replace hx129_2 := q3h_ HB.out hx129_2)); replace p129 := eq_true p129; replace q129 := eq_true q129
               go_wp2_with (first | ((with_reducible refine gate_dst (N := 4) rfl ?_); (try (refine gate_guard (by rfl) ?_; dsimp only)); refine box_event ?hg (N := 4) ?hd (cs := #[.int .i64 0, .int .i64 0, .int .i64 0]) (t := 109) ?hr ?_; (case hd => rfl); (case hg => rfl); (case hr => exact zd_); intro gb130 hg w41 hbox hb; have n_ := z (blk_below (zb BK128.out) hb) <| z (below_step zj_ hb) <| z (hbox) <| z ((by rw [hg]; exact (below_size zj_) : w.heap.size ≤ gb130)) <| z ((by rw [hg]; exact (below_size zj_) : w.heap.size ≤ gb130)) <| z ((by rw [hg]; exact Nat.ne_of_lt (blk_lt (zb BK128.out)) : gb128 ≠ gb130)) <| z1 ((by rw [hg]; exact Nat.ne_of_gt (blk_lt (zb BK128.out)) : gb130 ≠ gb128)); clear BK128 HB; obtain ⟨BK128, HB, BK130, GW130, GE130, NB128_130, NB130_128⟩ := n_; clear hb hbox hg; have hnb42 := NB130_128.out; have hnc42 := NB128_130.out; obtain ⟨hcz43_0, hcz43_1, hcz43_2, hfz43_0, hfz43_1, hfz43_2⟩ := zk3 BK130.out; obtain ⟨hcz44_0, hcz44_1, hcz44_2, hfz44_0, hfz44_1, hfz44_2⟩ := zk3 BK128.out))
               go_ret
               exact ⟨zh_, zdg_⟩
              ·rw [if_neg c40] at H
               have c40b0 : decide ((wrap64 (a0_0 + x36_2)) ≤ ((rd_T109 l0_1 x36_2).f2)) = false := decide_eq_false c40; clear c40
               by_cases c45 : ((rd_T109 l0_1 x36_2).f0) = 4
               ·rw [if_pos c45] at H
                have c45b0 := beq_iff_eq.mpr c45; have c45b1 := bne_eq_false_iff_eq.mpr c45; clear c45
                by_cases c46 : ((rd_T109 l0_1 x36_2).f1) = ((rd_T109 l0_1 x36_2).f2)
                ·rw [if_pos c46] at H
                 have c46b0 := beq_iff_eq.mpr c46; have c46b1 := bne_eq_false_iff_eq.mpr c46; clear c46; have H' := aM H; clear H; have p129 : 0 ≤ (x36_2 : Int) := of_decide_eq_true za_; have q129 : x36_2 < (l0_1.length : Int) := of_decide_eq_true za_; obtain ⟨ad129, e129, hx129_0, hx129_1, hx129_2⟩ := at_T109 HR0_1.out x36_2 p129 q129
                 cases e129
                 (try (replace hx129_0 := q3h_ HB.out hx129_0)); (try (replace hx129_1 := q3h_ HB.out hx129_1)); (try (replace hx129_2 := q3h_ HB.out hx129_2)); replace p129 := eq_true p129; replace q129 := eq_true q129
                 go_wp2_with (first | ((with_reducible refine gate_dst (N := 4) rfl ?_); (try (refine gate_guard (by rfl) ?_; dsimp only)); refine box_event ?hg (N := 4) ?hd (cs := #[.int .i64 0, .int .i64 0, .int .i64 0]) (t := 109) ?hr ?_; (case hd => rfl); (case hg => rfl); (case hr => exact zd_); intro gb130 hg w47 hbox hb; have n_ := z (blk_below (zb BK128.out) hb) <| z (below_step zj_ hb) <| z (hbox) <| z ((by rw [hg]; exact (below_size zj_) : w.heap.size ≤ gb130)) <| z ((by rw [hg]; exact (below_size zj_) : w.heap.size ≤ gb130)) <| z ((by rw [hg]; exact Nat.ne_of_lt (blk_lt (zb BK128.out)) : gb128 ≠ gb130)) <| z1 ((by rw [hg]; exact Nat.ne_of_gt (blk_lt (zb BK128.out)) : gb130 ≠ gb128)); clear BK128 HB; obtain ⟨BK128, HB, BK130, GW130, GE130, NB128_130, NB130_128⟩ := n_; clear hb hbox hg; have hnb48 := NB130_128.out; have hnc48 := NB128_130.out; obtain ⟨hcz49_0, hcz49_1, hcz49_2, hfz49_0, hfz49_1, hfz49_2⟩ := zk3 BK130.out; obtain ⟨hcz50_0, hcz50_1, hcz50_2, hfz50_0, hfz50_1, hfz50_2⟩ := zk3 BK128.out))
                 go_roundg k2
                 case measure => have := HJ1.out; have := HK2.out; omega
                 case rel => exact ⟨(wrap64 (x36_2 + 1)), zc_, H', ⟨by have := HJ1.out; have := HK2.out; omega⟩, ⟨by refine zb ?_; refine blk_far ?_ NB128_130.out _; refine zb ?_; refine blk_far ?_ NB128_130.out _; refine zb ?_; refine blk_far ?_ NB128_130.out _; refine zb ?_; exact BK128.out⟩, ⟨zdg_⟩⟩
                ·rw [if_neg c46] at H
                 have c46b0 := beq_eq_false_iff_ne.mpr c46; have c46b1 := bne_iff_ne.mpr c46; obtain rfl := Option.some.inj H; have p129 : 0 ≤ (x36_2 : Int) := of_decide_eq_true za_; have q129 : x36_2 < (l0_1.length : Int) := of_decide_eq_true za_; obtain ⟨ad129, e129, hx129_0, hx129_1, hx129_2⟩ := at_T109 HR0_1.out x36_2 p129 q129
                 cases e129
                 (try (replace hx129_0 := q3h_ HB.out hx129_0)); (try (replace hx129_1 := q3h_ HB.out hx129_1)); (try (replace hx129_2 := q3h_ HB.out hx129_2)); replace p129 := eq_true p129; replace q129 := eq_true q129
                 go_wp2_with (first | ((with_reducible refine gate_dst (N := 4) rfl ?_); (try (refine gate_guard (by rfl) ?_; dsimp only)); refine box_event ?hg (N := 4) ?hd (cs := #[.int .i64 0, .int .i64 0, .int .i64 0]) (t := 109) ?hr ?_; (case hd => rfl); (case hg => rfl); (case hr => exact zd_); intro gb130 hg w51 hbox hb; have n_ := z (blk_below (zb BK128.out) hb) <| z (below_step zj_ hb) <| z (hbox) <| z ((by rw [hg]; exact (below_size zj_) : w.heap.size ≤ gb130)) <| z ((by rw [hg]; exact (below_size zj_) : w.heap.size ≤ gb130)) <| z ((by rw [hg]; exact Nat.ne_of_lt (blk_lt (zb BK128.out)) : gb128 ≠ gb130)) <| z1 ((by rw [hg]; exact Nat.ne_of_gt (blk_lt (zb BK128.out)) : gb130 ≠ gb128)); clear BK128 HB; obtain ⟨BK128, HB, BK130, GW130, GE130, NB128_130, NB130_128⟩ := n_; clear hb hbox hg; have hnb52 := NB130_128.out; have hnc52 := NB128_130.out; obtain ⟨hcz53_0, hcz53_1, hcz53_2, hfz53_0, hfz53_1, hfz53_2⟩ := zk3 BK130.out; obtain ⟨hcz54_0, hcz54_1, hcz54_2, hfz54_0, hfz54_1, hfz54_2⟩ := zk3 BK128.out))
                 go_ret
                 exact ⟨zh_, zdg_⟩
               ·rw [if_neg c45] at H
                have c45b0 := beq_eq_false_iff_ne.mpr c45; have c45b1 := bne_iff_ne.mpr c45; have H' := aM H; clear H; have p129 : 0 ≤ (x36_2 : Int) := of_decide_eq_true za_; have q129 : x36_2 < (l0_1.length : Int) := of_decide_eq_true za_; obtain ⟨ad129, e129, hx129_0, hx129_1, hx129_2⟩ := at_T109 HR0_1.out x36_2 p129 q129
                cases e129
                (try (replace hx129_0 := q3h_ HB.out hx129_0)); (try (replace hx129_1 := q3h_ HB.out hx129_1)); (try (replace hx129_2 := q3h_ HB.out hx129_2)); replace p129 := eq_true p129; replace q129 := eq_true q129
                go_wp2_with (first | ((with_reducible refine gate_dst (N := 4) rfl ?_); (try (refine gate_guard (by rfl) ?_; dsimp only)); refine box_event ?hg (N := 4) ?hd (cs := #[.int .i64 0, .int .i64 0, .int .i64 0]) (t := 109) ?hr ?_; (case hd => rfl); (case hg => rfl); (case hr => exact zd_); intro gb130 hg w55 hbox hb; have n_ := z (blk_below (zb BK128.out) hb) <| z (below_step zj_ hb) <| z (hbox) <| z ((by rw [hg]; exact (below_size zj_) : w.heap.size ≤ gb130)) <| z ((by rw [hg]; exact (below_size zj_) : w.heap.size ≤ gb130)) <| z ((by rw [hg]; exact Nat.ne_of_lt (blk_lt (zb BK128.out)) : gb128 ≠ gb130)) <| z1 ((by rw [hg]; exact Nat.ne_of_gt (blk_lt (zb BK128.out)) : gb130 ≠ gb128)); clear BK128 HB; obtain ⟨BK128, HB, BK130, GW130, GE130, NB128_130, NB130_128⟩ := n_; clear hb hbox hg; have hnb56 := NB130_128.out; have hnc56 := NB128_130.out; obtain ⟨hcz57_0, hcz57_1, hcz57_2, hfz57_0, hfz57_1, hfz57_2⟩ := zk3 BK130.out; obtain ⟨hcz58_0, hcz58_1, hcz58_2, hfz58_0, hfz58_1, hfz58_2⟩ := zk3 BK128.out))
                go_roundg k2
                case measure => have := HJ1.out; have := HK2.out; omega
                case rel => exact ⟨(wrap64 (x36_2 + 1)), zc_, H', ⟨by have := HJ1.out; have := HK2.out; omega⟩, ⟨by refine zb ?_; refine blk_far ?_ NB128_130.out _; refine zb ?_; refine blk_far ?_ NB128_130.out _; refine zb ?_; refine blk_far ?_ NB128_130.out _; refine zb ?_; exact BK128.out⟩, ⟨zdg_⟩⟩
        ·rw [if_neg c17] at H
         exact q3n_ H
       ·rw [if_neg c16] at H
        exact q3n_ H
      ·rw [if_neg c15] at H
       have c15b0 := decide_eq_false c15; clear c15; have H' := aM H; clear H; obtain ⟨hcz59_0, hcz59_1, hcz59_2, hfz59_0, hfz59_1, hfz59_2⟩ := zk3 BK128.out
       go_wp2
       go_loopg [93] k2 (fun kq v93 w' => ∃ (x93_3 : Int), v93 = .int .i64 x93_3 ∧ Aside0 (impl_IsCircuit.l1 kq l0_2 (l0_2.length : Int) x93_3 a0_0 l0_1 l0_2 = some r) ∧ Aside0 (kq ≤ k2) ∧ Aside0 (w'.heap[gb128]? = some (.cells #[.int .i64 a0_0, (.slice A0_1 l0_1.length c0_1), (.slice A0_2 l0_2.length c0_2)] 61 (0, 0))) ∧ Aside0 (Below w.heap.size w w'))
       case atStart => exact ⟨(0), zc_, H', ⟨Nat.le_refl _⟩, ⟨zb BK128.out⟩, ⟨zj_⟩⟩
       case round =>
        clear H'; (try clear c15b0); (try clear hcz59_0); (try clear hcz59_1); (try clear hcz59_2); (try clear hfz59_0); (try clear hfz59_1); (try clear hfz59_2); obtain ⟨x93_3, rfl, HA, HK3, BK128, HB⟩ := hrel
        cases gk with
        | zero => exact absurd HA.out (by simp [impl_IsCircuit.l1])
        | succ k3 =>
         have H := HA.out; clear HA
         simp only [impl_IsCircuit.l1] at H
         by_cases c60 : x93_3 < (l0_2.length : Int)
         ·rw [if_pos c60] at H
          have c60b0 := decide_eq_true c60; clear c60
          by_cases c61 : 0 ≤ x93_3
          ·rw [if_pos c61] at H
           have c61b0 := decide_eq_true c61; clear c61
           by_cases c62 : x93_3 < (l0_2.length : Int)
           ·rw [if_pos c62] at H
            have c62b0 := decide_eq_true c62; clear c62
            by_cases c63 : (rd l0_2 x93_3) < 0
            ·rw [if_pos c63] at H
             have c63b0 := decide_eq_true c63; clear c63; obtain rfl := Option.some.inj H; have p131 : 0 ≤ (x93_3 : Int) := of_decide_eq_true za_; have q131 : x93_3 < (l0_2.length : Int) := of_decide_eq_true za_; obtain ⟨ad131, e131, hx131_0⟩ := Kd.at_int HR0_2.out x93_3 p131 q131
             cases e131
             (try (replace hx131_0 := q3h_ HB.out hx131_0)); replace p131 := eq_true p131; replace q131 := eq_true q131
             go_wp2
             go_ret
             exact ⟨zh_, zj_⟩
            ·rw [if_neg c63] at H
             have c63b0 := decide_eq_false c63; clear c63
             by_cases c64 : (rd l0_2 x93_3) ≥ (wrap64 (a0_0 + (l0_1.length : Int)))
             ·rw [if_pos c64] at H
              have c64b0 : decide ((wrap64 (a0_0 + (l0_1.length : Int))) ≤ (rd l0_2 x93_3)) = true := decide_eq_true c64; clear c64; obtain rfl := Option.some.inj H; have p131 : 0 ≤ (x93_3 : Int) := of_decide_eq_true za_; have q131 : x93_3 < (l0_2.length : Int) := of_decide_eq_true za_; obtain ⟨ad131, e131, hx131_0⟩ := Kd.at_int HR0_2.out x93_3 p131 q131
              cases e131
              (try (replace hx131_0 := q3h_ HB.out hx131_0)); replace p131 := eq_true p131; replace q131 := eq_true q131; obtain ⟨hcz65_0, hcz65_1, hcz65_2, hfz65_0, hfz65_1, hfz65_2⟩ := zk3 BK128.out
              go_wp2
              go_ret
              exact ⟨zh_, zj_⟩
             ·rw [if_neg c64] at H
              have c64b0 : decide ((wrap64 (a0_0 + (l0_1.length : Int))) ≤ (rd l0_2 x93_3)) = false := decide_eq_false c64; clear c64; have H' := aM H; clear H; have p131 : 0 ≤ (x93_3 : Int) := of_decide_eq_true za_; have q131 : x93_3 < (l0_2.length : Int) := of_decide_eq_true za_; obtain ⟨ad131, e131, hx131_0⟩ := Kd.at_int HR0_2.out x93_3 p131 q131
              cases e131
              (try (replace hx131_0 := q3h_ HB.out hx131_0)); replace p131 := eq_true p131; replace q131 := eq_true q131; obtain ⟨hcz66_0, hcz66_1, hcz66_2, hfz66_0, hfz66_1, hfz66_2⟩ := zk3 BK128.out
              go_wp2
              go_roundg k3
              case measure => have := HJ1.out; have := HK2.out; have := HK3.out; omega
              case rel => exact ⟨(wrap64 (x93_3 + 1)), zc_, H', ⟨by have := HJ1.out; have := HK2.out; have := HK3.out; omega⟩, ⟨zb BK128.out⟩, ⟨zj_⟩⟩
           ·rw [if_neg c62] at H
            exact q3n_ H
          ·rw [if_neg c61] at H
           exact q3n_ H
         ·rw [if_neg c60] at H
          have c60b0 := decide_eq_false c60; clear c60; obtain rfl := Option.some.inj H
          go_wp2
          go_ret
          exact ⟨zh_, zj_⟩
def impl_GateDepths.l0 : Nat → List Int → List (S109) → Int → Int → Int → List (S109) → List Int → Option (List Int × Bool)
 | 0, _, _, _, _, _, _, _ => none
 | k + 1, x4, x14, x15, x16, x133000, x133001, x133002 => if x16 < x15 then (if 0 ≤ x16 then (if x16 < (x14.length : Int) then (if 0 ≤ ((rd_T109 x14 x16).f1) then (if ((rd_T109 x14 x16).f1) < (x4.length : Int) then (if 0 ≤ ((rd_T109 x14 x16).f2) then (if ((rd_T109 x14 x16).f2) < (x4.length : Int) then (if x4.length < 17592186044416 then (impl_GateDepths.l0 k (x4 ++ [wrap64 (1 + (mx (rd x4 ((rd_T109 x14 x16).f1)) (rd x4 ((rd_T109 x14 x16).f2))))]) x14 x15 (wrap64 (x16 + 1)) x133000 x133001 x133002) else (none)) else (none)) else (none)) else (none)) else (none)) else (none)) else (none)) else ((some (([] : List Int) : List Int)).bind fun y144 => (if 0 ≤ x133000 then (if x133000 ≤ (x4.length : Int) then ((some (x4.drop (x133000 : Int).toNat : List Int)).bind fun y147 => (if y144.length + y147.length < 17592186044416 then (some ((y144 ++ y147), true)) else (none))) else (none)) else (none)))
def impl_GateDepths.f (k : Nat) (a0_0 : Int) (l0_1 : List (S109)) (l0_2 : List Int) : Option (List Int × Bool) := (impl_IsCircuit.f k a0_0 l0_1 l0_2).bind fun t133 => (if t133 = true then (if 0 ≤ a0_0 then (if (a0_0 : Int).toNat ≤ 35184372088832 then (impl_GateDepths.l0 k (List.replicate (a0_0 : Int).toNat 0) l0_1 (l0_1.length : Int) 0 a0_0 l0_1 l0_2) else (none)) else (none)) else (some (([] : List Int), false)))
def impl_GateDepths.T7 : Bool × List (List Nat × List Nat) := (true, [([], []), ([], []), ([], []), ([2], [2]), ([1, 3], [1, 3]), ([4], [4]), ([], []), ([], []), ([7], [7]), ([6, 8], [6, 8]), ([9], [9]), ([5, 10], [5, 10]), ([11], [11]), ([12], [12]), ([0, 13], [0, 13]), ([14, 14, 0, 1, 2, 3, 4, 5, 6, 7, 8, 9, 10, 11, 12, 13, 14], [0, 1, 6, 14])])
def impl_GateDepths.B7 : List Nat := [0, 0, 0, 4, 14, 30, 0, 0, 128, 448, 960, 2046, 4094, 8190, 16383, 32767]
theorem impl_GateDepths.tab7 : rtab .any (opsOf Try.f35 7) = impl_GateDepths.T7 := by kernel_rfl
theorem impl_GateDepths.bits7 : waitsOk impl_GateDepths.T7.2 impl_GateDepths.B7 = true := by kernel_rfl
theorem impl_GateDepths.calls (k : Nat) (a0_0 : Int) (A0_1 : Option Addr) (c0_1 : Nat) (l0_1 : List (S109)) (A0_2 : Option Addr) (c0_2 : Nat) (l0_2 : List Int) (r1 : List Int) (r2 : Bool) (w : World) (hr0_1 : Kd.C k109 w A0_1 l0_1.length l0_1) (hc0_1 : l0_1.length ≤ c0_1) (hr0_2 : Kd.C (Kd.int .i64) w A0_2 l0_2.length l0_2) (hc0_2 : l0_2.length ≤ c0_2) (h : impl_GateDepths.f k a0_0 l0_1 l0_2 = some (r1, r2)) :
  Calls Try.prog 35 #[.agg #[.int .i64 a0_0, .slice A0_1 l0_1.length c0_1, .slice A0_2 l0_2.length c0_2]] w fun e w' => ∃ v0_ : Value, e = .returned (.tuple #[v0_, .bool r2]) ∧ Kd.R (Kd.int .i64) 3 w' w.heap.size (fun _ => True) v0_ r1 ∧ Below w.heap.size w w' := by
 have hu61 := Try.underlying61
 have hu109 := Try.underlying109
 have HR0_1 := aM hr0_1
 have HC0_1 := aM hc0_1
 clear hr0_1 hc0_1
 have HR0_2 := aM hr0_2
 have HC0_2 := aM hc0_2
 clear hr0_2 hc0_2
 have HB := aM (Below.refl w.heap.size w)
 have H : ((impl_IsCircuit.f k a0_0 l0_1 l0_2).bind fun t133 => (if t133 = true then (if 0 ≤ a0_0 then (if (a0_0 : Int).toNat ≤ 35184372088832 then (impl_GateDepths.l0 k (List.replicate (a0_0 : Int).toNat 0) l0_1 (l0_1.length : Int) 0 a0_0 l0_1 l0_2) else (none)) else (none)) else (some (([] : List Int), false)))) = some (r1, r2) := h
 clear h
 replace H := oB.mp H
 obtain ⟨t133, A20, H⟩ := H
 replace H : (if t133 = true then (if 0 ≤ a0_0 then (if (a0_0 : Int).toNat ≤ 35184372088832 then (impl_GateDepths.l0 k (List.replicate (a0_0 : Int).toNat 0) l0_1 (l0_1.length : Int) 0 a0_0 l0_1 l0_2) else (none)) else (none)) else (some (([] : List Int), false))) = some (r1, r2) := H
 have A2 := aM A20
 clear A20
 by_cases c3 : t133 = true
 ·subst c3
  have H1 : (if 0 ≤ a0_0 then (if (a0_0 : Int).toNat ≤ 35184372088832 then (impl_GateDepths.l0 k (List.replicate (a0_0 : Int).toNat 0) l0_1 (l0_1.length : Int) 0 a0_0 l0_1 l0_2) else (none)) else (none)) = some (r1, r2) := by rw [if_pos rfl] at H; exact H
  clear H; have H := H1; clear H1
  by_cases c4 : 0 ≤ a0_0
  ·rw [if_pos c4] at H
   have c4b0 := eq_true c4; have c4b1 := decide_eq_true c4; clear c4
   by_cases c5 : (a0_0 : Int).toNat ≤ 35184372088832
   ·rw [if_pos c5] at H
    have c5b0 := eq_true c5; have c5b1 := decide_eq_true c5; clear c5; obtain ⟨y134, hy134⟩ : ∃ y_ : List Int, y_ = (List.replicate (a0_0 : Int).toNat 0) := ⟨_, rfl⟩; replace H : (impl_GateDepths.l0 k y134 l0_1 (l0_1.length : Int) 0 a0_0 l0_1 l0_2) = some (r1, r2) := q3y_ hy134 H
    have Ny134 := aM hy134; clear hy134; have H' := aM H; clear H
    go_enter Try.func35, Try.ntmps35
    go_wp2_with (first | ((with_reducible refine gate_dst (N := 1) rfl ?_); refine box_event ?hg (N := 1) ?hd (cs := #[.int .i64 a0_0, .slice A0_1 l0_1.length c0_1, .slice A0_2 l0_2.length c0_2]) (t := 61) ?hr ?_; (case hd => rfl); (case hg => rfl); (case hr => exact zd_); intro gb132 hg w6 hbox hb; have n_ := z (below_step zb_ hb) <| z (hbox) <| z ((by rw [hg]; exact (below_size zb_) : w.heap.size ≤ gb132)) <| z1 ((by rw [hg]; exact (below_size zb_) : w.heap.size ≤ gb132)); clear HB; obtain ⟨HB, BK132, GW132, GE132⟩ := n_; clear hb hbox hg; obtain ⟨hcz7_0, hcz7_1, hcz7_2, hfz7_0, hfz7_1, hfz7_2⟩ := zk3 BK132.out) | ((with_reducible refine gate_callee (f := 84) rfl ?_); refine goesL_ (some 8) rfl rfl Try.func84 (by kernel_rfl) rfl #[.agg #[.int .i64 a0_0, .slice A0_1 l0_1.length c0_1, .slice A0_2 l0_2.length c0_2]] rfl zf_ ?_; (with_reducible refine (impl_IsCircuit.calls k a0_0 _ _ l0_1 _ _ l0_2 true _ ?side1 ?side2 ?side3 ?side4 A2.out).mono ?_); (case side1 => exact zce_); (case side2 => exact HC0_1.out); (case side3 => exact zcf_); (case side4 => exact HC0_2.out); rintro e w8 ⟨rfl, hb⟩; refine ⟨_, rfl, ?_⟩; have n_ := z (blk_below (zb BK132.out) hb) <| z1 (below_step zcc_ hb); clear BK132 HB; obtain ⟨BK132, HB⟩ := n_; clear hb; obtain ⟨hcz9_0, hcz9_1, hcz9_2, hfz9_0, hfz9_1, hfz9_2⟩ := zk3 BK132.out) | ((with_reducible refine gate_dst (N := 12) rfl ?_); refine Kd.R_make (Kd.int .i64) _ 3 rfl (N := 12) rfl 39 _ _ rfl a0_0 rfl rfl Try.underlying39 (.int .i64 0) 8 info3 rfl (by decide) (by omega) 0 (ok := fun _ => True) (okp := fun _ => True) rfl (fun _ hk => hk) trivial (of_decide_eq_true za_) (Nat.le_trans (Nat.mul_le_mul_right _ (of_decide_eq_true za_ : a0_0.toNat ≤ 35184372088832)) (by omega)) (Below.refl _ _) (Nat.le_refl _) ?_; intro v135 w10 ho11 hb hg_ hnew_; clear hg_ hnew_; (first | rw [← Ny134.out] at ho11 | (simp only [Int.reduceToNat] at ho11; rw [← Ny134.out] at ho11)); have n_ := z (Kd.R_lower ho11 (below_size zcc_)) <| z (blk_below (zb BK132.out) hb) <| z1 (below_step zcc_ hb); clear BK132 HB; obtain ⟨HO136, BK132, HB⟩ := n_; clear hb ho11; obtain ⟨hcz12_0, hcz12_1, hcz12_2, hfz12_0, hfz12_1, hfz12_2⟩ := zk3 BK132.out))
    go_loopg [4, 16] k (fun kq v4 v16 w' => ∃ (x4_1 : List Int) (x16_1 : Int), v16 = .int .i64 x16_1 ∧ Aside0 (impl_GateDepths.l0 kq x4_1 l0_1 (l0_1.length : Int) x16_1 a0_0 l0_1 l0_2 = some (r1, r2)) ∧ Aside0 (kq ≤ k) ∧ Aside0 (Kd.R (Kd.int .i64) 3 w' w.heap.size (fun _ => True) v4 x4_1) ∧ Aside0 (w'.heap[gb132]? = some (.cells #[.int .i64 a0_0, (.slice A0_1 l0_1.length c0_1), (.slice A0_2 l0_2.length c0_2)] 61 (0, 0))) ∧ Aside0 (Below w.heap.size w w'))
    case atStart => exact ⟨(y134), (0), zc_, H', ⟨Nat.le_refl _⟩, ⟨zr HO136.out⟩, ⟨zb BK132.out⟩, ⟨zcc_⟩⟩
    case round =>
     clear H'; (try clear c4b0); (try clear c4b1); (try clear c5b0); (try clear c5b1); (try clear hcz12_0); (try clear hcz12_1); (try clear hcz12_2); (try clear hcz7_0); (try clear hcz7_1); (try clear hcz7_2); (try clear hcz9_0); (try clear hcz9_1); (try clear hcz9_2); (try clear hfz12_0); (try clear hfz12_1); (try clear hfz12_2); (try clear hfz7_0); (try clear hfz7_1); (try clear hfz7_2); (try clear hfz9_0); (try clear hfz9_1); (try clear hfz9_2); obtain ⟨x4_1, x16_1, rfl, HA, HK1, HO_4, BK132, HB⟩ := hrel
     cases gk with
     | zero => exact absurd HA.out (by simp [impl_GateDepths.l0])
     | succ k1 =>
      have H := HA.out; clear HA
      simp only [impl_GateDepths.l0] at H
      by_cases c13 : x16_1 < (l0_1.length : Int)
      ·rw [if_pos c13] at H
       have c13b0 := decide_eq_true c13; clear c13
       by_cases c14 : 0 ≤ x16_1
       ·rw [if_pos c14] at H
        have c14b0 := decide_eq_true c14; clear c14
        by_cases c15 : x16_1 < (l0_1.length : Int)
        ·rw [if_pos c15] at H
         have c15b0 := decide_eq_true c15; clear c15
         by_cases c16 : 0 ≤ ((rd_T109 l0_1 x16_1).f1)
         ·rw [if_pos c16] at H
          have c16b0 := decide_eq_true c16; clear c16
          by_cases c17 : ((rd_T109 l0_1 x16_1).f1) < (x4_1.length : Int)
          ·rw [if_pos c17] at H
           have c17b0 := decide_eq_true c17; clear c17
           by_cases c18 : 0 ≤ ((rd_T109 l0_1 x16_1).f2)
           ·rw [if_pos c18] at H
            have c18b0 := decide_eq_true c18; clear c18
            by_cases c19 : ((rd_T109 l0_1 x16_1).f2) < (x4_1.length : Int)
            ·rw [if_pos c19] at H
             have c19b0 := decide_eq_true c19; clear c19; obtain ⟨ji20, hji20⟩ : ∃ j_ : Int, (mx (rd x4_1 ((rd_T109 l0_1 x16_1).f1)) (rd x4_1 ((rd_T109 l0_1 x16_1).f2))) = j_ := ⟨_, rfl⟩; replace H : (if x4_1.length < 17592186044416 then (impl_GateDepths.l0 k1 (x4_1 ++ [wrap64 (1 + (ji20))]) l0_1 (l0_1.length : Int) (wrap64 (x16_1 + 1)) a0_0 l0_1 l0_2) else (none)) = some (r1, r2) := by first | (rw [hji20] at H; exact H) | (simp only [hji20] at H ⊢; exact H)
             have hji20_ : (if (rd x4_1 ((rd_T109 l0_1 x16_1).f1)) < (rd x4_1 ((rd_T109 l0_1 x16_1).f2)) then (rd x4_1 ((rd_T109 l0_1 x16_1).f2)) else (rd x4_1 ((rd_T109 l0_1 x16_1).f1))) = ji20 := hji20
             by_cases c21 : x4_1.length < 17592186044416
             ·rw [if_pos c21] at H
              have LMc21 := aM c21; clear c21; obtain ⟨y141, hy141⟩ : ∃ y_ : List Int, y_ = (x4_1 ++ [wrap64 (1 + (ji20))]) := ⟨_, rfl⟩; replace H : (impl_GateDepths.l0 k1 y141 l0_1 (l0_1.length : Int) (wrap64 (x16_1 + 1)) a0_0 l0_1 l0_2) = some (r1, r2) := q3y_ hy141 H
              have Ny141 := aM hy141; clear hy141; have H' := aM H; clear H; have p137 : 0 ≤ (x16_1 : Int) := of_decide_eq_true za_; have q137 : x16_1 < (l0_1.length : Int) := of_decide_eq_true za_; obtain ⟨ad137, e137, hx137_0, hx137_1, hx137_2⟩ := at_T109 HR0_1.out x16_1 p137 q137
              cases e137
              (try (replace hx137_0 := q3h_ HB.out hx137_0)); (try (replace hx137_1 := q3h_ HB.out hx137_1)); (try (replace hx137_2 := q3h_ HB.out hx137_2)); replace p137 := eq_true p137; replace q137 := eq_true q137; (try go_wp2_with (first | ((with_reducible refine gate_dst (N := 6) rfl ?_); refine box_event ?hg (N := 6) ?hd (cs := #[.int .i64 0, .int .i64 0, .int .i64 0]) (t := 109) ?hr ?_; (case hd => rfl); (case hg => rfl); (case hr => exact zd_); intro gb138 hg w22 hbox hb; have n_ := z (Kd.R_below (zr HO_4.out) hb) <| z (blk_below (zb BK132.out) hb) <| z (below_step zcc_ hb) <| z (hbox) <| z ((by rw [hg]; exact (below_size zcc_) : w.heap.size ≤ gb138)) <| z ((by rw [hg]; exact (below_size zcc_) : w.heap.size ≤ gb138)) <| z ((by rw [hg]; exact Nat.ne_of_lt (blk_lt (zb BK132.out)) : gb132 ≠ gb138)) <| z1 ((by rw [hg]; exact Nat.ne_of_gt (blk_lt (zb BK132.out)) : gb138 ≠ gb132)); clear HO_4 BK132 HB; obtain ⟨HO_4, BK132, HB, BK138, GW138, GE138, NB132_138, NB138_132⟩ := n_; clear hb hbox hg; have hnb23 := NB138_132.out; have hnc23 := NB132_138.out; obtain ⟨hcz24_0, hcz24_1, hcz24_2, hfz24_0, hfz24_1, hfz24_2⟩ := zk3 BK138.out))); have n0_ : Aside0 (Kd.R (Kd.int .i64) 3 (((w22.setCell ⟨gb138, 0, none⟩ (.int .i64 ((rd_T109 l0_1 x16_1).f0))).setCell ⟨gb138, 1, none⟩ (.int .i64 ((rd_T109 l0_1 x16_1).f1))).setCell ⟨gb138, 2, none⟩ (.int .i64 ((rd_T109 l0_1 x16_1).f2))) w.heap.size (fun _ => True) u4 x4_1) := ⟨by refine zr ?_; exact Kd.R_mono (Kd.R_far (p := ⟨gb138, 2, none⟩) (Kd.R_far (p := ⟨gb138, 1, none⟩) (Kd.R_far (p := ⟨gb138, 0, none⟩) (Kd.R_types HO_4.out BK138.out (by decide)) (fun _ hk => hk.2) (.int .i64 ((rd_T109 l0_1 x16_1).f0))) (fun _ hk => hk.2) (.int .i64 ((rd_T109 l0_1 x16_1).f1))) (fun _ hk => hk.2) (.int .i64 ((rd_T109 l0_1 x16_1).f2))) (fun _ hk => trivial)⟩; have n1_ : Aside0 ((((w22.setCell ⟨gb138, 0, none⟩ (.int .i64 ((rd_T109 l0_1 x16_1).f0))).setCell ⟨gb138, 1, none⟩ (.int .i64 ((rd_T109 l0_1 x16_1).f1))).setCell ⟨gb138, 2, none⟩ (.int .i64 ((rd_T109 l0_1 x16_1).f2))).heap[gb132]? = some (.cells #[.int .i64 a0_0, .slice (some ad137) l0_1.length c0_1, .slice A0_2 l0_2.length c0_2] 61 (0, 0))) := ⟨by refine zb ?_; refine blk_far ?_ NB132_138.out _; refine zb ?_; refine blk_far ?_ NB132_138.out _; refine zb ?_; refine blk_far ?_ NB132_138.out _; refine zb ?_; exact BK132.out⟩; have n2_ : Aside0 ((((w22.setCell ⟨gb138, 0, none⟩ (.int .i64 ((rd_T109 l0_1 x16_1).f0))).setCell ⟨gb138, 1, none⟩ (.int .i64 ((rd_T109 l0_1 x16_1).f1))).setCell ⟨gb138, 2, none⟩ (.int .i64 ((rd_T109 l0_1 x16_1).f2))).heap[gb138]? = some (.cells #[.int .i64 ((rd_T109 l0_1 x16_1).f0), .int .i64 ((rd_T109 l0_1 x16_1).f1), .int .i64 ((rd_T109 l0_1 x16_1).f2)] 109 (0, 0))) := ⟨by refine zb ?_; refine blk_put (cs := #[.int .i64 ((rd_T109 l0_1 x16_1).f0), .int .i64 ((rd_T109 l0_1 x16_1).f1), .int .i64 0]) ?_ 2 _ rfl; refine zb ?_; refine blk_put (cs := #[.int .i64 ((rd_T109 l0_1 x16_1).f0), .int .i64 0, .int .i64 0]) ?_ 1 _ rfl; refine zb ?_; refine blk_put (cs := #[.int .i64 0, .int .i64 0, .int .i64 0]) ?_ 0 _ rfl; refine zb ?_; exact BK138.out⟩; have n3_ : Aside0 (Below w.heap.size w (((w22.setCell ⟨gb138, 0, none⟩ (.int .i64 ((rd_T109 l0_1 x16_1).f0))).setCell ⟨gb138, 1, none⟩ (.int .i64 ((rd_T109 l0_1 x16_1).f1))).setCell ⟨gb138, 2, none⟩ (.int .i64 ((rd_T109 l0_1 x16_1).f2)))) := ⟨zfg_⟩; (try clear HO_4); (try clear BK132); (try clear BK138); (try clear HB); generalize (((w22.setCell ⟨gb138, 0, none⟩ (.int .i64 ((rd_T109 l0_1 x16_1).f0))).setCell ⟨gb138, 1, none⟩ (.int .i64 ((rd_T109 l0_1 x16_1).f1))).setCell ⟨gb138, 2, none⟩ (.int .i64 ((rd_T109 l0_1 x16_1).f2))) = w25 at n0_ n1_ n2_ n3_ ⊢; have HO_4 := n0_; have BK132 := n1_; have BK138 := n2_; have HB := n3_; clear n0_ n1_ n2_ n3_; have n_ := z (kD HO_4.out) <| z (blk_drew BK132.out) <| z (blk_drew BK138.out) <| z1 (p1 HB.out)
              clear HO_4 BK132 BK138 HB; obtain ⟨HO_4, BK132, BK138, HB⟩ := n_; obtain ⟨Ao27, co27, eo27⟩ := Kd.R_slice HO_4.out; (first | subst eo27 | (injection eo27 with f1_ f2_ f3_; have f4_ := f1_.symm; have f5_ := f3_.symm; clear f1_ f2_ f3_; subst f4_; subst f5_)); have p139 : 0 ≤ (((rd_T109 l0_1 x16_1).f1) : Int) := of_decide_eq_true za_; have q139 : ((rd_T109 l0_1 x16_1).f1) < (x4_1.length : Int) := of_decide_eq_true za_; obtain ⟨ad139, e139, hx139_0⟩ := Kd.at_int (Kd.R_reads' HO_4.out).2.2 ((rd_T109 l0_1 x16_1).f1) p139 q139
              cases e139
              replace p139 := eq_true p139; replace q139 := eq_true q139; have p140 : 0 ≤ (((rd_T109 l0_1 x16_1).f2) : Int) := of_decide_eq_true za_; have q140 : ((rd_T109 l0_1 x16_1).f2) < (x4_1.length : Int) := of_decide_eq_true za_; obtain ⟨ad140, e140, hx140_0⟩ := Kd.at_int (Kd.R_reads' HO_4.out).2.2 ((rd_T109 l0_1 x16_1).f2) p140 q140; obtain rfl : ad139 = ad140 := (by injection e140); replace p140 := eq_true p140; replace q140 := eq_true q140
              refine start_ (n := 16) (S := fun w' => w'.cell? ⟨gb138, 0, none⟩ = some (.int .i64 ((rd_T109 l0_1 x16_1).f0)) ∧ w'.cell? ⟨gb138, 1, none⟩ = some (.int .i64 ((rd_T109 l0_1 x16_1).f1)) ∧ w'.cell? ⟨gb138, 2, none⟩ = some (.int .i64 ((rd_T109 l0_1 x16_1).f2)) ∧ w'.cell? (ad139.add (((rd_T109 l0_1 x16_1).f1)).toNat) = some (.int .i64 (rd x4_1 ((rd_T109 l0_1 x16_1).f1))) ∧ w'.cell? (ad139.add (((rd_T109 l0_1 x16_1).f2)).toNat) = some (.int .i64 (rd x4_1 ((rd_T109 l0_1 x16_1).f2)))) (ds := [13, 14]) #[fi,fi,fi,fi,fi,fi,fi,fi,fi,fi,fi,fi,fi,fi,fi,fi] (by kernel_rfl) rfl rfl ⟨(blk_cell BK138.out 0).trans rfl, (blk_cell BK138.out 1).trans rfl, (blk_cell BK138.out 2).trans rfl, hx139_0, hx140_0⟩ (fun hHeld => ?_); refine with_tabW impl_GateDepths.tab7 impl_GateDepths.bits7 (fun HT_ HW_ => ?_)
              generalize w25.drew = w26 at HO_4 BK132 BK138 HB hx139_0 hx140_0 hHeld ⊢; refine py_ 0 20 HT_.out ?_; refine py_ 1 21 HT_.out ?_; refine py_ 2 22 HT_.out ?_; refine py_ 6 26 HT_.out ?_; refine py_ 7 27 HT_.out ?_
              refine tw5_ 3 23 HT_.out HW_.out hHeld ?_
              refine py_ 4 24 HT_.out ?_
              refine tw5_ 5 25 HT_.out HW_.out hHeld ?_
              refine tw5_ 8 28 HT_.out HW_.out hHeld ?_
              refine py_ 9 29 HT_.out ?_
              refine tw5_ 10 30 HT_.out HW_.out hHeld ?_
              refine py_ 11 31 HT_.out ?_; refine py_ 12 32 HT_.out ?_
              refine last_ (i := 13) (N := some 33) #[ti,ti,ti,ti,ti,ti,ti,ti,ti,ti,ti,ti,ti,ti,fi,fi] rfl rfl (one_of HT_.out (by kernel_rfl)) (by decide) (fun K hK => ?_)
              refine value_ (w1 := ?_) (v := ?_) (by rfl) rfl ?_ ?_
              rotate_left 2
              ·go_simp
               constructor
               ·rfl
               ·rfl
              refine hK.out _ _ ?_
              clear hK K
              refine nz_ 33 ?_
              refine last_ (i := 14) (N := some 34) #[ti,ti,ti,ti,ti,ti,ti,ti,ti,ti,ti,ti,ti,ti,ti,fi] rfl rfl (one_of HT_.out (by kernel_rfl)) (by decide) (fun K hK => ?_)
              refine Kd.R_append_step (Kd.int .i64) (w0 := w) w.heap.size (by rfl) (.tmp 20) (.tmp 33) 39 3 (.int .i64 0) 8 rfl Try.underlying39 info3 rfl (by decide) (by omega) (.slice (some ad139) x4_1.length co27) x4_1 (wrap64 (1 + (ji20))) [.int .i64 (wrap64 (1 + (ji20)))] (fun _ => True) (fun _ => False) rfl rfl ?aP (fun _ hk => hk.elim) ?aF ?aO ?aB ?aS ?aL ?_
              (case aP => exact rfl)
              (case aB => exact zfg_)
              (case aF => exact zcd_)
              (case aO => exact (zr HO_4.out))
              (case aS => exact (below_size zfg_))
              (case aL => have := LMc21.out; omega)
              intro v142 w28 ho hb hg hat
              rw [← Ny141.out] at ho; have n_ := z (blk_grown (g := gb132) (o := .cells #[.int .i64 a0_0, .slice (some ad137) l0_1.length c0_1, .slice A0_2 l0_2.length c0_2] 61 (0, 0)) (zb BK132.out) hg (Kd.R_ne HO_4.out BK132.out (by decide))) <| z (blk_grown (g := gb138) (o := .cells #[.int .i64 ((rd_T109 l0_1 x16_1).f0), .int .i64 ((rd_T109 l0_1 x16_1).f1), .int .i64 ((rd_T109 l0_1 x16_1).f2)] 109 (0, 0)) (zb BK138.out) hg (Kd.R_ne HO_4.out BK138.out (by decide))) <| z (hb) <| z1 (ho)
              clear BK132 BK138 HB HO_4; obtain ⟨BK132, BK138, HB, HO143⟩ := n_; clear ho hb hg hat
              refine hK.out _ _ ?_
              clear hK K
              refine nz_ 34 ?_
              refine py_ 15 4 HT_.out ?_
              refine done_ (done_of HT_.out (by kernel_rfl)) ?_
              (try go_wp2)
              go_roundg k1
              case measure => have := HK1.out; omega
              case rel => exact ⟨(y141), (wrap64 (x16_1 + 1)), zc_, H', ⟨zbe_⟩, ⟨zr HO143.out⟩, ⟨zb BK132.out⟩, ⟨zfg_⟩⟩
             ·rw [if_neg c21] at H
              exact q3n_ H
            ·rw [if_neg c19] at H
             exact q3n_ H
           ·rw [if_neg c18] at H
            exact q3n_ H
          ·rw [if_neg c17] at H
           exact q3n_ H
         ·rw [if_neg c16] at H
          exact q3n_ H
        ·rw [if_neg c15] at H
         exact q3n_ H
       ·rw [if_neg c14] at H
        exact q3n_ H
      ·rw [if_neg c13] at H
       have c13b0 := decide_eq_false c13; clear c13; obtain ⟨y144, hy144⟩ : ∃ y_ : List Int, y_ = (([] : List Int)) := ⟨_, rfl⟩; replace H : (if 0 ≤ a0_0 then (if a0_0 ≤ (x4_1.length : Int) then ((some (x4_1.drop (a0_0 : Int).toNat : List Int)).bind fun y147 => (if y144.length + y147.length < 17592186044416 then (some ((y144 ++ y147), true)) else (none))) else (none)) else (none)) = some (r1, r2) := q3y_ hy144 H
       have Ny144 := aM hy144; clear hy144
       by_cases c29 : 0 ≤ a0_0
       ·rw [if_pos c29] at H
        have c29b0 := eq_true c29; have c29b1 := decide_eq_true c29; clear c29
        by_cases c30 : a0_0 ≤ (x4_1.length : Int)
        ·rw [if_pos c30] at H
         have c30b0 := eq_true c30; have c30b1 := decide_eq_true c30; clear c30; obtain ⟨y147, hy147⟩ : ∃ y_ : List Int, y_ = (x4_1.drop (a0_0 : Int).toNat) := ⟨_, rfl⟩; replace H : (if y144.length + y147.length < 17592186044416 then (some ((y144 ++ y147), true)) else (none)) = some (r1, r2) := q3y_ hy147 H
         have Ny147 := aM hy147; clear hy147
         by_cases c31 : y144.length + y147.length < 17592186044416
         ·rw [if_pos c31] at H
          have LMc31 := aM c31; clear c31; obtain ⟨y151, hy151⟩ : ∃ y_ : List Int, y_ = (y144 ++ y147) := ⟨_, rfl⟩; replace H : (some (y151, true)) = some (r1, r2) := q3y_ hy151 H
          have Ny151 := aM hy151; clear hy151
          simp only [Option.some.injEq, Prod.mk.injEq] at H
          obtain ⟨rfl, rfl⟩ := H
          go_wp2_with (first | ((with_reducible refine gate_dst (N := 36) rfl ?_); refine Kd.R_lit (Kd.int .i64) _ 3 ?hg (N := 36) ?hd (xs := ([] : List Int)) (inner := []) (ok := fun _ => True) (okp := fun _ => True) ?hr ?hp (fun _ hk => hk) trivial (Below.refl _ _) (Nat.le_refl _) (by simp) ?_; (case hd => rfl); (case hg => rfl); (case hr => exact zd_); (case hp => exact (Reps.none _ _)); intro v145 w32 ho33 hb hg_ hnew_; clear hg_ hnew_; (first | rw [← Ny144.out] at ho33 | (simp only [Int.reduceToNat] at ho33; rw [← Ny144.out] at ho33)); have n_ := z (Kd.R_elder' (zr HO_4.out) (Kd.R_base ho33) hb) <| z (Kd.R_lower (Kd.R_new' ho33 (Kd.R_lt (zr HO_4.out))) (below_size zcc_)) <| z (blk_below (zb BK132.out) hb) <| z1 (below_step zcc_ hb); clear HO_4 BK132 HB; obtain ⟨HO_4, HO146, BK132, HB⟩ := n_; clear hb ho33; obtain ⟨hcz34_0, hcz34_1, hcz34_2, hfz34_0, hfz34_1, hfz34_2⟩ := zk3 BK132.out; obtain ⟨Ao36, co36, eo36⟩ := Kd.R_slice HO_4.out; subst eo36; have q35 : (a0_0 : Int) ≤ ((x4_1.length : Int) : Int) := of_decide_eq_true za_; obtain ⟨i035, hi035, _, hsz35, _⟩ := info_parts info3; have hroom35 : x4_1.length ≤ co36 := (Kd.R_reads' HO_4.out).2.1; have hC35 : Kd.C (Kd.int .i64) _ Ao36 x4_1.length x4_1 := (Kd.R_reads' HO_4.out).2.2; have q035 : (0 : Int) ≤ (a0_0 : Int) := of_decide_eq_true za_; have hcut35 := cut_from (P := Try.prog) 39 3 .i64 Try.underlying39 hi035 1 hsz35 Ao36 x4_1.length co36 a0_0 q035 q35; have hr35 := Kd.C_drop (m := (a0_0 : Int).toNat) (c := co36) hC35 (by omega) hroom35; obtain ⟨A35, hA35⟩ : ∃ A1, A1 = (if co36 = (a0_0 : Int).toNat then Ao36 else (Ao36 : Option Addr).map (·.add ((a0_0 : Int).toNat * 1))) := ⟨_, rfl⟩; obtain ⟨c35, hc35⟩ : ∃ c1, c1 = co36 - (a0_0 : Int).toNat := ⟨_, rfl⟩; have hy35 : y147.length = x4_1.length - (a0_0 : Int).toNat := (by rw [Ny147.out, lD] <;> omega); rw [show (x4_1).drop (a0_0 : Int).toNat = y147 from Ny147.out.symm] at hr35; replace hr35 : Kd.C (Kd.int .i64) _ A35 y147.length y147 := (by rw [hA35]; exact hr35); rw [← hy35, ← hA35, ← hc35] at hcut35; have HR150 := aM hr35; have HC150 := aM (show y147.length ≤ c35 from by rw [hy35, hc35]; exact Nat.sub_le_sub_right hroom35 _); clear hr35 hC35 hroom35 hi035 hsz35 hc35; have KY35 := aM hy35; have KA35 := aM hA35; clear hy35 hA35; have KL35 := aM (show (a0_0 : Int).toNat ≤ x4_1.length from by omega); replace q35 := eq_true q35) | ((with_reducible refine gate_builtin (b := .append) (xs := #[.tmp 36, .tmp 40]) rfl ?_); at_builtin; refine Kd.R_append_rows (Kd.int .i64) (w0 := w) w.heap.size rfl (.tmp 36) (.tmp 40) 39 3 (.int .i64 0) 8 rfl Try.underlying39 info3 rfl (by decide) (by omega) v145 y144 y147 _ _ _ (fun k_ => some k_ ≠ (.slice Ao36 x4_1.length co36 : Value).ownBlock) (fun _ => False) rfl rfl ?aO ?aR (fun _ _ h => h) (fun _ h => h.elim) ?aF ?aB ?aS ?aL ?_; (case aR => repeat (first | exact (by repeat (first | (with_reducible exact HR150.out) | (with_reducible refine cA ?_ _) | (with_reducible refine cN ?_ _) | (with_reducible refine cD ?_) | exact HR150.out)) | (with_reducible refine cA ?_ _) | (with_reducible refine cN ?_ _) | (with_reducible refine cD ?_))); (case aB => exact zcc_); (case aF => exact (fun k_ hk => Kd.fresh' (Kd.R_lt (zr HO_4.out)) k_ hk)); (case aO => exact (by refine zr ?_; exact Kd.R_mono HO146.out (fun _ hk => hk.2))); (case aS => exact (below_size zcc_)); (case aL => have := LMc31.out; omega); intro v152 w37 ho hb hg hat; rw [← Ny151.out] at ho; have n_ := z (Kd.R_after (ok := (fun _ => True)) (zr HO_4.out) hg hat) <| z (blk_grown (g := gb132) (o := .cells #[.int .i64 a0_0, .slice A0_1 l0_1.length c0_1, .slice A0_2 l0_2.length c0_2] 61 (0, 0)) (zb BK132.out) hg (Kd.R_ne HO146.out BK132.out (by decide))) <| z (hb) <| z ((show Kd.C (Kd.int .i64) w37 A35 y147.length y147 from by rw [Ny147.out, KA35.out]; exact Kd.C_drop (m := (a0_0 : Int).toNat) (c := co36) ((Kd.R_reads' (Kd.R_after (ok := (fun _ => True)) (zr HO_4.out) hg hat)).2.2) KL35.out ((Kd.R_reads' (Kd.R_after (ok := (fun _ => True)) (zr HO_4.out) hg hat)).2.1))) <| z1 (ho); clear HO_4 BK132 HB HR150 HO146; obtain ⟨HO_4, BK132, HB, HR150, HO153⟩ := n_; clear ho hb hg hat))
          go_ret2
          exact ⟨_, zh_, by refine zr ?_; exact Kd.R_mono HO153.out (fun _ hk => trivial), zcc_⟩
         ·rw [if_neg c31] at H
          exact q3n_ H
        ·rw [if_neg c30] at H
         exact q3n_ H
       ·rw [if_neg c29] at H
        exact q3n_ H
   ·rw [if_neg c5] at H
    exact q3n_ H
  ·rw [if_neg c4] at H
   exact q3n_ H
 ·replace c3 := Bool.eq_false_iff.mpr c3
  subst c3; have H1 : (some (([] : List Int), false)) = some (r1, r2) := by rw [if_neg (show ¬ (false = true) by decide)] at H; exact H
  clear H; have H := H1; clear H1
  simp only [Option.some.injEq, Prod.mk.injEq] at H
  obtain ⟨rfl, rfl⟩ := H
  go_enter Try.func35, Try.ntmps35
  go_wp2_with (first | ((with_reducible refine gate_dst (N := 1) rfl ?_); refine box_event ?hg (N := 1) ?hd (cs := #[.int .i64 a0_0, .slice A0_1 l0_1.length c0_1, .slice A0_2 l0_2.length c0_2]) (t := 61) ?hr ?_; (case hd => rfl); (case hg => rfl); (case hr => exact zd_); intro gb132 hg w38 hbox hb; have n_ := z (below_step zb_ hb) <| z (hbox) <| z ((by rw [hg]; exact (below_size zb_) : w.heap.size ≤ gb132)) <| z1 ((by rw [hg]; exact (below_size zb_) : w.heap.size ≤ gb132)); clear HB; obtain ⟨HB, BK132, GW132, GE132⟩ := n_; clear hb hbox hg; obtain ⟨hcz39_0, hcz39_1, hcz39_2, hfz39_0, hfz39_1, hfz39_2⟩ := zk3 BK132.out) | ((with_reducible refine gate_callee (f := 84) rfl ?_); refine goesL_ (some 8) rfl rfl Try.func84 (by kernel_rfl) rfl #[.agg #[.int .i64 a0_0, .slice A0_1 l0_1.length c0_1, .slice A0_2 l0_2.length c0_2]] rfl zf_ ?_; (with_reducible refine (impl_IsCircuit.calls k a0_0 _ _ l0_1 _ _ l0_2 false _ ?side1 ?side2 ?side3 ?side4 A2.out).mono ?_); (case side1 => exact zce_); (case side2 => exact HC0_1.out); (case side3 => exact zcf_); (case side4 => exact HC0_2.out); rintro e w40 ⟨rfl, hb⟩; refine ⟨_, rfl, ?_⟩; have n_ := z (blk_below (zb BK132.out) hb) <| z1 (below_step zcc_ hb); clear BK132 HB; obtain ⟨BK132, HB⟩ := n_; clear hb))
  go_ret2
  exact ⟨_, zh_, zed_, zcc_⟩
end Go.Proofs.Ytlnhpkjioppbiaa.QFnLevels
