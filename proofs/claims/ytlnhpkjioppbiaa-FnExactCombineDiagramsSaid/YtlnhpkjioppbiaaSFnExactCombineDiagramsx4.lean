/- Functions of FnExactCombineDiagrams, each as a Lean function, with the proof that the Go code comes to its answers. -/
import Derived.Test.YtlnhpkjioppbiaaSFnExactCombineDiagramsx0
import Derived.Test.YtlnhpkjioppbiaaSFnExactCombineDiagramsx2
import Derived.Test.YtlnhpkjioppbiaaSFnExactCombineDiagramsx3
namespace Go.Proofs.Ytlnhpkjioppbiaa.QFnExactCombineDiagrams
open Go.RowKit Go.Proofs.YtlnhpkjioppbiaaW.PrintWords Go.Proofs.YtlnhpkjioppbiaaW.PrintLast Go.Proofs.YtlnhpkjioppbiaaW.PrintMore
open Go.Proofs.YtlnhpkjioppbiaaW.PrintWords renaming pw_below_drewN → pN, below_drew1 → p1, below_alloc → pA
open Go.Proofs.YtlnhpkjioppbiaaW.PrintWords.Kd renaming R_alloc → kA, R_drewN → kN, R_drew → kD, C_alloc → cA, C_drewN → cN, C_drew → cD
open Go.Proofs.YtlnhpkjioppbiaaW.PrintWords.Aside0 renaming mk → aM
open List renaming setIfInBounds_toArray → sI, set_cons_zero → s0, set_cons_succ → sS, map_toArray → mT, length_take → lT, length_drop → lD, map_cons → mC, map_nil → mN
open Option renaming bind_eq_some_iff → oB
attribute [local go_sem] max2_int min2_int max_two min_two max_three min_three max_four min_four
set_option maxHeartbeats 8000000
set_option maxRecDepth 100000
set_option linter.unusedVariables false
set_option linter.unusedSimpArgs false
mutual
def spec_ddGood.j0 : Nat → Bool → Int → List (S93) → Int → Option (Bool)
 | 0, _, _, _, _ => none
 | k + 1, x24, x121000, x121001, x121002 => if x24 = true then (some false) else (spec_ddGood.l0 k x121001 (x121001.length : Int) 0 x121000 x121001 x121002)
def spec_ddGood.l0 : Nat → List (S93) → Int → Int → Int → List (S93) → Int → Option (Bool)
 | 0, _, _, _, _, _, _ => none
 | k + 1, x26, x27, x28, x121000, x121001, x121002 => if x28 < x27 then (if 0 ≤ x28 then (if x28 < (x26.length : Int) then ((spec_l1In.f ((rd_T93 x26 x28).f0) 0 (wrap64 (x121000 - 1))).bind fun t135 => (if t135 = true then ((spec_l1In.f ((rd_T93 x26 x28).f1) 0 (wrap64 (x28 + 1))).bind fun t136 => (if t136 = true then ((spec_l1In.f ((rd_T93 x26 x28).f2) 0 (wrap64 (x28 + 1))).bind fun t137 => (if t137 = true then (spec_ddGood.l0 k x26 x27 (wrap64 (x28 + 1)) x121000 x121001 x121002) else (some false))) else (some false))) else (some false))) else (none)) else (none)) else ((spec_ddTable.f k x121000 x121001 x121002).bind fun bt123 => ((spec_ddMake.f k bt123.1 bt123.2).bind fun bt127 => ((spec_ddSame.f k x121000 x121001 x121002 bt127.1 bt127.2.1 bt127.2.2).bind fun t132 => (some t132))))
end
def spec_ddGood.f (k : Nat) (a0_0 : Int) (l0_1 : List (S93)) (a0_2 : Int) : Option (Bool) := (spec_ttInputs.f a0_0).bind fun t121 => (if t121 = true then (if (l0_1.length : Int) > 40 then (spec_ddGood.j0 k true a0_0 l0_1 a0_2) else ((spec_l1In.f a0_2 0 (wrap64 ((l0_1.length : Int) + 1))).bind fun t122 => (spec_ddGood.j0 k (!t122) a0_0 l0_1 a0_2))) else (spec_ddGood.j0 k true a0_0 l0_1 a0_2))
theorem spec_ddGood.mono_l : ∀ k, (∀ y0 y1 y2 y3, LeO (spec_ddGood.j0 k y0 y1 y2 y3) (spec_ddGood.j0 (k + 1) y0 y1 y2 y3)) ∧ (∀ y0 y1 y2 y3 y4 y5, LeO (spec_ddGood.l0 k y0 y1 y2 y3 y4 y5) (spec_ddGood.l0 (k + 1) y0 y1 y2 y3 y4 y5))
 | 0 => ⟨fun _ _ _ _ r h => by simp [spec_ddGood.j0] at h, fun _ _ _ _ _ _ r h => by simp [spec_ddGood.l0] at h⟩
 | k + 1 => by
  obtain ⟨ih0, ih1⟩ := spec_ddGood.mono_l k
  refine ⟨?_, ?_⟩
  ·intro y0 y1 y2 y3
   unfold spec_ddGood.j0
   repeat' first
   | (with_reducible exact ih0 _ _ _ _)
   | (with_reducible exact ih1 _ _ _ _ _ _)
   | (with_reducible exact spec_ddMake.mono _ _ _)
   | (with_reducible exact spec_ddSame.mono _ _ _ _ _ _ _)
   | (with_reducible exact spec_ddTable.mono _ _ _ _)
   | (with_reducible exact LeO.refl _)
   | (with_reducible exact LeO.none _)
   | (with_reducible refine LeO.ite ?_ ?_)
   | (with_reducible refine LeO.bind ?_ (fun _ => ?_))
   | exact ih0 _ _ _ _
   | exact ih1 _ _ _ _ _ _
   | exact spec_ddMake.mono _ _ _
   | exact spec_ddSame.mono _ _ _ _ _ _ _
   | exact spec_ddTable.mono _ _ _ _
   | exact LeO.none _
   | refine LeO.ite ?_ ?_
   | refine LeO.bind ?_ (fun _ => ?_)
  ·intro y0 y1 y2 y3 y4 y5
   unfold spec_ddGood.l0
   repeat' first
   | (with_reducible exact ih0 _ _ _ _)
   | (with_reducible exact ih1 _ _ _ _ _ _)
   | (with_reducible exact spec_ddMake.mono _ _ _)
   | (with_reducible exact spec_ddSame.mono _ _ _ _ _ _ _)
   | (with_reducible exact spec_ddTable.mono _ _ _ _)
   | (with_reducible exact LeO.refl _)
   | (with_reducible exact LeO.none _)
   | (with_reducible refine LeO.ite ?_ ?_)
   | (with_reducible refine LeO.bind ?_ (fun _ => ?_))
   | exact ih0 _ _ _ _
   | exact ih1 _ _ _ _ _ _
   | exact spec_ddMake.mono _ _ _
   | exact spec_ddSame.mono _ _ _ _ _ _ _
   | exact spec_ddTable.mono _ _ _ _
   | exact LeO.none _
   | refine LeO.ite ?_ ?_
   | refine LeO.bind ?_ (fun _ => ?_)
theorem spec_ddGood.mono : ∀ a0 a1 a2 k, LeO (spec_ddGood.f k a0 a1 a2) (spec_ddGood.f (k + 1) a0 a1 a2) := by
 intro a0 a1 a2 k
 obtain ⟨ih0, ih1⟩ := spec_ddGood.mono_l k
 unfold spec_ddGood.f
 repeat' first
   | (with_reducible exact ih0 _ _ _ _)
   | (with_reducible exact ih1 _ _ _ _ _ _)
   | (with_reducible exact spec_ddMake.mono _ _ _)
   | (with_reducible exact spec_ddSame.mono _ _ _ _ _ _ _)
   | (with_reducible exact spec_ddTable.mono _ _ _ _)
   | (with_reducible exact LeO.refl _)
   | (with_reducible exact LeO.none _)
   | (with_reducible refine LeO.ite ?_ ?_)
   | (with_reducible refine LeO.bind ?_ (fun _ => ?_))
   | exact ih0 _ _ _ _
   | exact ih1 _ _ _ _ _ _
   | exact spec_ddMake.mono _ _ _
   | exact spec_ddSame.mono _ _ _ _ _ _ _
   | exact spec_ddTable.mono _ _ _ _
   | exact LeO.none _
   | refine LeO.ite ?_ ?_
   | refine LeO.bind ?_ (fun _ => ?_)
theorem spec_ddGood.calls (k : Nat) (a0_0 : Int) (A0_1 : Option Addr) (c0_1 : Nat) (l0_1 : List (S93)) (a0_2 : Int) (r : Bool) (w : World) (hr0_1 : Kd.C k93 w A0_1 l0_1.length l0_1) (hc0_1 : l0_1.length ≤ c0_1) (h : spec_ddGood.f k a0_0 l0_1 a0_2 = some r) :
  Calls Try.prog 51 #[.agg #[.int .i64 a0_0, .slice A0_1 l0_1.length c0_1, .int .i64 a0_2]] w fun e w' => e = .returned (.bool r) ∧ Below w.heap.size w w' := by
 have hu28 := Try.underlying28
 have hu93 := Try.underlying93
 have HR0_1 := aM hr0_1
 have HC0_1 := aM hc0_1
 clear hr0_1 hc0_1
 have HB := aM (Below.refl w.heap.size w)
 have H : ((spec_ttInputs.f a0_0).bind fun t121 => (if t121 = true then (if (l0_1.length : Int) > 40 then (spec_ddGood.j0 k true a0_0 l0_1 a0_2) else ((spec_l1In.f a0_2 0 (wrap64 ((l0_1.length : Int) + 1))).bind fun t122 => (spec_ddGood.j0 k (!t122) a0_0 l0_1 a0_2))) else (spec_ddGood.j0 k true a0_0 l0_1 a0_2))) = some r := h
 clear h
 have HC2 := aM H
 clear H
 go_enter Try.func51, Try.ntmps51
 go_upto_region 1 with (first | ((with_reducible refine gate_dst (N := 1) rfl ?_); (try (refine gate_guard (by rfl) ?_; dsimp only)); refine box_event ?hg (N := 1) ?hd (cs := #[.int .i64 a0_0, .slice A0_1 l0_1.length c0_1, .int .i64 a0_2]) (t := 28) ?hr ?_; (case hd => rfl); (case hg => rfl); (case hr => exact zb_); intro gb120 hg w3 hbox hb; have n_ := z (below_step za_ hb) <| z (hbox) <| z ((by rw [hg]; exact (below_size za_) : w.heap.size ≤ gb120)) <| z1 ((by rw [hg]; exact (below_size za_) : w.heap.size ≤ gb120)); clear HB; obtain ⟨HB, BK120, GW120, GE120⟩ := n_; clear hb hbox hg))
 (try simp only [Act.put, sI, s0, sS])
 go_cut [24] (fun v24 wc => ∃ (kq : Nat) (x24_1 : Bool), v24 = .bool x24_1 ∧ Aside0 (spec_ddGood.j0 kq x24_1 a0_0 l0_1 a0_2 = some r) ∧ Aside0 (kq ≤ k) ∧ Aside0 (wc.heap[gb120]? = some (.cells #[.int .i64 a0_0, (.slice A0_1 l0_1.length c0_1), .int .i64 a0_2] 28 (0, 0))) ∧ Aside0 (Below w.heap.size w wc))
 case first =>
  have H := HC2.out; clear HC2; replace H := oB.mp H; obtain ⟨t121, A40, H⟩ := H; replace H : (if t121 = true then (if (l0_1.length : Int) > 40 then (spec_ddGood.j0 k true a0_0 l0_1 a0_2) else ((spec_l1In.f a0_2 0 (wrap64 ((l0_1.length : Int) + 1))).bind fun t122 => (spec_ddGood.j0 k (!t122) a0_0 l0_1 a0_2))) else (spec_ddGood.j0 k true a0_0 l0_1 a0_2)) = some r := H; have A4 := aM A40; clear A40
  by_cases c5 : t121 = true
  ·subst c5
   have H1 : (if (l0_1.length : Int) > 40 then (spec_ddGood.j0 k true a0_0 l0_1 a0_2) else ((spec_l1In.f a0_2 0 (wrap64 ((l0_1.length : Int) + 1))).bind fun t122 => (spec_ddGood.j0 k (!t122) a0_0 l0_1 a0_2))) = some r := by rw [if_pos rfl] at H; exact H
   clear H; have H := H1; clear H1
   by_cases c6 : (l0_1.length : Int) > 40
   ·rw [if_pos c6] at H
    have c6b0 : decide (40 < (l0_1.length : Int)) = true := decide_eq_true c6; have c6b1 : decide (40 < l0_1.length) = true := decide_eq_true (by omega); clear c6; (first | rw [c6b0] | (simp only [i64_w, i32_w]; rw [c6b0]) | skip); have H' := aM H; clear H; have hcz7_0 : w3.cell? ⟨gb120, 0, none⟩ = some (.int .i64 a0_0) := (blk_cell BK120.out 0).trans rfl; have hcz7_1 : w3.cell? ⟨gb120, 1, none⟩ = some (.slice A0_1 l0_1.length c0_1) := (blk_cell BK120.out 1).trans rfl; have hcz7_2 : w3.cell? ⟨gb120, 2, none⟩ = some (.int .i64 a0_2) := (blk_cell BK120.out 2).trans rfl; have hfz7_0 := blk_frozen BK120.out 0; have hfz7_1 := blk_frozen BK120.out 1; have hfz7_2 := blk_frozen BK120.out 2
    go_wp2_with (first | ((with_reducible refine gate_callee (f := 100) rfl ?_); refine goesL_ (some 7) rfl rfl Try.func100 (by kernel_rfl) rfl #[.int .i64 a0_0] rfl zd_ ?_; (with_reducible refine (spec_ttInputs.calls a0_0 true _ A4.out).mono ?_); rintro e w' ⟨rfl, ⟨nd, rfl⟩⟩; refine ⟨_, rfl, ?_⟩))
    go_meet
    case rel => exact ⟨_, (true), ze_, H', ⟨zbh_⟩, ⟨zb BK120.out⟩, ⟨zca_⟩⟩
   ·rw [if_neg c6] at H
    have c6b0 : decide (40 < (l0_1.length : Int)) = false := decide_eq_false c6; have c6b1 : decide (40 < l0_1.length) = false := decide_eq_false (by omega); clear c6; (first | rw [c6b0] | (simp only [i64_w, i32_w]; rw [c6b0]) | skip); replace H := oB.mp H; obtain ⟨t122, A80, H⟩ := H; replace H : (spec_ddGood.j0 k (!t122) a0_0 l0_1 a0_2) = some r := H; have A8 := aM A80; clear A80; have H' := aM H; clear H; have hcz9_0 : w3.cell? ⟨gb120, 0, none⟩ = some (.int .i64 a0_0) := (blk_cell BK120.out 0).trans rfl; have hcz9_1 : w3.cell? ⟨gb120, 1, none⟩ = some (.slice A0_1 l0_1.length c0_1) := (blk_cell BK120.out 1).trans rfl; have hcz9_2 : w3.cell? ⟨gb120, 2, none⟩ = some (.int .i64 a0_2) := (blk_cell BK120.out 2).trans rfl; have hfz9_0 := blk_frozen BK120.out 0; have hfz9_1 := blk_frozen BK120.out 1; have hfz9_2 := blk_frozen BK120.out 2
    go_wp2_with (first | ((with_reducible refine gate_callee (f := 100) rfl ?_); refine goesL_ (some 7) rfl rfl Try.func100 (by kernel_rfl) rfl #[.int .i64 a0_0] rfl zd_ ?_; (with_reducible refine (spec_ttInputs.calls a0_0 true _ A4.out).mono ?_); rintro e w' ⟨rfl, ⟨nd, rfl⟩⟩; refine ⟨_, rfl, ?_⟩) | (go_at_call 101; (with_reducible refine (spec_l1In.calls a0_2 0 (wrap64 ((l0_1.length : Int) + 1)) t122 _ A8.out).mono ?_); rintro e w' ⟨rfl, ⟨nd, rfl⟩⟩))
    go_meet
    case rel => exact ⟨_, (!t122), ze_, H', ⟨zbh_⟩, ⟨zb BK120.out⟩, ⟨zca_⟩⟩
  ·replace c5 := Bool.eq_false_iff.mpr c5
   subst c5; have H1 : (spec_ddGood.j0 k true a0_0 l0_1 a0_2) = some r := by rw [if_neg (show ¬ (false = true) by decide)] at H; exact H
   clear H; have H := H1; clear H1; have H' := aM H; clear H; have hcz10_0 : w3.cell? ⟨gb120, 0, none⟩ = some (.int .i64 a0_0) := (blk_cell BK120.out 0).trans rfl; have hcz10_1 : w3.cell? ⟨gb120, 1, none⟩ = some (.slice A0_1 l0_1.length c0_1) := (blk_cell BK120.out 1).trans rfl; have hcz10_2 : w3.cell? ⟨gb120, 2, none⟩ = some (.int .i64 a0_2) := (blk_cell BK120.out 2).trans rfl; have hfz10_0 := blk_frozen BK120.out 0; have hfz10_1 := blk_frozen BK120.out 1; have hfz10_2 := blk_frozen BK120.out 2
   go_wp2_with (first | ((with_reducible refine gate_callee (f := 100) rfl ?_); refine goesL_ (some 7) rfl rfl Try.func100 (by kernel_rfl) rfl #[.int .i64 a0_0] rfl zd_ ?_; (with_reducible refine (spec_ttInputs.calls a0_0 false _ A4.out).mono ?_); rintro e w' ⟨rfl, ⟨nd, rfl⟩⟩; refine ⟨_, rfl, ?_⟩))
   go_meet
   case rel => exact ⟨_, (true), ze_, H', ⟨zbh_⟩, ⟨zb BK120.out⟩, ⟨zca_⟩⟩
 case rest =>
  clear HC2; obtain ⟨kq, x24_1, rfl, HA, HJ1, BK120, HB⟩ := hcut
  cases kq with
  | zero => exact absurd HA.out (by simp [spec_ddGood.j0])
  | succ kj1 =>
   have H := HA.out; clear HA
   simp only [spec_ddGood.j0] at H
   by_cases c11 : x24_1 = true
   ·subst c11
    have H1 : (some false) = some r := by rw [if_pos rfl] at H; exact H
    clear H; have H := H1; clear H1; obtain rfl := Option.some.inj H
    go_wp2
    go_ret
    exact ⟨zf_, zca_⟩
   ·replace c11 := Bool.eq_false_iff.mpr c11
    subst c11; have H1 : (spec_ddGood.l0 kj1 l0_1 (l0_1.length : Int) 0 a0_0 l0_1 a0_2) = some r := by rw [if_neg (show ¬ (false = true) by decide)] at H; exact H
    clear H; have H := H1; clear H1; have H' := aM H; clear H; have hcz12_0 : wc.cell? ⟨gb120, 0, none⟩ = some (.int .i64 a0_0) := (blk_cell BK120.out 0).trans rfl; have hcz12_1 : wc.cell? ⟨gb120, 1, none⟩ = some (.slice A0_1 l0_1.length c0_1) := (blk_cell BK120.out 1).trans rfl; have hcz12_2 : wc.cell? ⟨gb120, 2, none⟩ = some (.int .i64 a0_2) := (blk_cell BK120.out 2).trans rfl; have hfz12_0 := blk_frozen BK120.out 0; have hfz12_1 := blk_frozen BK120.out 1; have hfz12_2 := blk_frozen BK120.out 2
    go_wp2
    go_loopg [28] kj1 (fun kq v28 w' => ∃ (x28_2 : Int), v28 = .int .i64 x28_2 ∧ Aside0 (spec_ddGood.l0 kq l0_1 (l0_1.length : Int) x28_2 a0_0 l0_1 a0_2 = some r) ∧ Aside0 (kq ≤ kj1) ∧ Aside0 (w'.heap[gb120]? = some (.cells #[.int .i64 a0_0, (.slice A0_1 l0_1.length c0_1), .int .i64 a0_2] 28 (0, 0))) ∧ Aside0 (Below w.heap.size w w'))
    case atStart => exact ⟨(0), ze_, H', ⟨Nat.le_refl _⟩, ⟨zb BK120.out⟩, ⟨zca_⟩⟩
    case round =>
     clear H'; (try clear hcz12_0); (try clear hcz12_1); (try clear hcz12_2); (try clear hfz12_0); (try clear hfz12_1); (try clear hfz12_2); obtain ⟨x28_2, rfl, HA, HK2, BK120, HB⟩ := hrel
     cases gk with
     | zero => exact absurd HA.out (by simp [spec_ddGood.l0])
     | succ k2 =>
      have H := HA.out; clear HA
      simp only [spec_ddGood.l0] at H
      by_cases c13 : x28_2 < (l0_1.length : Int)
      ·rw [if_pos c13] at H
       have c13b0 := decide_eq_true c13; clear c13
       by_cases c14 : 0 ≤ x28_2
       ·rw [if_pos c14] at H
        have c14b0 := decide_eq_true c14; clear c14
        by_cases c15 : x28_2 < (l0_1.length : Int)
        ·rw [if_pos c15] at H
         have c15b0 := decide_eq_true c15; clear c15; replace H := oB.mp H; obtain ⟨t135, A160, H⟩ := H; replace H : (if t135 = true then ((spec_l1In.f ((rd_T93 l0_1 x28_2).f1) 0 (wrap64 (x28_2 + 1))).bind fun t136 => (if t136 = true then ((spec_l1In.f ((rd_T93 l0_1 x28_2).f2) 0 (wrap64 (x28_2 + 1))).bind fun t137 => (if t137 = true then (spec_ddGood.l0 k2 l0_1 (l0_1.length : Int) (wrap64 (x28_2 + 1)) a0_0 l0_1 a0_2) else (some false))) else (some false))) else (some false)) = some r := H; have A16 := aM A160; clear A160
         by_cases c17 : t135 = true
         ·subst c17
          have H1 : ((spec_l1In.f ((rd_T93 l0_1 x28_2).f1) 0 (wrap64 (x28_2 + 1))).bind fun t136 => (if t136 = true then ((spec_l1In.f ((rd_T93 l0_1 x28_2).f2) 0 (wrap64 (x28_2 + 1))).bind fun t137 => (if t137 = true then (spec_ddGood.l0 k2 l0_1 (l0_1.length : Int) (wrap64 (x28_2 + 1)) a0_0 l0_1 a0_2) else (some false))) else (some false))) = some r := by rw [if_pos rfl] at H; exact H
          clear H; have H := H1; clear H1; replace H := oB.mp H; obtain ⟨t136, A180, H⟩ := H; replace H : (if t136 = true then ((spec_l1In.f ((rd_T93 l0_1 x28_2).f2) 0 (wrap64 (x28_2 + 1))).bind fun t137 => (if t137 = true then (spec_ddGood.l0 k2 l0_1 (l0_1.length : Int) (wrap64 (x28_2 + 1)) a0_0 l0_1 a0_2) else (some false))) else (some false)) = some r := H; have A18 := aM A180; clear A180
          by_cases c19 : t136 = true
          ·subst c19
           have H1 : ((spec_l1In.f ((rd_T93 l0_1 x28_2).f2) 0 (wrap64 (x28_2 + 1))).bind fun t137 => (if t137 = true then (spec_ddGood.l0 k2 l0_1 (l0_1.length : Int) (wrap64 (x28_2 + 1)) a0_0 l0_1 a0_2) else (some false))) = some r := by rw [if_pos rfl] at H; exact H
           clear H; have H := H1; clear H1; replace H := oB.mp H; obtain ⟨t137, A200, H⟩ := H; replace H : (if t137 = true then (spec_ddGood.l0 k2 l0_1 (l0_1.length : Int) (wrap64 (x28_2 + 1)) a0_0 l0_1 a0_2) else (some false)) = some r := H; have A20 := aM A200; clear A200
           by_cases c21 : t137 = true
           ·subst c21
            have H1 : (spec_ddGood.l0 k2 l0_1 (l0_1.length : Int) (wrap64 (x28_2 + 1)) a0_0 l0_1 a0_2) = some r := by rw [if_pos rfl] at H; exact H
            clear H; have H := H1; clear H1; have H' := aM H; clear H; have p133 : 0 ≤ (x28_2 : Int) := of_decide_eq_true zc_; have q133 : x28_2 < (l0_1.length : Int) := of_decide_eq_true zc_; obtain ⟨ad133, e133, hx133_0, hx133_1, hx133_2⟩ := at_T93 HR0_1.out x28_2 p133 q133
            cases e133
            (try (replace hx133_0 := (HB.out.cell (World.block_lt_of_cell? w _ hx133_0)).trans hx133_0)); (try (replace hx133_1 := (HB.out.cell (World.block_lt_of_cell? w _ hx133_1)).trans hx133_1)); (try (replace hx133_2 := (HB.out.cell (World.block_lt_of_cell? w _ hx133_2)).trans hx133_2)); replace p133 := eq_true p133; replace q133 := eq_true q133
            go_wp2_with (first | ((with_reducible refine gate_dst (N := 4) rfl ?_); (try (refine gate_guard (by rfl) ?_; dsimp only)); refine box_event ?hg (N := 4) ?hd (cs := #[.int .i64 0, .int .i64 0, .int .i64 0]) (t := 93) ?hr ?_; (case hd => rfl); (case hg => rfl); (case hr => exact zb_); intro gb134 hg w22 hbox hb; have n_ := z (blk_below (zb BK120.out) hb) <| z (below_step zca_ hb) <| z (hbox) <| z ((by rw [hg]; exact (below_size zca_) : w.heap.size ≤ gb134)) <| z ((by rw [hg]; exact (below_size zca_) : w.heap.size ≤ gb134)) <| z ((by rw [hg]; exact Nat.ne_of_lt (blk_lt (zb BK120.out)) : gb120 ≠ gb134)) <| z1 ((by rw [hg]; exact Nat.ne_of_gt (blk_lt (zb BK120.out)) : gb134 ≠ gb120)); clear BK120 HB; obtain ⟨BK120, HB, BK134, GW134, GE134, NB120_134, NB134_120⟩ := n_; clear hb hbox hg; have hnb23 := NB134_120.out; have hnc23 := NB120_134.out; have hcz24_0 : w22.cell? ⟨gb134, 0, none⟩ = some (.int .i64 0) := (blk_cell BK134.out 0).trans rfl; have hcz24_1 : w22.cell? ⟨gb134, 1, none⟩ = some (.int .i64 0) := (blk_cell BK134.out 1).trans rfl; have hcz24_2 : w22.cell? ⟨gb134, 2, none⟩ = some (.int .i64 0) := (blk_cell BK134.out 2).trans rfl; have hfz24_0 := blk_frozen BK134.out 0; have hfz24_1 := blk_frozen BK134.out 1; have hfz24_2 := blk_frozen BK134.out 2; have hcz25_0 : w22.cell? ⟨gb120, 0, none⟩ = some (.int .i64 a0_0) := (blk_cell BK120.out 0).trans rfl; have hcz25_1 : w22.cell? ⟨gb120, 1, none⟩ = some (.slice (some ad133) l0_1.length c0_1) := (blk_cell BK120.out 1).trans rfl; have hcz25_2 : w22.cell? ⟨gb120, 2, none⟩ = some (.int .i64 a0_2) := (blk_cell BK120.out 2).trans rfl; have hfz25_0 := blk_frozen BK120.out 0; have hfz25_1 := blk_frozen BK120.out 1; have hfz25_2 := blk_frozen BK120.out 2) | ((with_reducible refine gate_callee (f := 101) rfl ?_); refine goesL_ (some 38) rfl rfl Try.func101 (by kernel_rfl) rfl #[.int .i64 ((rd_T93 l0_1 x28_2).f0), .int .i64 0, .int .i64 (wrap64 (a0_0 - 1))] rfl zd_ ?_; (with_reducible refine (spec_l1In.calls ((rd_T93 l0_1 x28_2).f0) 0 (wrap64 (a0_0 - 1)) true _ A16.out).mono ?_); rintro e w' ⟨rfl, ⟨nd, rfl⟩⟩; refine ⟨_, rfl, ?_⟩) | (go_at_call 101; (with_reducible refine (spec_l1In.calls ((rd_T93 l0_1 x28_2).f1) 0 (wrap64 (x28_2 + 1)) true _ A18.out).mono ?_); rintro e w' ⟨rfl, ⟨nd, rfl⟩⟩) | (go_at_call 101; (with_reducible refine (spec_l1In.calls ((rd_T93 l0_1 x28_2).f2) 0 (wrap64 (x28_2 + 1)) true _ A20.out).mono ?_); rintro e w' ⟨rfl, ⟨nd, rfl⟩⟩))
            go_roundg k2
            case measure => have := HJ1.out; have := HK2.out; omega
            case rel => exact ⟨(wrap64 (x28_2 + 1)), ze_, H', ⟨by have := HJ1.out; have := HK2.out; omega⟩, ⟨by refine zb ?_; refine blk_far ?_ NB120_134.out _; refine zb ?_; refine blk_far ?_ NB120_134.out _; refine zb ?_; refine blk_far ?_ NB120_134.out _; refine zb ?_; exact BK120.out⟩, ⟨zhf_⟩⟩
           ·replace c21 := Bool.eq_false_iff.mpr c21
            subst c21; have H1 : (some false) = some r := by rw [if_neg (show ¬ (false = true) by decide)] at H; exact H
            clear H; have H := H1; clear H1; obtain rfl := Option.some.inj H; have p133 : 0 ≤ (x28_2 : Int) := of_decide_eq_true zc_; have q133 : x28_2 < (l0_1.length : Int) := of_decide_eq_true zc_; obtain ⟨ad133, e133, hx133_0, hx133_1, hx133_2⟩ := at_T93 HR0_1.out x28_2 p133 q133
            cases e133
            (try (replace hx133_0 := (HB.out.cell (World.block_lt_of_cell? w _ hx133_0)).trans hx133_0)); (try (replace hx133_1 := (HB.out.cell (World.block_lt_of_cell? w _ hx133_1)).trans hx133_1)); (try (replace hx133_2 := (HB.out.cell (World.block_lt_of_cell? w _ hx133_2)).trans hx133_2)); replace p133 := eq_true p133; replace q133 := eq_true q133
            go_wp2_with (first | ((with_reducible refine gate_dst (N := 4) rfl ?_); (try (refine gate_guard (by rfl) ?_; dsimp only)); refine box_event ?hg (N := 4) ?hd (cs := #[.int .i64 0, .int .i64 0, .int .i64 0]) (t := 93) ?hr ?_; (case hd => rfl); (case hg => rfl); (case hr => exact zb_); intro gb134 hg w26 hbox hb; have n_ := z (blk_below (zb BK120.out) hb) <| z (below_step zca_ hb) <| z (hbox) <| z ((by rw [hg]; exact (below_size zca_) : w.heap.size ≤ gb134)) <| z ((by rw [hg]; exact (below_size zca_) : w.heap.size ≤ gb134)) <| z ((by rw [hg]; exact Nat.ne_of_lt (blk_lt (zb BK120.out)) : gb120 ≠ gb134)) <| z1 ((by rw [hg]; exact Nat.ne_of_gt (blk_lt (zb BK120.out)) : gb134 ≠ gb120)); clear BK120 HB; obtain ⟨BK120, HB, BK134, GW134, GE134, NB120_134, NB134_120⟩ := n_; clear hb hbox hg; have hnb27 := NB134_120.out; have hnc27 := NB120_134.out; have hcz28_0 : w26.cell? ⟨gb134, 0, none⟩ = some (.int .i64 0) := (blk_cell BK134.out 0).trans rfl; have hcz28_1 : w26.cell? ⟨gb134, 1, none⟩ = some (.int .i64 0) := (blk_cell BK134.out 1).trans rfl; have hcz28_2 : w26.cell? ⟨gb134, 2, none⟩ = some (.int .i64 0) := (blk_cell BK134.out 2).trans rfl; have hfz28_0 := blk_frozen BK134.out 0; have hfz28_1 := blk_frozen BK134.out 1; have hfz28_2 := blk_frozen BK134.out 2; have hcz29_0 : w26.cell? ⟨gb120, 0, none⟩ = some (.int .i64 a0_0) := (blk_cell BK120.out 0).trans rfl; have hcz29_1 : w26.cell? ⟨gb120, 1, none⟩ = some (.slice (some ad133) l0_1.length c0_1) := (blk_cell BK120.out 1).trans rfl; have hcz29_2 : w26.cell? ⟨gb120, 2, none⟩ = some (.int .i64 a0_2) := (blk_cell BK120.out 2).trans rfl; have hfz29_0 := blk_frozen BK120.out 0; have hfz29_1 := blk_frozen BK120.out 1; have hfz29_2 := blk_frozen BK120.out 2) | ((with_reducible refine gate_callee (f := 101) rfl ?_); refine goesL_ (some 38) rfl rfl Try.func101 (by kernel_rfl) rfl #[.int .i64 ((rd_T93 l0_1 x28_2).f0), .int .i64 0, .int .i64 (wrap64 (a0_0 - 1))] rfl zd_ ?_; (with_reducible refine (spec_l1In.calls ((rd_T93 l0_1 x28_2).f0) 0 (wrap64 (a0_0 - 1)) true _ A16.out).mono ?_); rintro e w' ⟨rfl, ⟨nd, rfl⟩⟩; refine ⟨_, rfl, ?_⟩) | (go_at_call 101; (with_reducible refine (spec_l1In.calls ((rd_T93 l0_1 x28_2).f1) 0 (wrap64 (x28_2 + 1)) true _ A18.out).mono ?_); rintro e w' ⟨rfl, ⟨nd, rfl⟩⟩) | (go_at_call 101; (with_reducible refine (spec_l1In.calls ((rd_T93 l0_1 x28_2).f2) 0 (wrap64 (x28_2 + 1)) false _ A20.out).mono ?_); rintro e w' ⟨rfl, ⟨nd, rfl⟩⟩))
            go_ret
            exact ⟨zf_, zhf_⟩
          ·replace c19 := Bool.eq_false_iff.mpr c19
           subst c19; have H1 : (some false) = some r := by rw [if_neg (show ¬ (false = true) by decide)] at H; exact H
           clear H; have H := H1; clear H1; obtain rfl := Option.some.inj H; have p133 : 0 ≤ (x28_2 : Int) := of_decide_eq_true zc_; have q133 : x28_2 < (l0_1.length : Int) := of_decide_eq_true zc_; obtain ⟨ad133, e133, hx133_0, hx133_1, hx133_2⟩ := at_T93 HR0_1.out x28_2 p133 q133
           cases e133
           (try (replace hx133_0 := (HB.out.cell (World.block_lt_of_cell? w _ hx133_0)).trans hx133_0)); (try (replace hx133_1 := (HB.out.cell (World.block_lt_of_cell? w _ hx133_1)).trans hx133_1)); (try (replace hx133_2 := (HB.out.cell (World.block_lt_of_cell? w _ hx133_2)).trans hx133_2)); replace p133 := eq_true p133; replace q133 := eq_true q133
           go_wp2_with (first | ((with_reducible refine gate_dst (N := 4) rfl ?_); (try (refine gate_guard (by rfl) ?_; dsimp only)); refine box_event ?hg (N := 4) ?hd (cs := #[.int .i64 0, .int .i64 0, .int .i64 0]) (t := 93) ?hr ?_; (case hd => rfl); (case hg => rfl); (case hr => exact zb_); intro gb134 hg w30 hbox hb; have n_ := z (blk_below (zb BK120.out) hb) <| z (below_step zca_ hb) <| z (hbox) <| z ((by rw [hg]; exact (below_size zca_) : w.heap.size ≤ gb134)) <| z ((by rw [hg]; exact (below_size zca_) : w.heap.size ≤ gb134)) <| z ((by rw [hg]; exact Nat.ne_of_lt (blk_lt (zb BK120.out)) : gb120 ≠ gb134)) <| z1 ((by rw [hg]; exact Nat.ne_of_gt (blk_lt (zb BK120.out)) : gb134 ≠ gb120)); clear BK120 HB; obtain ⟨BK120, HB, BK134, GW134, GE134, NB120_134, NB134_120⟩ := n_; clear hb hbox hg; have hnb31 := NB134_120.out; have hnc31 := NB120_134.out; have hcz32_0 : w30.cell? ⟨gb134, 0, none⟩ = some (.int .i64 0) := (blk_cell BK134.out 0).trans rfl; have hcz32_1 : w30.cell? ⟨gb134, 1, none⟩ = some (.int .i64 0) := (blk_cell BK134.out 1).trans rfl; have hcz32_2 : w30.cell? ⟨gb134, 2, none⟩ = some (.int .i64 0) := (blk_cell BK134.out 2).trans rfl; have hfz32_0 := blk_frozen BK134.out 0; have hfz32_1 := blk_frozen BK134.out 1; have hfz32_2 := blk_frozen BK134.out 2; have hcz33_0 : w30.cell? ⟨gb120, 0, none⟩ = some (.int .i64 a0_0) := (blk_cell BK120.out 0).trans rfl; have hcz33_1 : w30.cell? ⟨gb120, 1, none⟩ = some (.slice (some ad133) l0_1.length c0_1) := (blk_cell BK120.out 1).trans rfl; have hcz33_2 : w30.cell? ⟨gb120, 2, none⟩ = some (.int .i64 a0_2) := (blk_cell BK120.out 2).trans rfl; have hfz33_0 := blk_frozen BK120.out 0; have hfz33_1 := blk_frozen BK120.out 1; have hfz33_2 := blk_frozen BK120.out 2) | ((with_reducible refine gate_callee (f := 101) rfl ?_); refine goesL_ (some 38) rfl rfl Try.func101 (by kernel_rfl) rfl #[.int .i64 ((rd_T93 l0_1 x28_2).f0), .int .i64 0, .int .i64 (wrap64 (a0_0 - 1))] rfl zd_ ?_; (with_reducible refine (spec_l1In.calls ((rd_T93 l0_1 x28_2).f0) 0 (wrap64 (a0_0 - 1)) true _ A16.out).mono ?_); rintro e w' ⟨rfl, ⟨nd, rfl⟩⟩; refine ⟨_, rfl, ?_⟩) | (go_at_call 101; (with_reducible refine (spec_l1In.calls ((rd_T93 l0_1 x28_2).f1) 0 (wrap64 (x28_2 + 1)) false _ A18.out).mono ?_); rintro e w' ⟨rfl, ⟨nd, rfl⟩⟩))
           go_ret
           exact ⟨zf_, zhf_⟩
         ·replace c17 := Bool.eq_false_iff.mpr c17
          subst c17; have H1 : (some false) = some r := by rw [if_neg (show ¬ (false = true) by decide)] at H; exact H
          clear H; have H := H1; clear H1; obtain rfl := Option.some.inj H; have p133 : 0 ≤ (x28_2 : Int) := of_decide_eq_true zc_; have q133 : x28_2 < (l0_1.length : Int) := of_decide_eq_true zc_; obtain ⟨ad133, e133, hx133_0, hx133_1, hx133_2⟩ := at_T93 HR0_1.out x28_2 p133 q133
          cases e133
          (try (replace hx133_0 := (HB.out.cell (World.block_lt_of_cell? w _ hx133_0)).trans hx133_0)); (try (replace hx133_1 := (HB.out.cell (World.block_lt_of_cell? w _ hx133_1)).trans hx133_1)); (try (replace hx133_2 := (HB.out.cell (World.block_lt_of_cell? w _ hx133_2)).trans hx133_2)); replace p133 := eq_true p133; replace q133 := eq_true q133
          go_wp2_with (first | ((with_reducible refine gate_dst (N := 4) rfl ?_); (try (refine gate_guard (by rfl) ?_; dsimp only)); refine box_event ?hg (N := 4) ?hd (cs := #[.int .i64 0, .int .i64 0, .int .i64 0]) (t := 93) ?hr ?_; (case hd => rfl); (case hg => rfl); (case hr => exact zb_); intro gb134 hg w34 hbox hb; have n_ := z (blk_below (zb BK120.out) hb) <| z (below_step zca_ hb) <| z (hbox) <| z ((by rw [hg]; exact (below_size zca_) : w.heap.size ≤ gb134)) <| z ((by rw [hg]; exact (below_size zca_) : w.heap.size ≤ gb134)) <| z ((by rw [hg]; exact Nat.ne_of_lt (blk_lt (zb BK120.out)) : gb120 ≠ gb134)) <| z1 ((by rw [hg]; exact Nat.ne_of_gt (blk_lt (zb BK120.out)) : gb134 ≠ gb120)); clear BK120 HB; obtain ⟨BK120, HB, BK134, GW134, GE134, NB120_134, NB134_120⟩ := n_; clear hb hbox hg; have hnb35 := NB134_120.out; have hnc35 := NB120_134.out; have hcz36_0 : w34.cell? ⟨gb134, 0, none⟩ = some (.int .i64 0) := (blk_cell BK134.out 0).trans rfl; have hcz36_1 : w34.cell? ⟨gb134, 1, none⟩ = some (.int .i64 0) := (blk_cell BK134.out 1).trans rfl; have hcz36_2 : w34.cell? ⟨gb134, 2, none⟩ = some (.int .i64 0) := (blk_cell BK134.out 2).trans rfl; have hfz36_0 := blk_frozen BK134.out 0; have hfz36_1 := blk_frozen BK134.out 1; have hfz36_2 := blk_frozen BK134.out 2; have hcz37_0 : w34.cell? ⟨gb120, 0, none⟩ = some (.int .i64 a0_0) := (blk_cell BK120.out 0).trans rfl; have hcz37_1 : w34.cell? ⟨gb120, 1, none⟩ = some (.slice (some ad133) l0_1.length c0_1) := (blk_cell BK120.out 1).trans rfl; have hcz37_2 : w34.cell? ⟨gb120, 2, none⟩ = some (.int .i64 a0_2) := (blk_cell BK120.out 2).trans rfl; have hfz37_0 := blk_frozen BK120.out 0; have hfz37_1 := blk_frozen BK120.out 1; have hfz37_2 := blk_frozen BK120.out 2) | ((with_reducible refine gate_callee (f := 101) rfl ?_); refine goesL_ (some 38) rfl rfl Try.func101 (by kernel_rfl) rfl #[.int .i64 ((rd_T93 l0_1 x28_2).f0), .int .i64 0, .int .i64 (wrap64 (a0_0 - 1))] rfl zd_ ?_; (with_reducible refine (spec_l1In.calls ((rd_T93 l0_1 x28_2).f0) 0 (wrap64 (a0_0 - 1)) false _ A16.out).mono ?_); rintro e w' ⟨rfl, ⟨nd, rfl⟩⟩; refine ⟨_, rfl, ?_⟩))
          go_ret
          exact ⟨zf_, zhf_⟩
        ·rw [if_neg c15] at H
         exact absurd H (by simp)
       ·rw [if_neg c14] at H
        exact absurd H (by simp)
      ·rw [if_neg c13] at H
       have c13b0 := decide_eq_false c13; clear c13; replace H := oB.mp H; obtain ⟨⟨t123, t124⟩, A380, H⟩ := H; replace H : ((spec_ddMake.f k2 t123 t124).bind fun bt127 => ((spec_ddSame.f k2 a0_0 l0_1 a0_2 bt127.1 bt127.2.1 bt127.2.2).bind fun t132 => (some t132))) = some r := H; have A38 := aM A380; clear A380; replace H := oB.mp H; obtain ⟨⟨t127, t128, t131⟩, A390, H⟩ := H; replace H : ((spec_ddSame.f k2 a0_0 l0_1 a0_2 t127 t128 t131).bind fun t132 => (some t132)) = some r := H; have A39 := aM A390; clear A390; replace H := oB.mp H; obtain ⟨t132, A400, H⟩ := H; replace H : (some t132) = some r := H; have A40 := aM A400; clear A400; obtain rfl := Option.some.inj H; (try go_wp2); have n_ := z (blk_drew BK120.out) <| z1 (p1 HB.out)
       clear BK120 HB; obtain ⟨BK120, HB⟩ := n_
       refine start_ (n := 6) (S := fun w' => w'.cell? ⟨gb120, 0, none⟩ = some (.int .i64 a0_0) ∧ w'.cell? ⟨gb120, 1, none⟩ = some (.slice A0_1 l0_1.length c0_1) ∧ w'.cell? ⟨gb120, 2, none⟩ = some (.int .i64 a0_2)) (ds := []) #[fi,fi,fi,fi,fi,fi] (by kernel_rfl) rfl rfl ⟨(blk_cell BK120.out 0).trans rfl, (blk_cell BK120.out 1).trans rfl, (blk_cell BK120.out 2).trans rfl⟩ (fun hHeld => ?_)
       generalize wr.drew = w41 at BK120 HB hHeld ⊢
       refine take_ (i := 0) (N := some 57) (v := ?_) (a' := ?_) #[ti,fi,fi,fi,fi,fi] rfl rfl (by kernel_rfl) (fun _ _ _ h => h) (Or.inl ⟨by rfl, ?_⟩) hHeld ?_ ?_
       rotate_left
       ·rintro w' ⟨s0, s1, s2⟩
        go_simp
        with_reducible rfl
       rotate_left
       ·simp only [Act.put, sI, s0, sS, i64_w, i32_w]
        rfl
       refine take_ (i := 1) (N := some 58) (v := ?_) (a' := ?_) #[ti,ti,fi,fi,fi,fi] rfl rfl (by kernel_rfl) (fun _ _ _ h => h) (Or.inl ⟨by rfl, ?_⟩) hHeld ?_ ?_
       rotate_left
       ·rintro w' ⟨s0, s1, s2⟩
        go_simp
        with_reducible rfl
       rotate_left
       ·simp only [Act.put, sI, s0, sS, i64_w, i32_w]
        rfl
       refine one_ (i := 2) (N := some 59) #[ti,ti,ti,fi,fi,fi] rfl rfl (by kernel_rfl) (by decide) (fun K hK => ?_)
       refine goes_ Try.func53 (by kernel_rfl) rfl #[.agg #[.int .i64 a0_0, .slice A0_1 l0_1.length c0_1, .int .i64 a0_2]] (by rfl) rfl rfl zd_ ?_
       with_reducible refine (spec_ddTable.calls k2 a0_0 _ _ l0_1 a0_2 t123 t124 _ ?side1 ?side2 A38.out).mono ?_
       (case side1 => exact zbj_)
       (case side2 => exact HC0_1.out)
       rintro e w42 ⟨v125, rfl, ho0, hb⟩
       refine ⟨_, rfl, ?_⟩
       have n_ := z (Kd.R_lower ho0 (below_size zca_)) <| z (blk_below (zb BK120.out) hb) <| z1 (below_step zca_ hb)
       clear BK120 HB; obtain ⟨HO126, BK120, HB⟩ := n_; (try clear hb); (try clear hb2); (try clear hk); (try clear hi); (try clear ho0); obtain ⟨Ao43, co43, eo43⟩ := Kd.R_slice HO126.out; (first | subst eo43 | (injection eo43 with f1_ f2_ f3_; have f4_ := f1_.symm; have f5_ := f3_.symm; clear f1_ f2_ f3_; subst f4_; subst f5_))
       refine hK.out _ _ ⟨(blk_cell BK120.out 0).trans rfl, (blk_cell BK120.out 1).trans rfl, (blk_cell BK120.out 2).trans rfl⟩ (fun hHeld => ?_)
       clear hK K
       refine norm_ (a' := ?_) ?_ ?_
       rotate_left
       ·show Act.put _ (some 59) _ = _
        simp only [Act.put, sI, s0, sS, i64_w, i32_w]
        rfl
       refine one_ (i := 3) (N := some 60) #[ti,ti,ti,ti,fi,fi] rfl rfl (by kernel_rfl) (by decide) (fun K hK => ?_)
       refine goes_ Try.func54 (by kernel_rfl) rfl #[.agg #[.int .i64 t123, .slice Ao43 t124.length co43]] (by rfl) rfl rfl zd_ ?_
       with_reducible refine (spec_ddMake.calls k2 t123 _ _ t124 t127 t128 t131 _ ?side1 ?side2 A39.out).mono ?_
       (case side1 => repeat (first | exact (Kd.R_reads' HO126.out).2.2 | (with_reducible refine cA ?_ _) | (with_reducible refine cN ?_ _) | (with_reducible refine cD ?_)))
       (case side2 => exact (Kd.R_reads' HO126.out).2.1)
       rintro e w44 ⟨v129, rfl, ho0, hb⟩
       refine ⟨_, rfl, ?_⟩
       have n_ := z (Kd.R_below (zr HO126.out) hb) <| z (Kd.R_lower ho0 (below_size zca_)) <| z (blk_below (zb BK120.out) hb) <| z1 (below_step zca_ hb)
       clear HO126 BK120 HB; obtain ⟨HO126, HO130, BK120, HB⟩ := n_; (try clear hb); (try clear hb2); (try clear hk); (try clear hi); (try clear ho0); obtain ⟨Ao45, co45, eo45⟩ := Kd.R_slice HO130.out; (first | subst eo45 | (injection eo45 with f1_ f2_ f3_; have f4_ := f1_.symm; have f5_ := f3_.symm; clear f1_ f2_ f3_; subst f4_; subst f5_))
       refine hK.out _ _ ⟨(blk_cell BK120.out 0).trans rfl, (blk_cell BK120.out 1).trans rfl, (blk_cell BK120.out 2).trans rfl⟩ (fun hHeld => ?_)
       clear hK K
       refine norm_ (a' := ?_) ?_ ?_
       rotate_left
       ·show Act.put _ (some 60) _ = _
        simp only [Act.put, sI, s0, sS, i64_w, i32_w]
        rfl
       refine one_ (i := 4) (N := some 61) #[ti,ti,ti,ti,ti,fi] rfl rfl (by kernel_rfl) (by decide) (fun K hK => ?_)
       refine goes_ Try.func102 (by kernel_rfl) rfl #[.agg #[.int .i64 a0_0, .slice A0_1 l0_1.length c0_1, .int .i64 a0_2], .agg #[.int .i64 t127, .slice Ao45 t128.length co45, .int .i64 t131]] (by rfl) rfl rfl zd_ ?_
       with_reducible refine (spec_ddSame.calls k2 a0_0 _ _ l0_1 a0_2 t127 _ _ t128 t131 t132 _ ?side1 ?side2 ?side3 ?side4 A40.out).mono ?_
       (case side1 => exact zbj_)
       (case side2 => exact HC0_1.out)
       (case side3 => repeat (first | exact (Kd.R_reads' HO130.out).2.2 | (with_reducible refine cA ?_ _) | (with_reducible refine cN ?_ _) | (with_reducible refine cD ?_)))
       (case side4 => exact (Kd.R_reads' HO130.out).2.1)
       rintro e w46 ⟨rfl, hb⟩
       refine ⟨_, rfl, ?_⟩
       have n_ := z (Kd.R_below (zr HO126.out) hb) <| z (Kd.R_below (zr HO130.out) hb) <| z (blk_below (zb BK120.out) hb) <| z1 (below_step zca_ hb)
       clear HO126 HO130 BK120 HB; obtain ⟨HO126, HO130, BK120, HB⟩ := n_; (try clear hb); (try clear hb2); (try clear hk); (try clear hi)
       refine hK.out _ _ ⟨(blk_cell BK120.out 0).trans rfl, (blk_cell BK120.out 1).trans rfl, (blk_cell BK120.out 2).trans rfl⟩ (fun hHeld => ?_)
       clear hK K
       refine norm_ (a' := ?_) ?_ ?_
       rotate_left
       ·show Act.put _ (some 61) _ = _
        simp only [Act.put, sI, s0, sS, i64_w, i32_w]
        rfl
       refine pure_ (i := 5) (N := some 2) (v := ?_) (a' := ?_) #[ti,ti,ti,ti,ti,ti] rfl rfl (by kernel_rfl) (fun _ _ _ h => h) (Or.inl ⟨by rfl, ?_⟩) ?_ ?_; rotate_left; (· (intro w'; go_simp; with_reducible rfl)); rotate_left; (· (simp only [Act.put, sI, s0, sS, i64_w, i32_w]; rfl))
       refine done_ (by kernel_rfl) ?_
       (try go_wp2)
       go_ret
       exact ⟨zf_, zca_⟩
def spec_l1All.l0 : Nat → Int → Int → List Int → Int → Int → Option (Bool)
 | 0, _, _, _, _, _ => none
 | k + 1, x1, x2, x9, x10, x11 => if x11 < x10 then (if 0 ≤ x11 then (if x11 < (x9.length : Int) then ((spec_l1In.f (rd x9 x11) x1 x2).bind fun t139 => (if t139 = true then (spec_l1All.l0 k x1 x2 x9 x10 (wrap64 (x11 + 1))) else (some false))) else (none)) else (none)) else (some true)
def spec_l1All.f (k : Nat) (l0 : List Int) (a1 : Int) (a2 : Int) : Option (Bool) := spec_l1All.l0 k a1 a2 l0 (l0.length : Int) 0
theorem spec_l1All.mono_l : ∀ k, (∀ y0 y1 y2 y3 y4, LeO (spec_l1All.l0 k y0 y1 y2 y3 y4) (spec_l1All.l0 (k + 1) y0 y1 y2 y3 y4))
 | 0 => fun _ _ _ _ _ r h => by simp [spec_l1All.l0] at h
 | k + 1 => by
  have ih0 := spec_l1All.mono_l k
  ·intro y0 y1 y2 y3 y4
   unfold spec_l1All.l0
   repeat' first
   | (with_reducible exact ih0 _ _ _ _ _)
   | (with_reducible exact LeO.refl _)
   | (with_reducible exact LeO.none _)
   | (with_reducible refine LeO.ite ?_ ?_)
   | (with_reducible refine LeO.bind ?_ (fun _ => ?_))
   | exact ih0 _ _ _ _ _
   | exact LeO.none _
   | refine LeO.ite ?_ ?_
   | refine LeO.bind ?_ (fun _ => ?_)
theorem spec_l1All.mono : ∀ a0 a1 a2 k, LeO (spec_l1All.f k a0 a1 a2) (spec_l1All.f (k + 1) a0 a1 a2) := by
 intro a0 a1 a2 k
 have ih0 := spec_l1All.mono_l k
 unfold spec_l1All.f
 repeat' first
   | (with_reducible exact ih0 _ _ _ _ _)
   | (with_reducible exact LeO.refl _)
   | (with_reducible exact LeO.none _)
   | (with_reducible refine LeO.ite ?_ ?_)
   | (with_reducible refine LeO.bind ?_ (fun _ => ?_))
   | exact ih0 _ _ _ _ _
   | exact LeO.none _
   | refine LeO.ite ?_ ?_
   | refine LeO.bind ?_ (fun _ => ?_)
theorem spec_l1All.calls (k : Nat) (A0 : Option Addr) (c0 : Nat) (l0 : List Int) (a1 : Int) (a2 : Int) (r : Bool) (w : World) (hr0 : Kd.C (Kd.int .i64) w A0 l0.length l0) (hc0 : l0.length ≤ c0) (h : spec_l1All.f k l0 a1 a2 = some r) :
  Calls Try.prog 119 #[.slice A0 l0.length c0, .int .i64 a1, .int .i64 a2] w fun e w' => e = .returned (.bool r) ∧ Drawn0 w w' := by
 have HR0 := aM hr0
 have HC0 := aM hc0
 clear hr0 hc0
 have H : (spec_l1All.l0 k a1 a2 l0 (l0.length : Int) 0) = some r := h
 clear h
 have H' := aM H
 clear H
 go_enter Try.func119, Try.ntmps119
 go_wp2
 go_loopg [11] k (fun kq v11 w' => ∃ (x11_1 : Int), v11 = .int .i64 x11_1 ∧ Aside0 (spec_l1All.l0 kq a1 a2 l0 (l0.length : Int) x11_1 = some r) ∧ Aside0 (kq ≤ k) ∧ Drawn0 w w')
 case atStart => exact ⟨(0), ze_, H', ⟨Nat.le_refl _⟩, zbf_⟩
 case round =>
  clear H'; obtain ⟨x11_1, rfl, HA, HK1, ⟨m1, rfl⟩⟩ := hrel
  cases gk with
  | zero => exact absurd HA.out (by simp [spec_l1All.l0])
  | succ k1 =>
   have H := HA.out; clear HA
   simp only [spec_l1All.l0] at H
   by_cases c4 : x11_1 < (l0.length : Int)
   ·rw [if_pos c4] at H
    have c4b0 := decide_eq_true c4; clear c4
    by_cases c5 : 0 ≤ x11_1
    ·rw [if_pos c5] at H
     have c5b0 := decide_eq_true c5; clear c5
     by_cases c6 : x11_1 < (l0.length : Int)
     ·rw [if_pos c6] at H
      have c6b0 := decide_eq_true c6; clear c6; replace H := oB.mp H; obtain ⟨t139, A70, H⟩ := H; replace H : (if t139 = true then (spec_l1All.l0 k1 a1 a2 l0 (l0.length : Int) (wrap64 (x11_1 + 1))) else (some false)) = some r := H; have A7 := aM A70; clear A70
      by_cases c8 : t139 = true
      ·subst c8
       have H1 : (spec_l1All.l0 k1 a1 a2 l0 (l0.length : Int) (wrap64 (x11_1 + 1))) = some r := by rw [if_pos rfl] at H; exact H
       clear H; have H := H1; clear H1; have H' := aM H; clear H; have p138 : 0 ≤ (x11_1 : Int) := of_decide_eq_true zc_; have q138 : x11_1 < (l0.length : Int) := of_decide_eq_true zc_; obtain ⟨ad138, e138, hx138_0⟩ := Kd.at_int HR0.out x11_1 p138 q138
       cases e138
       replace p138 := eq_true p138; replace q138 := eq_true q138
       go_wp2_with (first | ((with_reducible refine gate_callee (f := 101) rfl ?_); refine goesL_ (some 18) rfl rfl Try.func101 (by kernel_rfl) rfl #[.int .i64 (rd l0 x11_1), .int .i64 a1, .int .i64 a2] rfl zd_ ?_; (with_reducible refine (spec_l1In.calls (rd l0 x11_1) a1 a2 true _ A7.out).mono ?_); rintro e w' ⟨rfl, ⟨nd, rfl⟩⟩; refine ⟨_, rfl, ?_⟩))
       go_roundg k1
       case measure => have := HK1.out; omega
       case rel => exact ⟨(wrap64 (x11_1 + 1)), ze_, H', ⟨zci_⟩, zbf_⟩
      ·replace c8 := Bool.eq_false_iff.mpr c8
       subst c8; have H1 : (some false) = some r := by rw [if_neg (show ¬ (false = true) by decide)] at H; exact H
       clear H; have H := H1; clear H1; obtain rfl := Option.some.inj H; have p138 : 0 ≤ (x11_1 : Int) := of_decide_eq_true zc_; have q138 : x11_1 < (l0.length : Int) := of_decide_eq_true zc_; obtain ⟨ad138, e138, hx138_0⟩ := Kd.at_int HR0.out x11_1 p138 q138
       cases e138
       replace p138 := eq_true p138; replace q138 := eq_true q138
       go_wp2_with (first | ((with_reducible refine gate_callee (f := 101) rfl ?_); refine goesL_ (some 18) rfl rfl Try.func101 (by kernel_rfl) rfl #[.int .i64 (rd l0 x11_1), .int .i64 a1, .int .i64 a2] rfl zd_ ?_; (with_reducible refine (spec_l1In.calls (rd l0 x11_1) a1 a2 false _ A7.out).mono ?_); rintro e w' ⟨rfl, ⟨nd, rfl⟩⟩; refine ⟨_, rfl, ?_⟩))
       go_ret
       exact ⟨ze_, zbf_⟩
     ·rw [if_neg c6] at H
      exact absurd H (by simp)
    ·rw [if_neg c5] at H
     exact absurd H (by simp)
   ·rw [if_neg c4] at H
    have c4b0 := decide_eq_false c4; clear c4; obtain rfl := Option.some.inj H
    go_wp2
    go_ret
    exact ⟨ze_, zbf_⟩
def spec_ttGood.f (k : Nat) (a0_0 : Int) (l0_1 : List Int) : Option (Bool) := (spec_ttInputs.f a0_0).bind fun t141 => (if t141 = true then (if 0 ≤ (IntKind.u64.wrap (a0_0)) then (if (l0_1.length : Int) = (shl .i64 1 (IntKind.u64.wrap (a0_0))) then ((spec_l1All.f k l0_1 0 1).bind fun t142 => (some t142)) else (some false)) else (none)) else (some false))
theorem spec_ttGood.mono : ∀ a0 a1 k, LeO (spec_ttGood.f k a0 a1) (spec_ttGood.f (k + 1) a0 a1) := by
 intro a0 a1 k
 unfold spec_ttGood.f
 repeat' first
   | (with_reducible exact spec_l1All.mono _ _ _ _)
   | (with_reducible exact LeO.refl _)
   | (with_reducible exact LeO.none _)
   | (with_reducible refine LeO.ite ?_ ?_)
   | (with_reducible refine LeO.bind ?_ (fun _ => ?_))
   | exact spec_l1All.mono _ _ _ _
   | exact LeO.none _
   | refine LeO.ite ?_ ?_
   | refine LeO.bind ?_ (fun _ => ?_)
theorem spec_ttGood.calls (k : Nat) (a0_0 : Int) (A0_1 : Option Addr) (c0_1 : Nat) (l0_1 : List Int) (r : Bool) (w : World) (hr0_1 : Kd.C (Kd.int .i64) w A0_1 l0_1.length l0_1) (hc0_1 : l0_1.length ≤ c0_1) (h : spec_ttGood.f k a0_0 l0_1 = some r) :
  Calls Try.prog 76 #[.agg #[.int .i64 a0_0, .slice A0_1 l0_1.length c0_1]] w fun e w' => e = .returned (.bool r) ∧ Below w.heap.size w w' := by
 have hu41 := Try.underlying41
 have HR0_1 := aM hr0_1
 have HC0_1 := aM hc0_1
 clear hr0_1 hc0_1
 have HB := aM (Below.refl w.heap.size w)
 have H : ((spec_ttInputs.f a0_0).bind fun t141 => (if t141 = true then (if 0 ≤ (IntKind.u64.wrap (a0_0)) then (if (l0_1.length : Int) = (shl .i64 1 (IntKind.u64.wrap (a0_0))) then ((spec_l1All.f k l0_1 0 1).bind fun t142 => (some t142)) else (some false)) else (none)) else (some false))) = some r := h
 clear h
 replace H := oB.mp H
 obtain ⟨t141, A20, H⟩ := H
 replace H : (if t141 = true then (if 0 ≤ (IntKind.u64.wrap (a0_0)) then (if (l0_1.length : Int) = (shl .i64 1 (IntKind.u64.wrap (a0_0))) then ((spec_l1All.f k l0_1 0 1).bind fun t142 => (some t142)) else (some false)) else (none)) else (some false)) = some r := H
 have A2 := aM A20
 clear A20
 by_cases c3 : t141 = true
 ·subst c3
  have H1 : (if 0 ≤ (IntKind.u64.wrap (a0_0)) then (if (l0_1.length : Int) = (shl .i64 1 (IntKind.u64.wrap (a0_0))) then ((spec_l1All.f k l0_1 0 1).bind fun t142 => (some t142)) else (some false)) else (none)) = some r := by rw [if_pos rfl] at H; exact H
  clear H; have H := H1; clear H1; obtain ⟨ji4, hji4⟩ : ∃ j_ : Int, (IntKind.u64.wrap (a0_0)) = j_ := ⟨_, rfl⟩; replace H : (if 0 ≤ (ji4) then (if (l0_1.length : Int) = (shl .i64 1 (ji4)) then ((spec_l1All.f k l0_1 0 1).bind fun t142 => (some t142)) else (some false)) else (none)) = some r := by first | (rw [hji4] at H; exact H) | (simp only [hji4] at H ⊢; exact H)
  (try rw [hji4] at A2)
  by_cases c5 : 0 ≤ (ji4)
  ·rw [if_pos c5] at H
   have c5b0 := eq_true c5; have c5b1 := decide_eq_true c5; clear c5; obtain ⟨ji6, hji6⟩ : ∃ j_ : Int, (shl .i64 1 (ji4)) = j_ := ⟨_, rfl⟩; replace H : (if (l0_1.length : Int) = (ji6) then ((spec_l1All.f k l0_1 0 1).bind fun t142 => (some t142)) else (some false)) = some r := by first | (rw [hji6] at H; exact H) | (simp only [hji6] at H ⊢; exact H)
   (try rw [hji6] at A2); have hji6_ : (IntKind.i64.wrap (1 * 2 ^ min (ji4).toNat 64)) = ji6 := hji6; have hji6z : (ji4) ≤ 64 → (IntKind.i64.wrap (1 * 2 ^ (ji4).toNat)) = ji6 := shl_small hji6; have hji6u : (IntKind.i64.wrap (2 ^ min (ji4).toNat 64)) = ji6 := by have h_ := hji6_; rw [Int.one_mul] at h_; exact h_
   have hji6v : (ji4) ≤ 64 → (IntKind.i64.wrap (2 ^ (ji4).toNat)) = ji6 := fun hle_ => by have h_ := hji6z hle_; rw [Int.one_mul] at h_; exact h_
   have hji6y : (wrap64 (1 * 2 ^ min (ji4).toNat 64)) = ji6 := (i64_w _).symm.trans hji6_; have hji6x : (ji4) ≤ 64 → (wrap64 (1 * 2 ^ (ji4).toNat)) = ji6 := fun h_ => (i64_w _).symm.trans (hji6z h_)
   by_cases c7 : (l0_1.length : Int) = (ji6)
   ·rw [if_pos c7] at H
    have c7b0 := beq_iff_eq.mpr c7; have c7b1 := bne_eq_false_iff_eq.mpr c7; clear c7; replace H := oB.mp H; obtain ⟨t142, A80, H⟩ := H; replace H : (some t142) = some r := H; have A8 := aM A80; clear A80; obtain rfl := Option.some.inj H
    go_enter Try.func76, Try.ntmps76
    go_wp2_with (first | ((with_reducible refine gate_dst (N := 1) rfl ?_); (try (refine gate_guard (by rfl) ?_; dsimp only)); refine box_event ?hg (N := 1) ?hd (cs := #[.int .i64 a0_0, .slice A0_1 l0_1.length c0_1]) (t := 41) ?hr ?_; (case hd => rfl); (case hg => rfl); (case hr => exact zb_); intro gb140 hg w9 hbox hb; have n_ := z (below_step za_ hb) <| z (hbox) <| z ((by rw [hg]; exact (below_size za_) : w.heap.size ≤ gb140)) <| z1 ((by rw [hg]; exact (below_size za_) : w.heap.size ≤ gb140)); clear HB; obtain ⟨HB, BK140, GW140, GE140⟩ := n_; clear hb hbox hg; have hcz10_0 : w9.cell? ⟨gb140, 0, none⟩ = some (.int .i64 a0_0) := (blk_cell BK140.out 0).trans rfl; have hcz10_1 : w9.cell? ⟨gb140, 1, none⟩ = some (.slice A0_1 l0_1.length c0_1) := (blk_cell BK140.out 1).trans rfl; have hfz10_0 := blk_frozen BK140.out 0; have hfz10_1 := blk_frozen BK140.out 1) | ((with_reducible refine gate_callee (f := 100) rfl ?_); refine goesL_ (some 5) rfl rfl Try.func100 (by kernel_rfl) rfl #[.int .i64 a0_0] rfl zd_ ?_; (with_reducible refine (spec_ttInputs.calls a0_0 true _ A2.out).mono ?_); rintro e w' ⟨rfl, ⟨nd, rfl⟩⟩; refine ⟨_, rfl, ?_⟩) | (go_at_call 119; (with_reducible refine (spec_l1All.calls k _ _ l0_1 0 1 t142 _ ?side1 ?side2 A8.out).mono ?_); (case side1 => repeat (first | exact (Kd.C_below HR0_1.out zhg_) | (with_reducible refine cA ?_ _) | (with_reducible refine cN ?_ _) | (with_reducible refine cD ?_))); (case side2 => exact HC0_1.out); rintro e w' ⟨rfl, ⟨nd, rfl⟩⟩))
    go_ret
    exact ⟨by first | rfl | (simp [errW_none, errW_some] <;> rfl) | (simp only [← hji4, ← hji6]; first | rfl | (simp [errW_none, errW_some] <;> rfl)) | (simp [*, errW_none, errW_some] <;> rfl), zhg_⟩
   ·rw [if_neg c7] at H
    have c7b0 := beq_eq_false_iff_ne.mpr c7; have c7b1 := bne_iff_ne.mpr c7; obtain rfl := Option.some.inj H
    go_enter Try.func76, Try.ntmps76
    go_wp2_with (first | ((with_reducible refine gate_dst (N := 1) rfl ?_); (try (refine gate_guard (by rfl) ?_; dsimp only)); refine box_event ?hg (N := 1) ?hd (cs := #[.int .i64 a0_0, .slice A0_1 l0_1.length c0_1]) (t := 41) ?hr ?_; (case hd => rfl); (case hg => rfl); (case hr => exact zb_); intro gb140 hg w11 hbox hb; have n_ := z (below_step za_ hb) <| z (hbox) <| z ((by rw [hg]; exact (below_size za_) : w.heap.size ≤ gb140)) <| z1 ((by rw [hg]; exact (below_size za_) : w.heap.size ≤ gb140)); clear HB; obtain ⟨HB, BK140, GW140, GE140⟩ := n_; clear hb hbox hg; have hcz12_0 : w11.cell? ⟨gb140, 0, none⟩ = some (.int .i64 a0_0) := (blk_cell BK140.out 0).trans rfl; have hcz12_1 : w11.cell? ⟨gb140, 1, none⟩ = some (.slice A0_1 l0_1.length c0_1) := (blk_cell BK140.out 1).trans rfl; have hfz12_0 := blk_frozen BK140.out 0; have hfz12_1 := blk_frozen BK140.out 1) | ((with_reducible refine gate_callee (f := 100) rfl ?_); refine goesL_ (some 5) rfl rfl Try.func100 (by kernel_rfl) rfl #[.int .i64 a0_0] rfl zd_ ?_; (with_reducible refine (spec_ttInputs.calls a0_0 true _ A2.out).mono ?_); rintro e w' ⟨rfl, ⟨nd, rfl⟩⟩; refine ⟨_, rfl, ?_⟩))
    go_ret
    exact ⟨by first | rfl | (simp [errW_none, errW_some] <;> rfl) | (simp only [← hji4, ← hji6]; first | rfl | (simp [errW_none, errW_some] <;> rfl)) | (simp [*, errW_none, errW_some] <;> rfl), zhg_⟩
  ·rw [if_neg c5] at H
   exact absurd H (by simp)
 ·replace c3 := Bool.eq_false_iff.mpr c3
  subst c3; have H1 : (some false) = some r := by rw [if_neg (show ¬ (false = true) by decide)] at H; exact H
  clear H; have H := H1; clear H1; obtain rfl := Option.some.inj H
  go_enter Try.func76, Try.ntmps76
  go_wp2_with (first | ((with_reducible refine gate_dst (N := 1) rfl ?_); (try (refine gate_guard (by rfl) ?_; dsimp only)); refine box_event ?hg (N := 1) ?hd (cs := #[.int .i64 a0_0, .slice A0_1 l0_1.length c0_1]) (t := 41) ?hr ?_; (case hd => rfl); (case hg => rfl); (case hr => exact zb_); intro gb140 hg w13 hbox hb; have n_ := z (below_step za_ hb) <| z (hbox) <| z ((by rw [hg]; exact (below_size za_) : w.heap.size ≤ gb140)) <| z1 ((by rw [hg]; exact (below_size za_) : w.heap.size ≤ gb140)); clear HB; obtain ⟨HB, BK140, GW140, GE140⟩ := n_; clear hb hbox hg; have hcz14_0 : w13.cell? ⟨gb140, 0, none⟩ = some (.int .i64 a0_0) := (blk_cell BK140.out 0).trans rfl; have hcz14_1 : w13.cell? ⟨gb140, 1, none⟩ = some (.slice A0_1 l0_1.length c0_1) := (blk_cell BK140.out 1).trans rfl; have hfz14_0 := blk_frozen BK140.out 0; have hfz14_1 := blk_frozen BK140.out 1) | ((with_reducible refine gate_callee (f := 100) rfl ?_); refine goesL_ (some 5) rfl rfl Try.func100 (by kernel_rfl) rfl #[.int .i64 a0_0] rfl zd_ ?_; (with_reducible refine (spec_ttInputs.calls a0_0 false _ A2.out).mono ?_); rintro e w' ⟨rfl, ⟨nd, rfl⟩⟩; refine ⟨_, rfl, ?_⟩))
  go_ret
  exact ⟨zf_, zhg_⟩
def spec_l1Most.f (a0 : Int) (a1 : Int) : Option (Int) := if a0 > a1 then (some a0) else (some a1)
theorem spec_l1Most.calls (a0 : Int) (a1 : Int) (r : Int) (w : World) (h : spec_l1Most.f a0 a1 = some r) :
  Calls Try.prog 63 #[.int .i64 a0, .int .i64 a1] w fun e w' => e = .returned (.int .i64 r) ∧ Drawn0 w w' := by
 have H : (if a0 > a1 then (some a0) else (some a1)) = some r := h
 clear h
 by_cases c3 : a0 > a1
 ·rw [if_pos c3] at H
  have c3b0 : decide (a1 < a0) = true := decide_eq_true c3; clear c3; obtain rfl := Option.some.inj H
  go_enter Try.func63, Try.ntmps63
  go_wp2
  go_ret
  exact ⟨ze_, zbf_⟩
 ·rw [if_neg c3] at H
  have c3b0 : decide (a1 < a0) = false := decide_eq_false c3; clear c3; obtain rfl := Option.some.inj H
  go_enter Try.func63, Try.ntmps63
  go_wp2
  go_ret
  exact ⟨ze_, zbf_⟩
def spec_ttCombine.f (a0 : Int) (a1 : Int) (a2 : Int) : Option (Int) := if a0 = 1 then (some (wrap64 (a1 * a2))) else (if a0 = 2 then ((spec_l1Most.f a1 a2).bind fun t143 => (some t143)) else (if a0 = 3 then (some (Int.tmod (wrap64 (a1 + a2)) 2)) else ((spec_l1Most.f (wrap64 (1 - a1)) a2).bind fun t144 => (some t144))))
theorem spec_ttCombine.calls (a0 : Int) (a1 : Int) (a2 : Int) (r : Int) (w : World) (h : spec_ttCombine.f a0 a1 a2 = some r) :
  Calls Try.prog 103 #[.int .i64 a0, .int .i64 a1, .int .i64 a2] w fun e w' => e = .returned (.int .i64 r) ∧ Drawn0 w w' := by
 have H : (if a0 = 1 then (some (wrap64 (a1 * a2))) else (if a0 = 2 then ((spec_l1Most.f a1 a2).bind fun t143 => (some t143)) else (if a0 = 3 then (some (Int.tmod (wrap64 (a1 + a2)) 2)) else ((spec_l1Most.f (wrap64 (1 - a1)) a2).bind fun t144 => (some t144))))) = some r := h
 clear h
 by_cases c4 : a0 = 1
 ·rw [if_pos c4] at H
  have c4b0 := beq_iff_eq.mpr c4; have c4b1 := bne_eq_false_iff_eq.mpr c4; clear c4; obtain rfl := Option.some.inj H
  go_enter Try.func103, Try.ntmps103
  go_wp2
  go_ret
  exact ⟨ze_, zbf_⟩
 ·rw [if_neg c4] at H
  have c4b0 := beq_eq_false_iff_ne.mpr c4; have c4b1 := bne_iff_ne.mpr c4
  by_cases c5 : a0 = 2
  ·rw [if_pos c5] at H
   have c5b0 := beq_iff_eq.mpr c5; have c5b1 := bne_eq_false_iff_eq.mpr c5; clear c5; replace H := oB.mp H; obtain ⟨t143, A60, H⟩ := H; replace H : (some t143) = some r := H; have A6 := aM A60; clear A60; obtain rfl := Option.some.inj H
   go_enter Try.func103, Try.ntmps103
   go_wp2_with (first | ((with_reducible refine gate_callee (f := 63) rfl ?_); refine goesL_ (some 17) rfl rfl Try.func63 (by kernel_rfl) rfl #[.int .i64 a1, .int .i64 a2] rfl zd_ ?_; (with_reducible refine (spec_l1Most.calls a1 a2 t143 _ A6.out).mono ?_); rintro e w' ⟨rfl, ⟨nd, rfl⟩⟩; refine ⟨_, rfl, ?_⟩))
   go_ret
   exact ⟨ze_, zbf_⟩
  ·rw [if_neg c5] at H
   have c5b0 := beq_eq_false_iff_ne.mpr c5; have c5b1 := bne_iff_ne.mpr c5
   by_cases c7 : a0 = 3
   ·rw [if_pos c7] at H
    have c7b0 := beq_iff_eq.mpr c7; have c7b1 := bne_eq_false_iff_eq.mpr c7; clear c7; obtain rfl := Option.some.inj H
    go_enter Try.func103, Try.ntmps103
    go_wp2
    go_ret
    exact ⟨ze_, zbf_⟩
   ·rw [if_neg c7] at H
    have c7b0 := beq_eq_false_iff_ne.mpr c7; have c7b1 := bne_iff_ne.mpr c7; replace H := oB.mp H; obtain ⟨t144, A80, H⟩ := H; replace H : (some t144) = some r := H; have A8 := aM A80; clear A80; obtain rfl := Option.some.inj H
    go_enter Try.func103, Try.ntmps103
    go_wp2_with (first | ((with_reducible refine gate_callee (f := 63) rfl ?_); refine goesL_ (some 27) rfl rfl Try.func63 (by kernel_rfl) rfl #[.int .i64 (wrap64 (1 - a1)), .int .i64 a2] rfl zd_ ?_; (with_reducible refine (spec_l1Most.calls (wrap64 (1 - a1)) a2 t144 _ A8.out).mono ?_); rintro e w' ⟨rfl, ⟨nd, rfl⟩⟩; refine ⟨_, rfl, ?_⟩))
    go_ret
    exact ⟨ze_, zbf_⟩
end Go.Proofs.Ytlnhpkjioppbiaa.QFnExactCombineDiagrams
