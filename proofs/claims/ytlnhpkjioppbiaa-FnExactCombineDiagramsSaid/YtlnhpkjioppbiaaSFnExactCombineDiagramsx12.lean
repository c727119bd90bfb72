/- Functions of FnExactCombineDiagrams, each as a Lean function, with the proof that the Go code comes to its answers. -/
import Derived.Test.YtlnhpkjioppbiaaSFnExactCombineDiagramsx0
import Derived.Test.YtlnhpkjioppbiaaSFnExactCombineDiagramsx11
namespace Go.Proofs.Ytlnhpkjioppbiaa.QFnExactCombineDiagrams
open Go.RowKit Go.Proofs.YtlnhpkjioppbiaaW.PrintWords Go.Proofs.YtlnhpkjioppbiaaW.PrintLast Go.Proofs.YtlnhpkjioppbiaaW.PrintMore
open Go.Proofs.YtlnhpkjioppbiaaW.PrintWords renaming pw_below_drewN → pN, below_drew1 → p1, below_alloc → pA
open Go.Proofs.YtlnhpkjioppbiaaW.PrintWords.Kd renaming R_alloc → kA, R_drewN → kN, R_drew → kD, C_alloc → cA, C_drewN → cN, C_drew → cD
open Go.Proofs.YtlnhpkjioppbiaaW.PrintWords.Aside0 renaming mk → aM
open List renaming setIfInBounds_toArray → sI, set_cons_zero → s0, set_cons_succ → sS, map_toArray → mT, length_take → lT, length_drop → lD, map_cons → mC, map_nil → mN
open Option renaming bind_eq_some_iff → oB, bind_some → oS
attribute [local go_sem] max2_int min2_int max_two min_two max_three min_three max_four min_four
set_option maxHeartbeats 8000000
set_option maxRecDepth 100000
set_option linter.unusedVariables false
set_option linter.unusedSimpArgs false
def impl_tableOfDiagram.l0 : Nat → Int → Int → Int → List (S93) → Int → Int → List Int → Option (Int × List Int)
 | 0, _, _, _, _, _, _, _ => none
 | k + 1, x14, x15, x244000, x244001, x244002, x249000, x249001 => if x15 < x14 then ((impl_bitList.f k x15 x244000).bind fun t249 => ((impl_diagramValue.f k x244000 x244001 x244002 t249).bind fun t252 => (if 0 ≤ x15 then (if x15 < (x249001.length : Int) then (impl_tableOfDiagram.l0 k x14 (wrap64 (x15 + 1)) x244000 x244001 x244002 x249000 (x249001.set (x15 : Int).toNat t252)) else (none)) else (none)))) else (some (x249000, x249001))
def impl_tableOfDiagram.f (k : Nat) (a0_0 : Int) (l0_1 : List (S93)) (a0_2 : Int) : Option (Int × List Int) := if 0 ≤ a0_0 then (if 0 ≤ (shl .i64 1 a0_0) then (if (shl .i64 1 a0_0 : Int).toNat ≤ 35184372088832 then ((some (List.replicate (shl .i64 1 a0_0 : Int).toNat 0 : List Int)).bind fun y245 => (impl_tableOfDiagram.l0 k (y245.length : Int) 0 a0_0 l0_1 a0_2 a0_0 y245)) else (none)) else (none)) else (none)
theorem impl_tableOfDiagram.mono_l : ∀ k, (∀ y0 y1 y2 y3 y4 y5 y6, LeO (impl_tableOfDiagram.l0 k y0 y1 y2 y3 y4 y5 y6) (impl_tableOfDiagram.l0 (k + 1) y0 y1 y2 y3 y4 y5 y6))
 | 0 => fun _ _ _ _ _ _ _ r h => by simp [impl_tableOfDiagram.l0] at h
 | k + 1 => by
  have ih0 := impl_tableOfDiagram.mono_l k
  ·intro y0 y1 y2 y3 y4 y5 y6
   unfold impl_tableOfDiagram.l0
   repeat' first
   | (with_reducible exact ih0 _ _ _ _ _ _ _)
   | (with_reducible exact impl_bitList.mono _ _ _)
   | (with_reducible exact impl_diagramValue.mono _ _ _ _ _)
   | (with_reducible exact LeO.refl _)
   | (with_reducible exact LeO.none _)
   | (with_reducible refine LeO.ite ?_ ?_)
   | (with_reducible refine LeO.bind ?_ (fun _ => ?_))
   | exact ih0 _ _ _ _ _ _ _
   | exact impl_bitList.mono _ _ _
   | exact impl_diagramValue.mono _ _ _ _ _
   | exact LeO.none _
   | refine LeO.ite ?_ ?_
   | refine LeO.bind ?_ (fun _ => ?_)
theorem impl_tableOfDiagram.mono : ∀ a0 a1 a2 k, LeO (impl_tableOfDiagram.f k a0 a1 a2) (impl_tableOfDiagram.f (k + 1) a0 a1 a2) := by
 intro a0 a1 a2 k
 have ih0 := impl_tableOfDiagram.mono_l k
 unfold impl_tableOfDiagram.f
 repeat' first
   | (with_reducible exact ih0 _ _ _ _ _ _ _)
   | (with_reducible exact impl_bitList.mono _ _ _)
   | (with_reducible exact impl_diagramValue.mono _ _ _ _ _)
   | (with_reducible exact LeO.refl _)
   | (with_reducible exact LeO.none _)
   | (with_reducible refine LeO.ite ?_ ?_)
   | (with_reducible refine LeO.bind ?_ (fun _ => ?_))
   | exact ih0 _ _ _ _ _ _ _
   | exact impl_bitList.mono _ _ _
   | exact impl_diagramValue.mono _ _ _ _ _
   | exact LeO.none _
   | refine LeO.ite ?_ ?_
   | refine LeO.bind ?_ (fun _ => ?_)
def impl_tableOfDiagram.T1 : Bool × List (List Nat × List Nat) := (true, [([], []), ([0], [0]), ([], []), ([2], [2]), ([3], [3]), ([4, 4], [4]), ([1, 5], [1, 5]), ([], []), ([7, 6, 0, 1, 2, 3, 4, 5, 6, 7], [6, 7])])
def impl_tableOfDiagram.B1 : List Nat := [0, 1, 0, 4, 12, 28, 63, 0, 255]
theorem impl_tableOfDiagram.tab1 : rtab .any (opsOf Try.f56 1) = impl_tableOfDiagram.T1 := by kernel_rfl
theorem impl_tableOfDiagram.bits1 : waitsOk impl_tableOfDiagram.T1.2 impl_tableOfDiagram.B1 = true := by kernel_rfl
def impl_tableOfDiagram.T5 : Bool × List (List Nat × List Nat) := (true, [([], []), ([0], [0]), ([], []), ([], []), ([], []), ([], []), ([5], [5]), ([4, 6], [4, 6]), ([3, 7, 7], [3, 7]), ([1, 2, 0, 1, 2, 3, 4, 5, 6, 7, 8], [1, 2]), ([9, 8, 8, 0, 1, 2, 3, 4, 5, 6, 7, 8], [8, 9])])
def impl_tableOfDiagram.B5 : List Nat := [0, 1, 0, 0, 0, 0, 32, 112, 248, 511, 1023]
theorem impl_tableOfDiagram.tab5 : rtab .any (opsOf Try.f56 5) = impl_tableOfDiagram.T5 := by kernel_rfl
theorem impl_tableOfDiagram.bits5 : waitsOk impl_tableOfDiagram.T5.2 impl_tableOfDiagram.B5 = true := by kernel_rfl
theorem impl_tableOfDiagram.calls (k : Nat) (a0_0 : Int) (A0_1 : Option Addr) (c0_1 : Nat) (l0_1 : List (S93)) (a0_2 : Int) (r1 : Int) (r2 : List Int) (w : World) (hr0_1 : Kd.C k93 w A0_1 l0_1.length l0_1) (hc0_1 : l0_1.length ≤ c0_1) (h : impl_tableOfDiagram.f k a0_0 l0_1 a0_2 = some (r1, r2)) :
  Calls Try.prog 56 #[.agg #[.int .i64 a0_0, .slice A0_1 l0_1.length c0_1, .int .i64 a0_2]] w fun e w' => ∃ v1_ : Value, e = .returned (.agg #[.int .i64 r1, v1_]) ∧ Kd.R (Kd.int .i64) 3 w' w.heap.size (fun _ => True) v1_ r2 ∧ Below w.heap.size w w' := by
 have hu28 := Try.underlying28
 have hu41 := Try.underlying41
 have HR0_1 := aM hr0_1
 have HC0_1 := aM hc0_1
 clear hr0_1 hc0_1
 have HB := aM (Below.refl w.heap.size w)
 have H : (if 0 ≤ a0_0 then (if 0 ≤ (shl .i64 1 a0_0) then (if (shl .i64 1 a0_0 : Int).toNat ≤ 35184372088832 then ((some (List.replicate (shl .i64 1 a0_0 : Int).toNat 0 : List Int)).bind fun y245 => (impl_tableOfDiagram.l0 k (y245.length : Int) 0 a0_0 l0_1 a0_2 a0_0 y245)) else (none)) else (none)) else (none)) = some (r1, r2) := h
 clear h
 by_cases c2 : 0 ≤ a0_0
 ·rw [if_pos c2] at H
  have c2b0 := eq_true c2; have c2b1 := decide_eq_true c2; clear c2; obtain ⟨ji3, hji3⟩ : ∃ j_ : Int, (shl .i64 1 a0_0) = j_ := ⟨_, rfl⟩; replace H : (if 0 ≤ (ji3) then (if (ji3 : Int).toNat ≤ 35184372088832 then ((some (List.replicate (ji3 : Int).toNat 0 : List Int)).bind fun y245 => (impl_tableOfDiagram.l0 k (y245.length : Int) 0 a0_0 l0_1 a0_2 a0_0 y245)) else (none)) else (none)) = some (r1, r2) := by first | (rw [hji3] at H; exact H) | (simp only [hji3] at H ⊢; exact H)
  have hji3_ : (IntKind.i64.wrap (1 * 2 ^ min a0_0.toNat 64)) = ji3 := hji3; have hji3z : a0_0 ≤ 64 → (IntKind.i64.wrap (1 * 2 ^ a0_0.toNat)) = ji3 := shl_small hji3; have hji3u : (IntKind.i64.wrap (2 ^ min a0_0.toNat 64)) = ji3 := by have h_ := hji3_; rw [Int.one_mul] at h_; exact h_
  have hji3v : a0_0 ≤ 64 → (IntKind.i64.wrap (2 ^ a0_0.toNat)) = ji3 := fun hle_ => by have h_ := hji3z hle_; rw [Int.one_mul] at h_; exact h_
  have hji3y : (wrap64 (1 * 2 ^ min a0_0.toNat 64)) = ji3 := (i64_w _).symm.trans hji3_; have hji3x : a0_0 ≤ 64 → (wrap64 (1 * 2 ^ a0_0.toNat)) = ji3 := fun h_ => (i64_w _).symm.trans (hji3z h_)
  by_cases c4 : 0 ≤ (ji3)
  ·rw [if_pos c4] at H
   have c4b0 := eq_true c4; have c4b1 := decide_eq_true c4; clear c4
   by_cases c5 : (ji3 : Int).toNat ≤ 35184372088832
   ·rw [if_pos c5] at H
    have c5b0 := eq_true c5; have c5b1 := decide_eq_true c5; clear c5; obtain ⟨y245, hy245⟩ : ∃ y_ : List Int, y_ = (List.replicate (ji3 : Int).toNat 0) := ⟨_, rfl⟩; replace H : (impl_tableOfDiagram.l0 k (y245.length : Int) 0 a0_0 l0_1 a0_2 a0_0 y245) = some (r1, r2) := by first | (rw [hy245]; with_reducible exact H) | (have H2_ := (oS _ _).symm.trans H; rw [hy245]; with_reducible exact H2_) | (have H2_ := (oS _ _).symm.trans H; with_reducible exact H2_) | with_reducible exact H | (rw [hy245]; exact H) | exact H
    have Ny245 := aM hy245; clear hy245; have H' := aM H; clear H
    go_enter Try.func56, Try.ntmps56
    (try go_wp2_with (first | ((with_reducible refine gate_dst (N := 1) rfl ?_); refine box_event ?hg (N := 1) ?hd (cs := #[.int .i64 a0_0, .slice A0_1 l0_1.length c0_1, .int .i64 a0_2]) (t := 28) ?hr ?_; (case hd => rfl); (case hg => rfl); (case hr => exact zb_); intro gb243 hg w6 hbox hb; have n_ := z (below_step za_ hb) <| z (hbox) <| z ((by rw [hg]; exact (below_size za_) : w.heap.size ≤ gb243)) <| z1 ((by rw [hg]; exact (below_size za_) : w.heap.size ≤ gb243)); clear HB; obtain ⟨HB, BK243, GW243, GE243⟩ := n_; clear hb hbox hg) | ((with_reducible refine gate_dst (N := 2) rfl ?_); refine box_event ?hg (N := 2) ?hd (cs := #[.int .i64 0, .slice none 0 0]) (t := 41) ?hr ?_; (case hd => rfl); (case hg => rfl); (case hr => exact zb_); intro gb244 hg w7 hbox hb; have n_ := z (blk_below (zb BK243.out) hb) <| z (below_step zbbf_ hb) <| z (hbox) <| z ((by rw [hg]; exact (below_size zbbf_) : w.heap.size ≤ gb244)) <| z ((by rw [hg]; exact (below_size zbbf_) : w.heap.size ≤ gb244)) <| z ((by rw [hg]; exact Nat.ne_of_lt (blk_lt (zb BK243.out)) : gb243 ≠ gb244)) <| z1 ((by rw [hg]; exact Nat.ne_of_gt (blk_lt (zb BK243.out)) : gb244 ≠ gb243)); clear BK243 HB; obtain ⟨BK243, HB, BK244, GW244, GE244, NB243_244, NB244_243⟩ := n_; clear hb hbox hg))); have n_ := z (blk_drew BK243.out) <| z (blk_drew BK244.out) <| z1 (p1 HB.out)
    clear BK243 BK244 HB; obtain ⟨BK243, BK244, HB⟩ := n_
    refine start_ (n := 9) (S := fun w' => w'.cell? ⟨gb243, 0, none⟩ = some (.int .i64 a0_0) ∧ w'.cell? ⟨gb243, 1, none⟩ = some (.slice A0_1 l0_1.length c0_1) ∧ w'.cell? ⟨gb243, 2, none⟩ = some (.int .i64 a0_2)) (ds := []) #[fi,fi,fi,fi,fi,fi,fi,fi,fi] (by kernel_rfl) rfl rfl ⟨(blk_cell BK243.out 0).trans rfl, (blk_cell BK243.out 1).trans rfl, (blk_cell BK243.out 2).trans rfl⟩ (fun hHeld => ?_); refine with_tabW impl_tableOfDiagram.tab1 impl_tableOfDiagram.bits1 (fun HT_ HW_ => ?_)
    generalize w7.drew = w8 at BK243 BK244 HB hHeld ⊢; refine py_ 0 5 HT_.out ?_; refine py_ 2 7 HT_.out ?_
    refine take_ (i := 1) (N := some 6) (v := ?_) (a' := ?_) #[ti,ti,ti,fi,fi,fi,fi,fi,fi] rfl rfl (take_ofW HT_.out HW_.out (by kernel_rfl)) (fun _ _ _ h => h) (Or.inl ⟨by rfl, ?_⟩) hHeld ?_ ?_
    rotate_left
    ·rintro w' ⟨s0, s1, s2⟩
     go_simp
     with_reducible rfl
    rotate_left
    ·simp only [Act.put, sI, s0, sS, i64_w, i32_w]
     rfl
    refine take_ (i := 3) (N := some 8) (v := ?_) (a' := ?_) #[ti,ti,ti,ti,fi,fi,fi,fi,fi] rfl rfl (take_ofW HT_.out HW_.out (by kernel_rfl)) (fun _ _ _ h => h) (Or.inl ⟨by rfl, ?_⟩) hHeld ?_ ?_
    rotate_left
    ·rintro w' ⟨s0, s1, s2⟩
     go_simp
     with_reducible rfl
    rotate_left
    ·simp only [Act.put, sI, s0, sS, i64_w, i32_w]
     rfl
    refine py_ 4 9 HT_.out ?_
    refine join_ (σ := Value × Nat) 1 #[ti,ti,ti,ti,ti,ti,ti,ti,fi] (fun s_ => [(10, s_.1), (3, .pointer (some ⟨s_.2, 0, none⟩)), (11, .agg #[.int .i64 a0_0, s_.1])]) (fun s_ w' => (w'.cell? ⟨gb243, 0, none⟩ = some (.int .i64 a0_0) ∧ w'.cell? ⟨gb243, 1, none⟩ = some (.slice A0_1 l0_1.length c0_1) ∧ w'.cell? ⟨gb243, 2, none⟩ = some (.int .i64 a0_2)) ∧ (Kd.R (Kd.int .i64) 3 w' w.heap.size (fun _ => True) s_.1 y245) ∧ (w'.heap[gb243]? = some (.cells #[.int .i64 a0_0, .slice A0_1 l0_1.length c0_1, .int .i64 a0_2] 28 (0, 0))) ∧ (w'.heap[gb244]? = some (.cells #[.int .i64 0, .slice none 0 0] 41 (0, 0))) ∧ (w'.heap[s_.2]? = some (.cells #[.int .i64 0, .slice none 0 0] 41 (0, 0))) ∧ (w.heap.size ≤ s_.2) ∧ (w.heap.size ≤ s_.2) ∧ (gb243 ≠ s_.2) ∧ (s_.2 ≠ gb243) ∧ (gb244 ≠ s_.2) ∧ (s_.2 ≠ gb244) ∧ (Below w.heap.size w w')) ?_ ?_
    rotate_left
    ·intro hCont
     refine two_ (i := 5) (j := 7) (Ni := some 10) (Nj := some 3) #[ti,ti,ti,ti,ti,ti,fi,fi,fi] #[ti,ti,ti,ti,ti,fi,fi,ti,fi] rfl rfl rfl rfl (two_of HT_.out (by kernel_rfl)) (by decide) (by decide) (fun K hK => ?_) (fun K hK => ?_)
     ·skip
      refine Kd.R_make_step (Kd.int .i64) _ 3 (by rfl) (N := 10) rfl 39 _ _ rfl ji3 rfl rfl Try.underlying39 (.int .i64 0) 8 info3 rfl (by decide) (by omega) 0 (ok := fun _ => True) (okp := fun _ => True) rfl (fun _ hk => hk) trivial (of_decide_eq_true zc_) (Nat.le_trans (Nat.mul_le_mul_right _ (of_decide_eq_true zc_ : ji3.toNat ≤ 35184372088832)) (by omega)) (Below.refl _ _) (Nat.le_refl _) ?_
      intro v246 w9 ho10 hb hg_ hnew_
      clear hg_ hnew_; (first | rw [← Ny245.out] at ho10 | (simp only [Int.reduceToNat] at ho10; rw [← Ny245.out] at ho10)); have n_ := z (Kd.R_lower ho10 (below_size zfd_)) <| z (blk_below (zb BK243.out) hb) <| z (blk_below (zb BK244.out) hb) <| z1 (below_step zfd_ hb)
      clear BK243 BK244 HB; obtain ⟨HO247, BK243, BK244, HB⟩ := n_; clear hb ho10; obtain ⟨Ao11, co11, eo11⟩ := Kd.R_slice HO247.out; (first | subst eo11 | (injection eo11 with f1_ f2_ f3_; have f4_ := f1_.symm; have f5_ := f3_.symm; clear f1_ f2_ f3_; subst f4_; subst f5_))
      refine hK.out _ _ ⟨(blk_cell BK243.out 0).trans rfl, (blk_cell BK243.out 1).trans rfl, (blk_cell BK243.out 2).trans rfl⟩ (fun hHeld => ?_)
      clear hK K
      refine norm_ (a' := ?_) ?_ ?_
      rotate_left
      ·show Act.put _ (some 10) _ = _
       simp only [Act.put, sI, s0, sS, i64_w, i32_w]
       rfl
      refine py_ 6 11 HT_.out ?_
      refine one_ (i := 7) (N := some 3) #[ti,ti,ti,ti,ti,ti,ti,ti,fi] rfl rfl (one_of HT_.out (by kernel_rfl)) (by decide) (fun K hK => ?_)
      refine box_step ?hg (N := 3) ?hd (cs := #[.int .i64 0, .slice none 0 0]) (t := 41) ?hr ?_; (case hd => rfl); (case hg => rfl); (case hr => exact zb_)
      intro gb248 hg w12 hbox hb
      have n_ := z (Kd.R_below (zr HO247.out) hb) <| z (blk_below (zb BK243.out) hb) <| z (blk_below (zb BK244.out) hb) <| z (below_step zfd_ hb) <| z (hbox) <| z ((by rw [hg]; exact (below_size zfd_) : w.heap.size ≤ gb248)) <| z ((by rw [hg]; exact (below_size zfd_) : w.heap.size ≤ gb248)) <| z ((by rw [hg]; exact Nat.ne_of_lt (blk_lt (zb BK243.out)) : gb243 ≠ gb248)) <| z ((by rw [hg]; exact Nat.ne_of_gt (blk_lt (zb BK243.out)) : gb248 ≠ gb243)) <| z ((by rw [hg]; exact Nat.ne_of_lt (blk_lt (zb BK244.out)) : gb244 ≠ gb248)) <| z1 ((by rw [hg]; exact Nat.ne_of_gt (blk_lt (zb BK244.out)) : gb248 ≠ gb244))
      clear HO247 BK243 BK244 HB; obtain ⟨HO247, BK243, BK244, HB, BK248, GW248, GE248, NB243_248, NB248_243, NB244_248, NB248_244⟩ := n_; clear hb hbox hg
      refine hK.out _ _ ⟨(blk_cell BK243.out 0).trans rfl, (blk_cell BK243.out 1).trans rfl, (blk_cell BK243.out 2).trans rfl⟩ (fun hHeld => ?_)
      clear hK K
      refine norm_ (a' := ?_) ?_ ?_
      rotate_left
      ·show Act.put _ (some 3) _ = _
       simp only [Act.put, sI, s0, sS, i64_w, i32_w]
       rfl
      exact norm_ (by simp only [putAll, Act.put, sI, s0, sS]) (hCont (.slice Ao11 y245.length co11, gb248) _ ⟨hHeld, (zr HO247.out), (zb BK243.out), (zb BK244.out), (zb BK248.out), GW248.out, GE248.out, NB243_248.out, NB248_243.out, NB244_248.out, NB248_244.out, zec_⟩)
     ·skip
      refine box_step ?hg (N := 3) ?hd (cs := #[.int .i64 0, .slice none 0 0]) (t := 41) ?hr ?_; (case hd => rfl); (case hg => rfl); (case hr => exact zb_)
      intro gb248 hg w9 hbox hb
      have n_ := z (blk_below (zb BK243.out) hb) <| z (blk_below (zb BK244.out) hb) <| z (below_step zfd_ hb) <| z (hbox) <| z ((by rw [hg]; exact (below_size zfd_) : w.heap.size ≤ gb248)) <| z ((by rw [hg]; exact (below_size zfd_) : w.heap.size ≤ gb248)) <| z ((by rw [hg]; exact Nat.ne_of_lt (blk_lt (zb BK243.out)) : gb243 ≠ gb248)) <| z ((by rw [hg]; exact Nat.ne_of_gt (blk_lt (zb BK243.out)) : gb248 ≠ gb243)) <| z ((by rw [hg]; exact Nat.ne_of_lt (blk_lt (zb BK244.out)) : gb244 ≠ gb248)) <| z1 ((by rw [hg]; exact Nat.ne_of_gt (blk_lt (zb BK244.out)) : gb248 ≠ gb244))
      clear BK243 BK244 HB; obtain ⟨BK243, BK244, HB, BK248, GW248, GE248, NB243_248, NB248_243, NB244_248, NB248_244⟩ := n_; clear hb hbox hg
      refine hK.out _ _ ⟨(blk_cell BK243.out 0).trans rfl, (blk_cell BK243.out 1).trans rfl, (blk_cell BK243.out 2).trans rfl⟩ (fun hHeld => ?_)
      clear hK K
      refine norm_ (a' := ?_) ?_ ?_
      rotate_left
      ·show Act.put _ (some 3) _ = _
       simp only [Act.put, sI, s0, sS, i64_w, i32_w]
       rfl
      refine one_ (i := 5) (N := some 10) #[ti,ti,ti,ti,ti,ti,fi,ti,fi] rfl rfl (one_of HT_.out (by kernel_rfl)) (by decide) (fun K hK => ?_)
      refine Kd.R_make_step (Kd.int .i64) _ 3 (by rfl) (N := 10) rfl 39 _ _ rfl ji3 rfl rfl Try.underlying39 (.int .i64 0) 8 info3 rfl (by decide) (by omega) 0 (ok := fun _ => True) (okp := fun _ => True) rfl (fun _ hk => hk) trivial (of_decide_eq_true zc_) (Nat.le_trans (Nat.mul_le_mul_right _ (of_decide_eq_true zc_ : ji3.toNat ≤ 35184372088832)) (by omega)) (Below.refl _ _) (Nat.le_refl _) ?_
      intro v246 w10 ho11 hb hg_ hnew_
      clear hg_ hnew_; (first | rw [← Ny245.out] at ho11 | (simp only [Int.reduceToNat] at ho11; rw [← Ny245.out] at ho11)); have n_ := z (Kd.R_lower ho11 (below_size zec_)) <| z (blk_below (zb BK243.out) hb) <| z (blk_below (zb BK244.out) hb) <| z (blk_below (zb BK248.out) hb) <| z1 (below_step zec_ hb)
      clear BK243 BK244 BK248 HB; obtain ⟨HO247, BK243, BK244, BK248, HB⟩ := n_; clear hb ho11; obtain ⟨Ao12, co12, eo12⟩ := Kd.R_slice HO247.out; (first | subst eo12 | (injection eo12 with f1_ f2_ f3_; have f4_ := f1_.symm; have f5_ := f3_.symm; clear f1_ f2_ f3_; subst f4_; subst f5_))
      refine hK.out _ _ ⟨(blk_cell BK243.out 0).trans rfl, (blk_cell BK243.out 1).trans rfl, (blk_cell BK243.out 2).trans rfl⟩ (fun hHeld => ?_)
      clear hK K
      refine norm_ (a' := ?_) ?_ ?_
      rotate_left
      ·show Act.put _ (some 10) _ = _
       simp only [Act.put, sI, s0, sS, i64_w, i32_w]
       rfl
      refine py_ 6 11 HT_.out ?_
      exact norm_ (by simp only [putAll, Act.put, sI, s0, sS]) (hCont (.slice Ao12 y245.length co12, gb248) _ ⟨hHeld, (zr HO247.out), (zb BK243.out), (zb BK244.out), (zb BK248.out), GW248.out, GE248.out, NB243_248.out, NB248_243.out, NB244_248.out, NB248_244.out, zec_⟩)
    rintro ⟨v246, gb248⟩ w13 ⟨hS_, h0_, h1_, h2_, h3_, h4_, h5_, h6_, h7_, h8_, h9_, h10_⟩
    have n0_ : Aside0 (Kd.R (Kd.int .i64) 3 w13 w.heap.size (fun _ => True) v246 y245) := ⟨h0_⟩; have n1_ : Aside0 (w13.heap[gb243]? = some (.cells #[.int .i64 a0_0, .slice A0_1 l0_1.length c0_1, .int .i64 a0_2] 28 (0, 0))) := ⟨h1_⟩; have n2_ : Aside0 (w13.heap[gb244]? = some (.cells #[.int .i64 0, .slice none 0 0] 41 (0, 0))) := ⟨h2_⟩; have n3_ : Aside0 (w13.heap[gb248]? = some (.cells #[.int .i64 0, .slice none 0 0] 41 (0, 0))) := ⟨h3_⟩; have n4_ : Aside0 (w.heap.size ≤ gb248) := ⟨h4_⟩; have n5_ : Aside0 (w.heap.size ≤ gb248) := ⟨h5_⟩; have n6_ : Aside0 (gb243 ≠ gb248) := ⟨h6_⟩; have n7_ : Aside0 (gb248 ≠ gb243) := ⟨h7_⟩; have n8_ : Aside0 (gb244 ≠ gb248) := ⟨h8_⟩; have n9_ : Aside0 (gb248 ≠ gb244) := ⟨h9_⟩; have n10_ : Aside0 (Below w.heap.size w w13) := ⟨h10_⟩; clear BK243 BK244 HB h0_ h1_ h2_ h3_ h4_ h5_ h6_ h7_ h8_ h9_ h10_; have HO247 := n0_; have BK243 := n1_; have BK244 := n2_; have BK248 := n3_; have GW248 := n4_; have GE248 := n5_; have NB243_248 := n6_; have NB248_243 := n7_; have NB244_248 := n8_; have NB248_244 := n9_; have HB := n10_; clear n0_ n1_ n2_ n3_ n4_ n5_ n6_ n7_ n8_ n9_ n10_; have hHeld : w13.cell? ⟨gb243, 0, none⟩ = some (.int .i64 a0_0) ∧ w13.cell? ⟨gb243, 1, none⟩ = some (.slice A0_1 l0_1.length c0_1) ∧ w13.cell? ⟨gb243, 2, none⟩ = some (.int .i64 a0_2) := hS_; obtain ⟨Ao14, co14, eo14⟩ := Kd.R_slice HO247.out; (first | subst eo14 | (injection eo14 with f1_ f2_ f3_; have f4_ := f1_.symm; have f5_ := f3_.symm; clear f1_ f2_ f3_; subst f4_; subst f5_))
    refine norm_ (a' := ?_) ?_ ?_
    rotate_left
    ·simp only [putAll, Act.put, sI, s0, sS]
     rfl
    refine one_ (i := 8) (N := none) #[ti,ti,ti,ti,ti,ti,ti,ti,ti] rfl rfl (one_of HT_.out (by kernel_rfl)) (by decide) (fun K hK => ?_)
    have hs15 : w13.cell? ⟨gb248, 0, none⟩ = some (.int .i64 0) := (blk_cell BK248.out 0).trans rfl; have hfs15 := blk_frozen BK248.out 0; have hns15_0 := NB243_248.out; have hns15_1 := NB244_248.out; have hms15_0 := NB248_243.out; have hms15_1 := NB248_244.out; have hs16 : w13.cell? ⟨gb248, 1, none⟩ = some (.slice none 0 0) := (blk_cell BK248.out 1).trans rfl; have hfs16 := blk_frozen BK248.out 1; have hns16_0 := NB243_248.out; have hns16_1 := NB244_248.out; have hms16_0 := NB248_243.out; have hms16_1 := NB248_244.out
    refine skip_ (w1 := ?_) (by rfl) rfl ?_ ?_
    rotate_left
    ·go_simp
     rfl
    refine hK.out _ _ ⟨((cell_far (p := ⟨gb248, _, none⟩) NB243_248.out _).trans (((cell_far (p := ⟨gb248, _, none⟩) NB243_248.out _).trans (hHeld.1)))), ((cell_far (p := ⟨gb248, _, none⟩) NB243_248.out _).trans (((cell_far (p := ⟨gb248, _, none⟩) NB243_248.out _).trans (hHeld.2.1)))), ((cell_far (p := ⟨gb248, _, none⟩) NB243_248.out _).trans (((cell_far (p := ⟨gb248, _, none⟩) NB243_248.out _).trans (hHeld.2.2))))⟩ (fun hHeld => ?_)
    clear hK K
    refine done_ (done_of HT_.out (by kernel_rfl)) ?_
    have hnb17 := NB248_243.out; have hnc17 := NB243_248.out; have hnb18 := NB248_244.out; have hnc18 := NB244_248.out; have hcz19_0 : w13.cell? ⟨gb248, 0, none⟩ = some (.int .i64 0) := (blk_cell BK248.out 0).trans rfl; have hcz19_1 : w13.cell? ⟨gb248, 1, none⟩ = some (.slice none 0 0) := (blk_cell BK248.out 1).trans rfl; have hfz19_0 := blk_frozen BK248.out 0; have hfz19_1 := blk_frozen BK248.out 1; (try go_wp2)
    go_loopg [15] k (fun kq v15 w' => ∃ (x15_1 : Int) (x249001_1 : List Int) (u249001 : Value), v15 = .int .i64 x15_1 ∧ Aside0 (impl_tableOfDiagram.l0 kq (y245.length : Int) x15_1 a0_0 l0_1 a0_2 a0_0 x249001_1 = some (r1, r2)) ∧ Aside0 (kq ≤ k) ∧ Aside0 (Kd.R (Kd.int .i64) 3 w' w.heap.size (fun _ => True) u249001 x249001_1) ∧ Aside0 (w'.heap[gb243]? = some (.cells #[.int .i64 a0_0, (.slice A0_1 l0_1.length c0_1), .int .i64 a0_2] 28 (0, 0))) ∧ Aside0 (w'.heap[gb244]? = some (.cells #[.int .i64 0, (.slice none 0 0)] 41 (0, 0))) ∧ Aside0 (w'.heap[gb248]? = some (.cells #[.int .i64 a0_0, u249001] 41 (0, 0))) ∧ Aside0 (Below w.heap.size w w'))
    case atStart => exact ⟨(0), (y245), (.slice Ao14 y245.length co14), ze_, H', ⟨Nat.le_refl _⟩, ⟨by refine zr ?_; exact Kd.R_mono (Kd.R_far (p := ⟨gb248, 1, none⟩) (Kd.R_far (p := ⟨gb248, 0, none⟩) (Kd.R_types HO247.out BK248.out (by decide)) (fun _ hk => hk.2) (.int .i64 a0_0)) (fun _ hk => hk.2) (.slice Ao14 y245.length co14)) (fun _ hk => trivial)⟩, ⟨by refine zb ?_; refine blk_far ?_ NB243_248.out _; refine zb ?_; refine blk_far ?_ NB243_248.out _; refine zb ?_; exact BK243.out⟩, ⟨by refine zb ?_; refine blk_far ?_ NB244_248.out _; refine zb ?_; refine blk_far ?_ NB244_248.out _; refine zb ?_; exact BK244.out⟩, ⟨by refine zb ?_; refine blk_put (cs := #[.int .i64 a0_0, .slice none 0 0]) ?_ 1 _ rfl; refine zb ?_; refine blk_put (cs := #[.int .i64 0, .slice none 0 0]) ?_ 0 _ rfl; refine zb ?_; exact BK248.out⟩, ⟨zec_⟩⟩
    case round =>
     clear H'; (try clear c2b0); (try clear c2b1); (try clear c4b0); (try clear c4b1); (try clear c5b0); (try clear c5b1); (try clear hcz19_0); (try clear hcz19_1); (try clear hfz19_0); (try clear hfz19_1); obtain ⟨x15_1, x249001_1, u249001, rfl, HA, HK1, HO_249001, BK243, BK244, BK248, HB⟩ := hrel
     cases gk with
     | zero => exact absurd HA.out (by simp [impl_tableOfDiagram.l0])
     | succ k1 =>
      have H := HA.out; clear HA
      simp only [impl_tableOfDiagram.l0] at H
      by_cases c20 : x15_1 < (y245.length : Int)
      ·rw [if_pos c20] at H
       have c20b0 := decide_eq_true c20; clear c20; replace H := oB.mp H; obtain ⟨t249, A210, H⟩ := H; replace H : ((impl_diagramValue.f k1 a0_0 l0_1 a0_2 t249).bind fun t252 => (if 0 ≤ x15_1 then (if x15_1 < (x249001_1.length : Int) then (impl_tableOfDiagram.l0 k1 (y245.length : Int) (wrap64 (x15_1 + 1)) a0_0 l0_1 a0_2 a0_0 (x249001_1.set (x15_1 : Int).toNat t252)) else (none)) else (none))) = some (r1, r2) := H; have A21 := aM A210; clear A210; replace H := oB.mp H; obtain ⟨t252, A220, H⟩ := H; replace H : (if 0 ≤ x15_1 then (if x15_1 < (x249001_1.length : Int) then (impl_tableOfDiagram.l0 k1 (y245.length : Int) (wrap64 (x15_1 + 1)) a0_0 l0_1 a0_2 a0_0 (x249001_1.set (x15_1 : Int).toNat t252)) else (none)) else (none)) = some (r1, r2) := H; have A22 := aM A220; clear A220
       by_cases c23 : 0 ≤ x15_1
       ·rw [if_pos c23] at H
        have c23b0 := decide_eq_true c23; clear c23
        by_cases c24 : x15_1 < (x249001_1.length : Int)
        ·rw [if_pos c24] at H
         have c24b0 := decide_eq_true c24; clear c24; obtain ⟨y253, hy253⟩ : ∃ y_ : List Int, y_ = (x249001_1.set (x15_1 : Int).toNat t252) := ⟨_, rfl⟩; replace H : (impl_tableOfDiagram.l0 k1 (y245.length : Int) (wrap64 (x15_1 + 1)) a0_0 l0_1 a0_2 a0_0 y253) = some (r1, r2) := by first | (rw [hy253]; with_reducible exact H) | (have H2_ := (oS _ _).symm.trans H; rw [hy253]; with_reducible exact H2_) | (have H2_ := (oS _ _).symm.trans H; with_reducible exact H2_) | with_reducible exact H | (rw [hy253]; exact H) | exact H
         have Ny253 := aM hy253; clear hy253; have H' := aM H; clear H; (try go_wp2); have n_ := z (kD HO_249001.out) <| z (blk_drew BK243.out) <| z (blk_drew BK244.out) <| z (blk_drew BK248.out) <| z1 (p1 HB.out)
         clear HO_249001 BK243 BK244 BK248 HB; obtain ⟨HO_249001, BK243, BK244, BK248, HB⟩ := n_
         refine start_ (n := 11) (S := fun w' => w'.cell? ⟨gb248, 0, none⟩ = some (.int .i64 a0_0) ∧ w'.cell? ⟨gb248, 1, none⟩ = some (u249001) ∧ w'.cell? ⟨gb243, 0, none⟩ = some (.int .i64 a0_0) ∧ w'.cell? ⟨gb243, 1, none⟩ = some (.slice A0_1 l0_1.length c0_1) ∧ w'.cell? ⟨gb243, 2, none⟩ = some (.int .i64 a0_2)) (ds := [10]) #[fi,fi,fi,fi,fi,fi,fi,fi,fi,fi,fi] (by kernel_rfl) rfl rfl ⟨(blk_cell BK248.out 0).trans rfl, (blk_cell BK248.out 1).trans rfl, (blk_cell BK243.out 0).trans rfl, (blk_cell BK243.out 1).trans rfl, (blk_cell BK243.out 2).trans rfl⟩ (fun hHeld => ?_); refine with_tabW impl_tableOfDiagram.tab5 impl_tableOfDiagram.bits5 (fun HT_ HW_ => ?_)
         generalize wr.drew = w26 at HO_249001 BK243 BK244 BK248 HB hHeld ⊢; refine py_ 0 18 HT_.out ?_; refine py_ 2 20 HT_.out ?_; refine py_ 4 22 HT_.out ?_; refine py_ 5 23 HT_.out ?_
         refine take_ (i := 1) (N := some 19) (v := ?_) (a' := ?_) #[ti,ti,ti,fi,ti,ti,fi,fi,fi,fi,fi] rfl rfl (take_ofW HT_.out HW_.out (by kernel_rfl)) (fun _ _ _ h => h) (Or.inl ⟨by rfl, ?_⟩) hHeld ?_ ?_
         rotate_left
         ·rintro w' ⟨s0, s1, s2, s3, s4⟩
          go_simp
          with_reducible rfl
         rotate_left
         ·simp only [Act.put, sI, s0, sS, i64_w, i32_w]
          rfl
         refine take_ (i := 3) (N := some 21) (v := ?_) (a' := ?_) #[ti,ti,ti,ti,ti,ti,fi,fi,fi,fi,fi] rfl rfl (take_ofW HT_.out HW_.out (by kernel_rfl)) (fun _ _ _ h => h) (Or.inl ⟨by rfl, ?_⟩) hHeld ?_ ?_
         rotate_left
         ·rintro w' ⟨s0, s1, s2, s3, s4⟩
          go_simp
          with_reducible rfl
         rotate_left
         ·simp only [Act.put, sI, s0, sS, i64_w, i32_w]
          rfl
         refine take_ (i := 6) (N := some 24) (v := ?_) (a' := ?_) #[ti,ti,ti,ti,ti,ti,ti,fi,fi,fi,fi] rfl rfl (take_ofW HT_.out HW_.out (by kernel_rfl)) (fun _ _ _ h => h) (Or.inl ⟨by rfl, ?_⟩) hHeld ?_ ?_
         rotate_left
         ·rintro w' ⟨s0, s1, s2, s3, s4⟩
          go_simp
          with_reducible rfl
         rotate_left
         ·simp only [Act.put, sI, s0, sS, i64_w, i32_w]
          rfl
         refine one_ (i := 7) (N := some 25) #[ti,ti,ti,ti,ti,ti,ti,ti,fi,fi,fi] rfl rfl (one_of HT_.out (by kernel_rfl)) (by decide) (fun K hK => ?_)
         refine goes_ Try.func108 (by kernel_rfl) rfl #[.int .i64 x15_1, .int .i64 a0_0] (by rfl) rfl rfl zd_ ?_
         with_reducible refine (impl_bitList.calls k1 x15_1 a0_0 t249 _ A21.out).mono ?_
         rintro e w27 ⟨v250, rfl, ho0, hb⟩
         refine ⟨_, rfl, ?_⟩
         have n_ := z (Kd.R_elder' (zr HO_249001.out) (Kd.R_base ho0) hb) <| z (Kd.R_lower (Kd.R_new' ho0 (Kd.R_lt (zr HO_249001.out))) (below_size zec_)) <| z (blk_below (zb BK243.out) hb) <| z (blk_below (zb BK244.out) hb) <| z (blk_below (zb BK248.out) hb) <| z1 (below_step zec_ hb)
         clear HO_249001 BK243 BK244 BK248 HB; obtain ⟨HO_249001, HO251, BK243, BK244, BK248, HB⟩ := n_; (try clear hb); (try clear hb2); (try clear hk); (try clear hi); (try clear ho0); obtain ⟨Ao28, co28, eo28⟩ := Kd.R_slice HO251.out; (first | subst eo28 | (injection eo28 with f1_ f2_ f3_; have f4_ := f1_.symm; have f5_ := f3_.symm; clear f1_ f2_ f3_; subst f4_; subst f5_))
         refine hK.out _ _ ⟨(blk_cell BK248.out 0).trans rfl, (blk_cell BK248.out 1).trans rfl, (blk_cell BK243.out 0).trans rfl, (blk_cell BK243.out 1).trans rfl, (blk_cell BK243.out 2).trans rfl⟩ (fun hHeld => ?_)
         clear hK K
         refine norm_ (a' := ?_) ?_ ?_
         rotate_left
         ·show Act.put _ (some 25) _ = _
          simp only [Act.put, sI, s0, sS, i64_w, i32_w]
          rfl
         refine one_ (i := 8) (N := some 26) #[ti,ti,ti,ti,ti,ti,ti,ti,ti,fi,fi] rfl rfl (one_of HT_.out (by kernel_rfl)) (by decide) (fun K hK => ?_)
         refine goes_ Try.func107 (by kernel_rfl) rfl #[.agg #[.int .i64 a0_0, .slice A0_1 l0_1.length c0_1, .int .i64 a0_2], .slice Ao28 t249.length co28] (by rfl) rfl rfl zd_ ?_
         with_reducible refine (impl_diagramValue.calls k1 a0_0 _ _ l0_1 a0_2 _ _ t249 t252 _ ?side1 ?side2 ?side3 ?side4 A22.out).mono ?_
         (case side1 => exact zbj_)
         (case side2 => exact HC0_1.out)
         (case side3 => repeat (first | exact (Kd.R_reads' HO251.out).2.2 | (with_reducible refine cA ?_ _) | (with_reducible refine cN ?_ _) | (with_reducible refine cD ?_)))
         (case side4 => exact (Kd.R_reads' HO251.out).2.1)
         rintro e w29 ⟨rfl, hb⟩
         refine ⟨_, rfl, ?_⟩
         have n_ := z (Kd.R_below (zr HO_249001.out) hb) <| z (Kd.R_below (zr HO251.out) hb) <| z (blk_below (zb BK243.out) hb) <| z (blk_below (zb BK244.out) hb) <| z (blk_below (zb BK248.out) hb) <| z1 (below_step zec_ hb)
         clear HO_249001 HO251 BK243 BK244 BK248 HB; obtain ⟨HO_249001, HO251, BK243, BK244, BK248, HB⟩ := n_; (try clear hb); (try clear hb2); (try clear hk); (try clear hi); have p25 : 0 ≤ (x15_1 : Int) := of_decide_eq_true zc_; have q25 : (x15_1 : Int) < ((x249001_1.length : Int) : Int) := of_decide_eq_true zc_; obtain ⟨go25, co25, eo25, gb25, gl25, cl25, HG25⟩ := Kd.R_form HO_249001.out (by omega); (first | cases eo25 | (injection eo25 with ea_ en_ ec_; (first | subst ea_ | (injection ea_ with ea_; subst ea_)); subst ec_; clear en_)); have GB25 := aM gb25; have GG25 := aM HG25; clear gb25 gl25 HG25; obtain ⟨hx25_0, hf25_0⟩ := Kd.R_celln 0 HO_249001.out (x15_1 : Int) p25 q25; replace p25 := eq_true p25; replace q25 := eq_true q25; have HP30 := Kd.R_putn HO_249001.out (x15_1 : Int) t252; rw [← Ny253.out] at HP30; have HQ30 := aM HP30; clear HP30
         refine hK.out _ _ ⟨(blk_cell BK248.out 0).trans rfl, (blk_cell BK248.out 1).trans rfl, (blk_cell BK243.out 0).trans rfl, (blk_cell BK243.out 1).trans rfl, (blk_cell BK243.out 2).trans rfl⟩ (fun hHeld => ?_)
         clear hK K
         refine norm_ (a' := ?_) ?_ ?_
         rotate_left
         ·show Act.put _ (some 26) _ = _
          simp only [Act.put, sI, s0, sS, i64_w, i32_w]
          rfl
         refine py_ 9 27 HT_.out ?_
         refine last_ (i := 10) (N := none) #[ti,ti,ti,ti,ti,ti,ti,ti,ti,ti,ti] rfl rfl (one_of HT_.out (by kernel_rfl)) (by decide) (fun K hK => ?_)
         refine skip_ (w1 := ?_) (by rfl) rfl ?_ ?_
         rotate_left
         ·go_simp
          rfl
         refine hK.out _ _ ?_
         clear hK K
         refine done_ (done_of HT_.out (by kernel_rfl)) ?_
         (try go_wp2)
         go_roundg k1
         case measure => have := HK1.out; omega
         case rel => exact ⟨(wrap64 (x15_1 + 1)), (y253), (.slice (some ⟨go25, 0, none⟩) x249001_1.length co25), ze_, H', ⟨zci_⟩, ⟨by refine zr ?_; exact Kd.R_mono HQ30.out (fun _ hk => trivial)⟩, ⟨by refine zb ?_; refine blk_far ?_ (by have h_ := Kd.R_ne HO_249001.out BK243.out (by decide); intro e_; exact h_ (by rw [e_]; rfl)) _; refine zb ?_; exact BK243.out⟩, ⟨by refine zb ?_; refine blk_far ?_ (by have h_ := Kd.R_ne HO_249001.out BK244.out (by decide); intro e_; exact h_ (by rw [e_]; rfl)) _; refine zb ?_; exact BK244.out⟩, ⟨by refine zb ?_; refine blk_far ?_ (by have h_ := Kd.R_ne HO_249001.out BK248.out (by decide); intro e_; exact h_ (by rw [e_]; rfl)) _; refine zb ?_; exact BK248.out⟩, ⟨by repeat (first | (with_reducible first | exact HB.out | apply pA | apply pN | apply p1 | refine below_set ?_ GB25.out | refine below_set ?_ GE243.out | refine below_set ?_ GE244.out | refine below_set ?_ GE248.out) | exact HB.out)⟩⟩
        ·rw [if_neg c24] at H
         exact absurd H (by simp)
       ·rw [if_neg c23] at H
        exact absurd H (by simp)
      ·rw [if_neg c20] at H
       have c20b0 := decide_eq_false c20; clear c20
       simp only [Option.some.injEq, Prod.mk.injEq] at H
       obtain ⟨rfl, rfl⟩ := H; have hnb31 := NB248_243.out; have hnc31 := NB243_248.out; have hnb32 := NB248_244.out; have hnc32 := NB244_248.out; have hcz33_0 : wr.cell? ⟨gb248, 0, none⟩ = some (.int .i64 a0_0) := (blk_cell BK248.out 0).trans rfl; have hcz33_1 : wr.cell? ⟨gb248, 1, none⟩ = some (u249001) := (blk_cell BK248.out 1).trans rfl; have hfz33_0 := blk_frozen BK248.out 0; have hfz33_1 := blk_frozen BK248.out 1; have hnb34 := NB244_243.out; have hnc34 := NB243_244.out; have hcz35_0 : wr.cell? ⟨gb244, 0, none⟩ = some (.int .i64 0) := (blk_cell BK244.out 0).trans rfl; have hcz35_1 : wr.cell? ⟨gb244, 1, none⟩ = some (.slice none 0 0) := (blk_cell BK244.out 1).trans rfl; have hfz35_0 := blk_frozen BK244.out 0; have hfz35_1 := blk_frozen BK244.out 1; obtain ⟨Ao36, co36, eo36⟩ := Kd.R_slice HO_249001.out; subst eo36
       go_wp2
       refine bodyPost_ret (results_cell_row rfl _ _ gb244 41 #[.int .i64 a0_0, .slice Ao36 x249001_1.length co36] (0, 0) _ rfl (by refine zb ?_; refine blk_put (cs := #[.int .i64 a0_0, .slice none 0 0]) ?_ 1 _ rfl; refine zb ?_; refine blk_put (cs := #[.int .i64 0, .slice none 0 0]) ?_ 0 _ rfl; refine zb ?_; exact BK244.out) Try.underlying41 rfl (by kernel_rfl)) rfl ?_
       exact ⟨_, by first | rfl | (simp [errW_none, errW_some] <;> rfl) | (simp only [← hji3]; first | rfl | (simp [errW_none, errW_some] <;> rfl)) | (simp [*, errW_none, errW_some] <;> rfl), by refine zr ?_; exact Kd.R_mono (Kd.R_far (p := ⟨gb244, 1, none⟩) (Kd.R_far (p := ⟨gb244, 0, none⟩) (Kd.R_types HO_249001.out BK244.out (by decide)) (fun _ hk => hk.2) (.int .i64 a0_0)) (fun _ hk => hk.2) (.slice Ao36 x249001_1.length co36)) (fun _ hk => trivial), zec_⟩
   ·rw [if_neg c5] at H
    exact absurd H (by simp)
  ·rw [if_neg c4] at H
   exact absurd H (by simp)
 ·rw [if_neg c2] at H
  exact absurd H (by simp)
end Go.Proofs.Ytlnhpkjioppbiaa.QFnExactCombineDiagrams
