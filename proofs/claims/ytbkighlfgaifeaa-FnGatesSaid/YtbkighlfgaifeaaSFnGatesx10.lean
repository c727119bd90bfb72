/- Functions of FnGates, each as a Lean function, with the proof that the Go code comes to its answers. -/
import Derived.Test.YtbkighlfgaifeaaSFnGatesx0
import Derived.Test.YtbkighlfgaifeaaSFnGatesx5
import Derived.Test.YtbkighlfgaifeaaSFnGatesx8
import Derived.Test.YtbkighlfgaifeaaSFnGatesx9
namespace Go.Proofs.Ytbkighlfgaifeaa.QFnGates
open Go.RowKit Go.Proofs.YtbkighlfgaifeaaW.PrintWords Go.Proofs.YtbkighlfgaifeaaW.PrintLast Go.Proofs.YtbkighlfgaifeaaW.PrintMore
open Go.Proofs.YtbkighlfgaifeaaW.PrintWords renaming pw_below_drewN → pN, below_drew1 → p1, below_alloc → pA
open Go.Proofs.YtbkighlfgaifeaaW.PrintWords.Kd renaming R_alloc → kA, R_drewN → kN, R_drew → kD, Q_alloc → qA, Q_drewN → qN, Q_drew → qD, C_alloc → cA, C_drewN → cN, C_drew → cD
open Go.Proofs.YtbkighlfgaifeaaW.PrintWords.Aside0 renaming mk → aM
open List renaming setIfInBounds_toArray → sI, set_cons_zero → s0, set_cons_succ → sS, map_toArray → mT, length_take → lT, length_drop → lD, map_cons → mC, map_nil → mN
open Option renaming bind_eq_some_iff → oB, bind_some → oS
attribute [local go_sem] max2_int min2_int max_two min_two max_three min_three max_four min_four
set_option maxHeartbeats 8000000
set_option maxRecDepth 100000
set_option linter.unusedVariables false
set_option linter.unusedSimpArgs false
mutual
def spec_EqualGates.l0 : Nat → List (List Int) → Int → Int → Int → List (S57) → List Int → Option ((List (List Int)) × Bool)
 | 0, _, _, _, _, _, _ => none
 | k + 1, x4, x12, x13, x286000, x286001, x286002 => if x13 < x12 then (spec_EqualGates.l1 k x4 x13 (wrap64 (x13 + 1)) x12 x13 x286000 x286001 x286002) else (some (x4, true))
def spec_EqualGates.l1 : Nat → List (List Int) → Int → Int → Int → Int → Int → List (S57) → List Int → Option ((List (List Int)) × Bool)
 | 0, _, _, _, _, _, _, _, _ => none
 | k + 1, x4, x5, x6, x12, x13, x286000, x286001, x286002 => if x6 < (x286001.length : Int) then ((spec_ciTable.f k x286000 x286001 x286002 (wrap64 (x286000 + x5))).bind fun bt287 => ((spec_ciTable.f k x286000 x286001 x286002 (wrap64 (x286000 + x6))).bind fun bt291 => ((spec_l1Same.f k bt287.2 bt291.2).bind fun t295 => (if t295 = true then (if x4.length < 5864062014805 then (spec_EqualGates.l1 k (x4 ++ [(([x5, x6] : List Int))]) x5 (wrap64 (x6 + 1)) x12 x13 x286000 x286001 x286002) else (none)) else (spec_EqualGates.l1 k x4 x5 (wrap64 (x6 + 1)) x12 x13 x286000 x286001 x286002))))) else (spec_EqualGates.l0 k x4 x12 (wrap64 (x13 + 1)) x286000 x286001 x286002)
end
def spec_EqualGates.f (k : Nat) (a0_0 : Int) (l0_1 : List (S57)) (l0_2 : List Int) : Option ((List (List Int)) × Bool) := (spec_ciGood.f k a0_0 l0_1 l0_2).bind fun t286 => (if t286 = true then (spec_EqualGates.l0 k ([] : List (List Int)) (l0_1.length : Int) 0 a0_0 l0_1 l0_2) else (some (([] : List (List Int)), false)))
def spec_EqualGates.T10 : Bool × List (List Nat × List Nat) := (true, [([], []), ([], []), ([1], [1]), ([], []), ([2, 3], [2, 3]), ([0, 4], [0, 4]), ([5], [5]), ([], []), ([], []), ([8], [8]), ([], []), ([9, 10], [9, 10]), ([7, 11, 5], [7, 11]), ([12], [12]), ([6, 13, 12], [6, 13])])
def spec_EqualGates.B10 : List Nat := [0, 0, 2, 0, 14, 31, 63, 0, 0, 256, 0, 1792, 4031, 8127, 16383]
theorem spec_EqualGates.tab10 : rtab .any (opsOf Try.f30 10) = spec_EqualGates.T10 := by kernel_rfl
theorem spec_EqualGates.bits10 : waitsOk spec_EqualGates.T10.2 spec_EqualGates.B10 = true := by kernel_rfl
theorem spec_EqualGates.calls (k : Nat) (a0_0 : Int) (A0_1 : Option Addr) (c0_1 : Nat) (l0_1 : List (S57)) (A0_2 : Option Addr) (c0_2 : Nat) (l0_2 : List Int) (r1 : List (List Int)) (r2 : Bool) (w : World) (hr0_1 : Kd.C k57 w A0_1 l0_1.length l0_1) (hc0_1 : l0_1.length ≤ c0_1) (hr0_2 : Kd.C (Kd.int .i64) w A0_2 l0_2.length l0_2) (hc0_2 : l0_2.length ≤ c0_2) (h : spec_EqualGates.f k a0_0 l0_1 l0_2 = some (r1, r2)) :
  Calls Try.prog 30 #[.agg #[.int .i64 a0_0, .slice A0_1 l0_1.length c0_1, .slice A0_2 l0_2.length c0_2]] w fun e w' => ∃ v0_ : Value, e = .returned (.tuple #[v0_, .bool r2]) ∧ Kd.S (Kd.slice 3 (Kd.int .i64)) 24 w' w.heap.size (fun _ => True) v0_ r1 ∧ Below w.heap.size w w' := by
 have hfd60_0 : ∀ (x0 : Int) (v1 : Value) (w : World), (Instr.field 60 (.agg #[.int .i64 x0, v1]) 0).run Try.prog w = .ok (.int .i64 x0) w := fun _ _ _ => by kernel_rfl
 have hfd60_1 : ∀ (x0 : Int) (v1 : Value) (w : World), (Instr.field 60 (.agg #[.int .i64 x0, v1]) 1).run Try.prog w = .ok (v1) w := fun _ _ _ => by kernel_rfl
 have hu49 := Try.underlying49
 have HR0_1 := aM hr0_1
 have HC0_1 := aM hc0_1
 clear hr0_1 hc0_1
 have HR0_2 := aM hr0_2
 have HC0_2 := aM hc0_2
 clear hr0_2 hc0_2
 have HB := aM (Below.refl w.heap.size w)
 have H : ((spec_ciGood.f k a0_0 l0_1 l0_2).bind fun t286 => (if t286 = true then (spec_EqualGates.l0 k ([] : List (List Int)) (l0_1.length : Int) 0 a0_0 l0_1 l0_2) else (some (([] : List (List Int)), false)))) = some (r1, r2) := h
 clear h
 replace H := oB.mp H
 obtain ⟨t286, A20, H⟩ := H
 replace H : (if t286 = true then (spec_EqualGates.l0 k ([] : List (List Int)) (l0_1.length : Int) 0 a0_0 l0_1 l0_2) else (some (([] : List (List Int)), false))) = some (r1, r2) := H
 have A2 := aM A20
 clear A20
 by_cases c3 : t286 = true
 ·subst c3
  have H1 : (spec_EqualGates.l0 k ([] : List (List Int)) (l0_1.length : Int) 0 a0_0 l0_1 l0_2) = some (r1, r2) := by rw [if_pos rfl] at H; exact H
  clear H; have H := H1; clear H1; have H' := aM H; clear H
  go_enter Try.func30, Try.ntmps30
  go_wp2_with (first | ((with_reducible refine gate_dst (N := 1) rfl ?_); refine box_event ?hg (N := 1) ?hd (cs := #[.int .i64 a0_0, .slice A0_1 l0_1.length c0_1, .slice A0_2 l0_2.length c0_2]) (t := 49) ?hr ?_; (case hd => rfl); (case hg => rfl); (case hr => exact zc_); intro gb285 hg w4 hbox hb; have n_ := z (below_step zb_ hb) <| z (hbox) <| z ((by rw [hg]; exact (below_size zb_) : w.heap.size ≤ gb285)) <| z1 ((by rw [hg]; exact (below_size zb_) : w.heap.size ≤ gb285)); clear HB; obtain ⟨HB, BK285, GW285, GE285⟩ := n_; clear hb hbox hg; have hcz5_0 : w4.cell? ⟨gb285, 0, none⟩ = some (.int .i64 a0_0) := (blk_cell BK285.out 0).trans rfl; have hcz5_1 : w4.cell? ⟨gb285, 1, none⟩ = some (.slice A0_1 l0_1.length c0_1) := (blk_cell BK285.out 1).trans rfl; have hcz5_2 : w4.cell? ⟨gb285, 2, none⟩ = some (.slice A0_2 l0_2.length c0_2) := (blk_cell BK285.out 2).trans rfl; have hfz5_0 := blk_frozen BK285.out 0; have hfz5_1 := blk_frozen BK285.out 1; have hfz5_2 := blk_frozen BK285.out 2) | ((with_reducible refine gate_callee (f := 119) rfl ?_); refine goesL_ (some 8) rfl rfl Try.func119 (by kernel_rfl) rfl #[.agg #[.int .i64 a0_0, .slice A0_1 l0_1.length c0_1, .slice A0_2 l0_2.length c0_2]] rfl ze_ ?_; (with_reducible refine (spec_ciGood.calls k a0_0 _ _ l0_1 _ _ l0_2 true _ ?side1 ?side2 ?side3 ?side4 A2.out).mono ?_); (case side1 => exact zg_); (case side2 => exact HC0_1.out); (case side3 => exact zj_); (case side4 => exact HC0_2.out); rintro e w6 ⟨rfl, hb⟩; refine ⟨_, rfl, ?_⟩; have n_ := z (blk_below (zb BK285.out) hb) <| z1 (below_step zbi_ hb); clear BK285 HB; obtain ⟨BK285, HB⟩ := n_; clear hb; have hcz7_0 : w6.cell? ⟨gb285, 0, none⟩ = some (.int .i64 a0_0) := (blk_cell BK285.out 0).trans rfl; have hcz7_1 : w6.cell? ⟨gb285, 1, none⟩ = some (.slice A0_1 l0_1.length c0_1) := (blk_cell BK285.out 1).trans rfl; have hcz7_2 : w6.cell? ⟨gb285, 2, none⟩ = some (.slice A0_2 l0_2.length c0_2) := (blk_cell BK285.out 2).trans rfl; have hfz7_0 := blk_frozen BK285.out 0; have hfz7_1 := blk_frozen BK285.out 1; have hfz7_2 := blk_frozen BK285.out 2))
  go_loopg [4, 13] k (fun kq v4 v13 w' => ∃ (x4_1 : List (List Int)) (x13_1 : Int), v13 = .int .i64 x13_1 ∧ Aside0 (spec_EqualGates.l0 kq x4_1 (l0_1.length : Int) x13_1 a0_0 l0_1 l0_2 = some (r1, r2)) ∧ Aside0 (kq ≤ k) ∧ Aside0 (Kd.S (Kd.slice 3 (Kd.int .i64)) 24 w' w.heap.size (fun _ => True) v4 x4_1) ∧ Aside0 (w'.heap[gb285]? = some (.cells #[.int .i64 a0_0, (.slice A0_1 l0_1.length c0_1), (.slice A0_2 l0_2.length c0_2)] 49 (0, 0))) ∧ Aside0 (Below w.heap.size w w'))
  case atStart => exact ⟨(([] : List (List Int))), (0), zd_, H', ⟨Nat.le_refl _⟩, ⟨zjg_⟩, ⟨zb BK285.out⟩, ⟨zbi_⟩⟩
  case round =>
   clear H'; (try clear hcz5_0); (try clear hcz5_1); (try clear hcz5_2); (try clear hcz7_0); (try clear hcz7_1); (try clear hcz7_2); (try clear hfz5_0); (try clear hfz5_1); (try clear hfz5_2); (try clear hfz7_0); (try clear hfz7_1); (try clear hfz7_2); obtain ⟨x4_1, x13_1, rfl, HA, HK1, HO_4, BK285, HB⟩ := hrel
   cases gk with
   | zero => exact absurd HA.out (by simp [spec_EqualGates.l0])
   | succ k1 =>
    have H := HA.out; clear HA
    simp only [spec_EqualGates.l0] at H
    by_cases c8 : x13_1 < (l0_1.length : Int)
    ·rw [if_pos c8] at H
     have c8b0 := decide_eq_true c8; clear c8; have H' := aM H; clear H
     go_wp2
     go_loopg [4, 6] k1 (fun kq v4 v6 w' => ∃ (x4_2 : List (List Int)) (x6_2 : Int), v6 = .int .i64 x6_2 ∧ Aside0 (spec_EqualGates.l1 kq x4_2 x13_1 x6_2 (l0_1.length : Int) x13_1 a0_0 l0_1 l0_2 = some (r1, r2)) ∧ Aside0 (kq ≤ k1) ∧ Aside0 (Kd.S (Kd.slice 3 (Kd.int .i64)) 24 w' w.heap.size (fun _ => True) v4 x4_2) ∧ Aside0 (w'.heap[gb285]? = some (.cells #[.int .i64 a0_0, (.slice A0_1 l0_1.length c0_1), (.slice A0_2 l0_2.length c0_2)] 49 (0, 0))) ∧ Aside0 (Below w.heap.size w w'))
     case atStart => exact ⟨(x4_1), (wrap64 (x13_1 + 1)), zd_, H', ⟨Nat.le_refl _⟩, ⟨zs HO_4.out⟩, ⟨zb BK285.out⟩, ⟨zbi_⟩⟩
     case round =>
      clear H'; (try clear c8b0); obtain ⟨x4_2, x6_2, rfl, HA, HK2, HO_4, BK285, HB⟩ := hrel
      cases gk with
      | zero => exact absurd HA.out (by simp [spec_EqualGates.l1])
      | succ k2 =>
       have H := HA.out; clear HA
       simp only [spec_EqualGates.l1] at H
       by_cases c9 : x6_2 < (l0_1.length : Int)
       ·rw [if_pos c9] at H
        have c9b0 := decide_eq_true c9; clear c9; replace H := oB.mp H; obtain ⟨⟨t287, t288⟩, A100, H⟩ := H; replace H : ((spec_ciTable.f k2 a0_0 l0_1 l0_2 (wrap64 (a0_0 + x6_2))).bind fun bt291 => ((spec_l1Same.f k2 t288 bt291.2).bind fun t295 => (if t295 = true then (if x4_2.length < 5864062014805 then (spec_EqualGates.l1 k2 (x4_2 ++ [(([x13_1, x6_2] : List Int))]) x13_1 (wrap64 (x6_2 + 1)) (l0_1.length : Int) x13_1 a0_0 l0_1 l0_2) else (none)) else (spec_EqualGates.l1 k2 x4_2 x13_1 (wrap64 (x6_2 + 1)) (l0_1.length : Int) x13_1 a0_0 l0_1 l0_2)))) = some (r1, r2) := H; have A10 := aM A100; clear A100; replace H := oB.mp H; obtain ⟨⟨t291, t292⟩, A110, H⟩ := H; replace H : ((spec_l1Same.f k2 t288 t292).bind fun t295 => (if t295 = true then (if x4_2.length < 5864062014805 then (spec_EqualGates.l1 k2 (x4_2 ++ [(([x13_1, x6_2] : List Int))]) x13_1 (wrap64 (x6_2 + 1)) (l0_1.length : Int) x13_1 a0_0 l0_1 l0_2) else (none)) else (spec_EqualGates.l1 k2 x4_2 x13_1 (wrap64 (x6_2 + 1)) (l0_1.length : Int) x13_1 a0_0 l0_1 l0_2))) = some (r1, r2) := H; have A11 := aM A110; clear A110; replace H := oB.mp H; obtain ⟨t295, A120, H⟩ := H; replace H : (if t295 = true then (if x4_2.length < 5864062014805 then (spec_EqualGates.l1 k2 (x4_2 ++ [(([x13_1, x6_2] : List Int))]) x13_1 (wrap64 (x6_2 + 1)) (l0_1.length : Int) x13_1 a0_0 l0_1 l0_2) else (none)) else (spec_EqualGates.l1 k2 x4_2 x13_1 (wrap64 (x6_2 + 1)) (l0_1.length : Int) x13_1 a0_0 l0_1 l0_2)) = some (r1, r2) := H; have A12 := aM A120; clear A120
        by_cases c13 : t295 = true
        ·subst c13
         have H1 : (if x4_2.length < 5864062014805 then (spec_EqualGates.l1 k2 (x4_2 ++ [(([x13_1, x6_2] : List Int))]) x13_1 (wrap64 (x6_2 + 1)) (l0_1.length : Int) x13_1 a0_0 l0_1 l0_2) else (none)) = some (r1, r2) := by rw [if_pos rfl] at H; exact H
         clear H; have H := H1; clear H1; obtain ⟨y296, hy296⟩ : ∃ y_ : List Int, y_ = (([x13_1, x6_2] : List Int)) := ⟨_, rfl⟩; replace H : (if x4_2.length < 5864062014805 then (spec_EqualGates.l1 k2 (x4_2 ++ [y296]) x13_1 (wrap64 (x6_2 + 1)) (l0_1.length : Int) x13_1 a0_0 l0_1 l0_2) else (none)) = some (r1, r2) := by first | (rw [hy296]; with_reducible exact H) | (have H2_ := (oS _ _).symm.trans H; rw [hy296]; with_reducible exact H2_) | (have H2_ := (oS _ _).symm.trans H; with_reducible exact H2_) | with_reducible exact H | (rw [hy296]; exact H) | exact H
         have Ny296 := aM hy296; clear hy296
         by_cases c14 : x4_2.length < 5864062014805
         ·rw [if_pos c14] at H
          have LMc14 := aM c14; clear c14; obtain ⟨y299, hy299⟩ : ∃ y_ : List (List Int), y_ = (x4_2 ++ [y296]) := ⟨_, rfl⟩; replace H : (spec_EqualGates.l1 k2 y299 x13_1 (wrap64 (x6_2 + 1)) (l0_1.length : Int) x13_1 a0_0 l0_1 l0_2) = some (r1, r2) := by first | (rw [hy299]; with_reducible exact H) | (have H2_ := (oS _ _).symm.trans H; rw [hy299]; with_reducible exact H2_) | (have H2_ := (oS _ _).symm.trans H; with_reducible exact H2_) | with_reducible exact H | (rw [hy299]; exact H) | exact H
          have Ny299 := aM hy299; clear hy299; have H' := aM H; clear H; have hcz15_0 : wr.cell? ⟨gb285, 0, none⟩ = some (.int .i64 a0_0) := (blk_cell BK285.out 0).trans rfl; have hcz15_1 : wr.cell? ⟨gb285, 1, none⟩ = some (.slice A0_1 l0_1.length c0_1) := (blk_cell BK285.out 1).trans rfl; have hcz15_2 : wr.cell? ⟨gb285, 2, none⟩ = some (.slice A0_2 l0_2.length c0_2) := (blk_cell BK285.out 2).trans rfl; have hfz15_0 := blk_frozen BK285.out 0; have hfz15_1 := blk_frozen BK285.out 1; have hfz15_2 := blk_frozen BK285.out 2; (try go_wp2); have n_ := z (Kd.S_drew HO_4.out) <| z (blk_drew BK285.out) <| z1 (p1 HB.out)
          clear HO_4 BK285 HB; obtain ⟨HO_4, BK285, HB⟩ := n_
          refine start_ (n := 15) (S := fun w' => w'.cell? ⟨gb285, 0, none⟩ = some (.int .i64 a0_0) ∧ w'.cell? ⟨gb285, 1, none⟩ = some (.slice A0_1 l0_1.length c0_1) ∧ w'.cell? ⟨gb285, 2, none⟩ = some (.slice A0_2 l0_2.length c0_2)) (ds := []) #[fi,fi,fi,fi,fi,fi,fi,fi,fi,fi,fi,fi,fi,fi,fi] (by kernel_rfl) rfl rfl ⟨(blk_cell BK285.out 0).trans rfl, (blk_cell BK285.out 1).trans rfl, (blk_cell BK285.out 2).trans rfl⟩ (fun hHeld => ?_); refine with_tabW spec_EqualGates.tab10 spec_EqualGates.bits10 (fun HT_ HW_ => ?_)
          generalize wr.drew = w16 at HO_4 BK285 HB hHeld ⊢; refine py_ 1 26 HT_.out ?_; refine py_ 3 28 HT_.out ?_; refine py_ 8 33 HT_.out ?_; refine py_ 10 35 HT_.out ?_
          refine take_ (i := 0) (N := some 25) (v := ?_) (a' := ?_) #[ti,ti,fi,ti,fi,fi,fi,fi,ti,fi,ti,fi,fi,fi,fi] rfl rfl (take_ofW HT_.out HW_.out (by kernel_rfl)) (fun _ _ _ h => h) (Or.inl ⟨by rfl, ?_⟩) hHeld ?_ ?_
          rotate_left
          ·rintro w' ⟨s0, s1, s2⟩
           go_simp
           with_reducible rfl
          rotate_left
          ·simp only [Act.put, sI, s0, sS, i64_w, i32_w]
           rfl
          refine take_ (i := 2) (N := some 27) (v := ?_) (a' := ?_) #[ti,ti,ti,ti,fi,fi,fi,fi,ti,fi,ti,fi,fi,fi,fi] rfl rfl (take_ofW HT_.out HW_.out (by kernel_rfl)) (fun _ _ _ h => h) (Or.inl ⟨by rfl, ?_⟩) hHeld ?_ ?_
          rotate_left
          ·rintro w' ⟨s0, s1, s2⟩
           go_simp
           with_reducible rfl
          rotate_left
          ·simp only [Act.put, sI, s0, sS, i64_w, i32_w]
           rfl
          refine py_ 4 29 HT_.out ?_
          refine take_ (i := 7) (N := some 32) (v := ?_) (a' := ?_) #[ti,ti,ti,ti,ti,fi,fi,ti,ti,fi,ti,fi,fi,fi,fi] rfl rfl (take_ofW HT_.out HW_.out (by kernel_rfl)) (fun _ _ _ h => h) (Or.inl ⟨by rfl, ?_⟩) hHeld ?_ ?_
          rotate_left
          ·rintro w' ⟨s0, s1, s2⟩
           go_simp
           with_reducible rfl
          rotate_left
          ·simp only [Act.put, sI, s0, sS, i64_w, i32_w]
           rfl
          refine take_ (i := 9) (N := some 34) (v := ?_) (a' := ?_) #[ti,ti,ti,ti,ti,fi,fi,ti,ti,ti,ti,fi,fi,fi,fi] rfl rfl (take_ofW HT_.out HW_.out (by kernel_rfl)) (fun _ _ _ h => h) (Or.inl ⟨by rfl, ?_⟩) hHeld ?_ ?_
          rotate_left
          ·rintro w' ⟨s0, s1, s2⟩
           go_simp
           with_reducible rfl
          rotate_left
          ·simp only [Act.put, sI, s0, sS, i64_w, i32_w]
           rfl
          refine py_ 11 36 HT_.out ?_
          refine one_ (i := 5) (N := some 30) #[ti,ti,ti,ti,ti,ti,fi,ti,ti,ti,ti,ti,fi,fi,fi] rfl rfl (one_of HT_.out (by kernel_rfl)) (by decide) (fun K hK => ?_)
          refine goes_ Try.func124 (by kernel_rfl) rfl #[.agg #[.int .i64 a0_0, .slice A0_1 l0_1.length c0_1, .slice A0_2 l0_2.length c0_2], .int .i64 (wrap64 (a0_0 + x13_1))] (by rfl) rfl rfl ze_ ?_
          with_reducible refine (spec_ciTable.calls k2 a0_0 _ _ l0_1 _ _ l0_2 (wrap64 (a0_0 + x13_1)) t287 t288 _ ?side1 ?side2 ?side3 ?side4 A10.out).mono ?_
          (case side1 => exact zg_)
          (case side2 => exact HC0_1.out)
          (case side3 => exact zj_)
          (case side4 => exact HC0_2.out)
          rintro e w17 ⟨v289, rfl, ho0, hb⟩
          refine ⟨_, rfl, ?_⟩
          have n_ := z (Kd.S_elder' (zs HO_4.out) (Kd.R_base ho0) hb) <| z (Kd.R_lower ho0 (below_size zbi_)) <| z (blk_below (zb BK285.out) hb) <| z1 (below_step zbi_ hb)
          clear HO_4 BK285 HB; obtain ⟨HO_4, HO290, BK285, HB⟩ := n_; (try clear hb); (try clear hb2); (try clear hk); (try clear hi); (try clear ho0)
          refine hK.out _ _ ⟨(blk_cell BK285.out 0).trans rfl, (blk_cell BK285.out 1).trans rfl, (blk_cell BK285.out 2).trans rfl⟩ (fun hHeld => ?_)
          clear hK K
          refine norm_ (a' := ?_) ?_ ?_
          rotate_left
          ·show Act.put _ (some 30) _ = _
           simp only [Act.put, sI, s0, sS, i64_w, i32_w]
           rfl
          refine py_ 6 31 HT_.out ?_
          refine one_ (i := 12) (N := some 37) #[ti,ti,ti,ti,ti,ti,ti,ti,ti,ti,ti,ti,ti,fi,fi] rfl rfl (one_of HT_.out (by kernel_rfl)) (by decide) (fun K hK => ?_)
          refine goes_ Try.func124 (by kernel_rfl) rfl #[.agg #[.int .i64 a0_0, .slice A0_1 l0_1.length c0_1, .slice A0_2 l0_2.length c0_2], .int .i64 (wrap64 (a0_0 + x6_2))] (by rfl) rfl rfl ze_ ?_
          with_reducible refine (spec_ciTable.calls k2 a0_0 _ _ l0_1 _ _ l0_2 (wrap64 (a0_0 + x6_2)) t291 t292 _ ?side1 ?side2 ?side3 ?side4 A11.out).mono ?_
          (case side1 => exact zg_)
          (case side2 => exact HC0_1.out)
          (case side3 => exact zj_)
          (case side4 => exact HC0_2.out)
          rintro e w18 ⟨v293, rfl, ho0, hb⟩
          refine ⟨_, rfl, ?_⟩
          have n_ := z (Kd.S_elder' (zs HO_4.out) (Kd.R_base ho0) hb) <| z (Kd.R_elder' (zr HO290.out) (Kd.R_base ho0) hb) <| z (Kd.R_lower (Kd.R_new' ho0 (Kd.R_lt (zr HO290.out))) (below_size zbi_)) <| z (blk_below (zb BK285.out) hb) <| z1 (below_step zbi_ hb)
          clear HO_4 HO290 BK285 HB; obtain ⟨HO_4, HO290, HO294, BK285, HB⟩ := n_; (try clear hb); (try clear hb2); (try clear hk); (try clear hi); (try clear ho0); obtain ⟨Ao19, co19, eo19⟩ := Kd.R_slice HO290.out; (first | subst eo19 | (injection eo19 with f1_ f2_ f3_; have f4_ := f1_.symm; have f5_ := f3_.symm; clear f1_ f2_ f3_; subst f4_; subst f5_)); obtain ⟨Ao20, co20, eo20⟩ := Kd.R_slice HO294.out; (first | subst eo20 | (injection eo20 with f1_ f2_ f3_; have f4_ := f1_.symm; have f5_ := f3_.symm; clear f1_ f2_ f3_; subst f4_; subst f5_))
          refine hK.out _ _ ⟨(blk_cell BK285.out 0).trans rfl, (blk_cell BK285.out 1).trans rfl, (blk_cell BK285.out 2).trans rfl⟩ (fun hHeld => ?_)
          clear hK K
          refine norm_ (a' := ?_) ?_ ?_
          rotate_left
          ·show Act.put _ (some 37) _ = _
           simp only [Act.put, sI, s0, sS, i64_w, i32_w]
           rfl
          refine py_ 13 38 HT_.out ?_
          refine one_ (i := 14) (N := some 39) #[ti,ti,ti,ti,ti,ti,ti,ti,ti,ti,ti,ti,ti,ti,ti] rfl rfl (one_of HT_.out (by kernel_rfl)) (by decide) (fun K hK => ?_)
          refine goes_ Try.func123 (by kernel_rfl) rfl #[.slice Ao19 t288.length co19, .slice Ao20 t292.length co20] (by rfl) rfl rfl ze_ ?_
          with_reducible refine (spec_l1Same.calls k2 _ _ t288 _ _ t292 true _ ?side1 ?side2 ?side3 ?side4 A12.out).mono ?_
          (case side1 => repeat (first | exact (Kd.R_reads' HO290.out).2.2 | (with_reducible refine cA ?_ _) | (with_reducible refine cN ?_ _) | (with_reducible refine cD ?_)))
          (case side2 => exact (Kd.R_reads' HO290.out).2.1)
          (case side3 => repeat (first | exact (Kd.R_reads' HO294.out).2.2 | (with_reducible refine cA ?_ _) | (with_reducible refine cN ?_ _) | (with_reducible refine cD ?_)))
          (case side4 => exact (Kd.R_reads' HO294.out).2.1)
          rintro e w' ⟨rfl, ⟨nd, rfl⟩⟩
          refine ⟨_, rfl, ?_⟩
          refine hK.out _ _ ⟨(blk_cell BK285.out 0).trans rfl, (blk_cell BK285.out 1).trans rfl, (blk_cell BK285.out 2).trans rfl⟩ (fun hHeld => ?_)
          clear hK K
          refine norm_ (a' := ?_) ?_ ?_
          rotate_left
          ·show Act.put _ (some 39) _ = _
           simp only [Act.put, sI, s0, sS, i64_w, i32_w]
           rfl
          refine done_ (done_of HT_.out (by kernel_rfl)) ?_
          (try go_wp2_with (first | ((with_reducible refine gate_dst (N := 43) rfl ?_); refine Kd.R_lit (Kd.int .i64) _ 3 ?hg (N := 43) ?hd (xs := ([x13_1, x6_2] : List Int)) (inner := [.int .i64 x13_1, .int .i64 x6_2]) (ok := fun _ => True) (okp := fun _ => True) ?hr ?hp (fun _ hk => hk) trivial (Below.refl _ _) (Nat.le_refl _) (by simp) ?_; (case hd => rfl); (case hg => rfl); (case hr => exact zc_); (case hp => exact (Reps.one (show Kd.M (Kd.int .i64) _ _ _ x13_1 [.int .i64 x13_1] from rfl) (Reps.one (show Kd.M (Kd.int .i64) _ _ _ x6_2 [.int .i64 x6_2] from rfl) (Reps.none _ _)))); intro v297 w21 ho22 hb hg_ hnew_; clear hg_ hnew_; (first | rw [← Ny296.out] at ho22 | (simp only [Int.reduceToNat] at ho22; rw [← Ny296.out] at ho22)); have n_ := z (Kd.S_elder' (zs HO_4.out) (Kd.R_base ho22) hb) <| z (Kd.R_elder' (zr HO290.out) (Kd.R_base ho22) hb) <| z (Kd.R_elder' (zr HO294.out) (Kd.R_base ho22) hb) <| z (Kd.R_lower (Kd.R_new' (Kd.R_new' ho22 (Kd.R_lt (zr HO290.out))) (Kd.R_lt (zr HO294.out))) (below_size zbi_)) <| z (blk_below (zb BK285.out) hb) <| z1 (below_step zbi_ hb); clear HO_4 HO290 HO294 BK285 HB; obtain ⟨HO_4, HO290, HO294, HO298, BK285, HB⟩ := n_; clear hb ho22; obtain ⟨Ao24, co24, eo24⟩ := Kd.R_slice HO298.out; subst eo24) | ((with_reducible refine gate_builtin (b := .append) (xs := #[.tmp 40, .tmp 44]) rfl ?_); at_builtin; refine Kd.S_append (Kd.slice 3 (Kd.int .i64)) (w0 := w) w.heap.size rfl (.tmp 40) (.tmp 44) 52 24 (.slice none 0 0) 24 rfl Try.underlying52 info24 rfl (by decide) (by omega) u4 x4_2 y296 [.slice Ao24 y296.length co24] (fun k_ => some k_ ≠ (.slice Ao19 t288.length co19 : Value).ownBlock ∧ some k_ ≠ (.slice Ao20 t292.length co20 : Value).ownBlock) (fun k_ => some k_ = (.slice Ao24 y296.length co24 : Value).ownBlock) rfl rfl ?aP (fun k_ hk_ => ((Kd.R_mono (ok' := fun k_ => ((fun k_ => some k_ ≠ (.slice Ao19 t288.length co19 : Value).ownBlock ∧ some k_ ≠ (.slice Ao20 t292.length co20 : Value).ownBlock)) k_ ∧ some k_ ≠ (u4 : Value).ownBlock) (Kd.R_apart' (HO298.out) (Kd.S_typed HO_4.out) (by decide)) (fun k_ hk => ⟨⟨hk.1.1.2, hk.1.2⟩, hk.2⟩))).1 k_ hk_.symm) ?aF ?aO ?aB ?aS ?aL ?_; (case aP => exact Kd.M_row (Kd.R_mono (Kd.R_tight rfl (Kd.R_mono (ok' := fun k_ => ((fun k_ => some k_ ≠ (.slice Ao19 t288.length co19 : Value).ownBlock ∧ some k_ ≠ (.slice Ao20 t292.length co20 : Value).ownBlock)) k_ ∧ some k_ ≠ (u4 : Value).ownBlock) (Kd.R_apart' (HO298.out) (Kd.S_typed HO_4.out) (by decide)) (fun k_ hk => ⟨⟨hk.1.1.2, hk.1.2⟩, hk.2⟩))) (fun _ h_ => h_))); (case aB => exact zbi_); (case aF => exact (fun k_ hk => ⟨Kd.fresh' (Kd.R_lt (zr HO290.out)) k_ hk, Kd.fresh' (Kd.R_lt (zr HO294.out)) k_ hk⟩)); (case aO => exact (by refine zs ?_; exact Kd.S_mono HO_4.out (fun k_ hk => ⟨⟨hk.1.1.2, hk.1.2⟩, fun e_ => hk.2 e_⟩))); (case aS => exact (below_size zbi_)); (case aL => have := LMc14.out; omega); intro v300 w23 ho hb hg hat; rw [← Ny299.out] at ho; have n_ := z (blk_grown (g := gb285) (o := .cells #[.int .i64 a0_0, .slice A0_1 l0_1.length c0_1, .slice A0_2 l0_2.length c0_2] 49 (0, 0)) (zb BK285.out) hg (Kd.S_ne HO_4.out BK285.out (by decide))) <| z (Kd.R_over' (zr HO290.out) (Kd.S_typed (zs HO_4.out)) (by decide) hg) <| z (Kd.R_over' (zr HO294.out) (Kd.S_typed (zs HO_4.out)) (by decide) hg) <| z (hb) <| z1 (ho); clear BK285 HO290 HO294 HB HO_4 HO298; obtain ⟨BK285, HO290, HO294, HB, HO301⟩ := n_; clear ho hb hg hat)))
          go_roundg k2
          case measure => have := HK1.out; have := HK2.out; omega
          case rel => exact ⟨(y299), (wrap64 (x6_2 + 1)), zd_, H', ⟨zca_⟩, ⟨by refine zs ?_; exact Kd.S_mono HO301.out (fun _ hk => trivial)⟩, ⟨zb BK285.out⟩, ⟨zbi_⟩⟩
         ·rw [if_neg c14] at H
          exact absurd H (by simp)
        ·replace c13 := Bool.eq_false_iff.mpr c13
         subst c13; have H1 : (spec_EqualGates.l1 k2 x4_2 x13_1 (wrap64 (x6_2 + 1)) (l0_1.length : Int) x13_1 a0_0 l0_1 l0_2) = some (r1, r2) := by rw [if_neg (show ¬ (false = true) by decide)] at H; exact H
         clear H; have H := H1; clear H1; have H' := aM H; clear H; have hcz25_0 : wr.cell? ⟨gb285, 0, none⟩ = some (.int .i64 a0_0) := (blk_cell BK285.out 0).trans rfl; have hcz25_1 : wr.cell? ⟨gb285, 1, none⟩ = some (.slice A0_1 l0_1.length c0_1) := (blk_cell BK285.out 1).trans rfl; have hcz25_2 : wr.cell? ⟨gb285, 2, none⟩ = some (.slice A0_2 l0_2.length c0_2) := (blk_cell BK285.out 2).trans rfl; have hfz25_0 := blk_frozen BK285.out 0; have hfz25_1 := blk_frozen BK285.out 1; have hfz25_2 := blk_frozen BK285.out 2; (try go_wp2); have n_ := z (Kd.S_drew HO_4.out) <| z (blk_drew BK285.out) <| z1 (p1 HB.out)
         clear HO_4 BK285 HB; obtain ⟨HO_4, BK285, HB⟩ := n_
         refine start_ (n := 15) (S := fun w' => w'.cell? ⟨gb285, 0, none⟩ = some (.int .i64 a0_0) ∧ w'.cell? ⟨gb285, 1, none⟩ = some (.slice A0_1 l0_1.length c0_1) ∧ w'.cell? ⟨gb285, 2, none⟩ = some (.slice A0_2 l0_2.length c0_2)) (ds := []) #[fi,fi,fi,fi,fi,fi,fi,fi,fi,fi,fi,fi,fi,fi,fi] (by kernel_rfl) rfl rfl ⟨(blk_cell BK285.out 0).trans rfl, (blk_cell BK285.out 1).trans rfl, (blk_cell BK285.out 2).trans rfl⟩ (fun hHeld => ?_); refine with_tabW spec_EqualGates.tab10 spec_EqualGates.bits10 (fun HT_ HW_ => ?_)
         generalize wr.drew = w26 at HO_4 BK285 HB hHeld ⊢; refine py_ 1 26 HT_.out ?_; refine py_ 3 28 HT_.out ?_; refine py_ 8 33 HT_.out ?_; refine py_ 10 35 HT_.out ?_
         refine take_ (i := 0) (N := some 25) (v := ?_) (a' := ?_) #[ti,ti,fi,ti,fi,fi,fi,fi,ti,fi,ti,fi,fi,fi,fi] rfl rfl (take_ofW HT_.out HW_.out (by kernel_rfl)) (fun _ _ _ h => h) (Or.inl ⟨by rfl, ?_⟩) hHeld ?_ ?_
         rotate_left
         ·rintro w' ⟨s0, s1, s2⟩
          go_simp
          with_reducible rfl
         rotate_left
         ·simp only [Act.put, sI, s0, sS, i64_w, i32_w]
          rfl
         refine take_ (i := 2) (N := some 27) (v := ?_) (a' := ?_) #[ti,ti,ti,ti,fi,fi,fi,fi,ti,fi,ti,fi,fi,fi,fi] rfl rfl (take_ofW HT_.out HW_.out (by kernel_rfl)) (fun _ _ _ h => h) (Or.inl ⟨by rfl, ?_⟩) hHeld ?_ ?_
         rotate_left
         ·rintro w' ⟨s0, s1, s2⟩
          go_simp
          with_reducible rfl
         rotate_left
         ·simp only [Act.put, sI, s0, sS, i64_w, i32_w]
          rfl
         refine py_ 4 29 HT_.out ?_
         refine take_ (i := 7) (N := some 32) (v := ?_) (a' := ?_) #[ti,ti,ti,ti,ti,fi,fi,ti,ti,fi,ti,fi,fi,fi,fi] rfl rfl (take_ofW HT_.out HW_.out (by kernel_rfl)) (fun _ _ _ h => h) (Or.inl ⟨by rfl, ?_⟩) hHeld ?_ ?_
         rotate_left
         ·rintro w' ⟨s0, s1, s2⟩
          go_simp
          with_reducible rfl
         rotate_left
         ·simp only [Act.put, sI, s0, sS, i64_w, i32_w]
          rfl
         refine take_ (i := 9) (N := some 34) (v := ?_) (a' := ?_) #[ti,ti,ti,ti,ti,fi,fi,ti,ti,ti,ti,fi,fi,fi,fi] rfl rfl (take_ofW HT_.out HW_.out (by kernel_rfl)) (fun _ _ _ h => h) (Or.inl ⟨by rfl, ?_⟩) hHeld ?_ ?_
         rotate_left
         ·rintro w' ⟨s0, s1, s2⟩
          go_simp
          with_reducible rfl
         rotate_left
         ·simp only [Act.put, sI, s0, sS, i64_w, i32_w]
          rfl
         refine py_ 11 36 HT_.out ?_
         refine one_ (i := 5) (N := some 30) #[ti,ti,ti,ti,ti,ti,fi,ti,ti,ti,ti,ti,fi,fi,fi] rfl rfl (one_of HT_.out (by kernel_rfl)) (by decide) (fun K hK => ?_)
         refine goes_ Try.func124 (by kernel_rfl) rfl #[.agg #[.int .i64 a0_0, .slice A0_1 l0_1.length c0_1, .slice A0_2 l0_2.length c0_2], .int .i64 (wrap64 (a0_0 + x13_1))] (by rfl) rfl rfl ze_ ?_
         with_reducible refine (spec_ciTable.calls k2 a0_0 _ _ l0_1 _ _ l0_2 (wrap64 (a0_0 + x13_1)) t287 t288 _ ?side1 ?side2 ?side3 ?side4 A10.out).mono ?_
         (case side1 => exact zg_)
         (case side2 => exact HC0_1.out)
         (case side3 => exact zj_)
         (case side4 => exact HC0_2.out)
         rintro e w27 ⟨v289, rfl, ho0, hb⟩
         refine ⟨_, rfl, ?_⟩
         have n_ := z (Kd.S_elder' (zs HO_4.out) (Kd.R_base ho0) hb) <| z (Kd.R_lower ho0 (below_size zbi_)) <| z (blk_below (zb BK285.out) hb) <| z1 (below_step zbi_ hb)
         clear HO_4 BK285 HB; obtain ⟨HO_4, HO290, BK285, HB⟩ := n_; (try clear hb); (try clear hb2); (try clear hk); (try clear hi); (try clear ho0)
         refine hK.out _ _ ⟨(blk_cell BK285.out 0).trans rfl, (blk_cell BK285.out 1).trans rfl, (blk_cell BK285.out 2).trans rfl⟩ (fun hHeld => ?_)
         clear hK K
         refine norm_ (a' := ?_) ?_ ?_
         rotate_left
         ·show Act.put _ (some 30) _ = _
          simp only [Act.put, sI, s0, sS, i64_w, i32_w]
          rfl
         refine py_ 6 31 HT_.out ?_
         refine one_ (i := 12) (N := some 37) #[ti,ti,ti,ti,ti,ti,ti,ti,ti,ti,ti,ti,ti,fi,fi] rfl rfl (one_of HT_.out (by kernel_rfl)) (by decide) (fun K hK => ?_)
         refine goes_ Try.func124 (by kernel_rfl) rfl #[.agg #[.int .i64 a0_0, .slice A0_1 l0_1.length c0_1, .slice A0_2 l0_2.length c0_2], .int .i64 (wrap64 (a0_0 + x6_2))] (by rfl) rfl rfl ze_ ?_
         with_reducible refine (spec_ciTable.calls k2 a0_0 _ _ l0_1 _ _ l0_2 (wrap64 (a0_0 + x6_2)) t291 t292 _ ?side1 ?side2 ?side3 ?side4 A11.out).mono ?_
         (case side1 => exact zg_)
         (case side2 => exact HC0_1.out)
         (case side3 => exact zj_)
         (case side4 => exact HC0_2.out)
         rintro e w28 ⟨v293, rfl, ho0, hb⟩
         refine ⟨_, rfl, ?_⟩
         have n_ := z (Kd.S_elder' (zs HO_4.out) (Kd.R_base ho0) hb) <| z (Kd.R_elder' (zr HO290.out) (Kd.R_base ho0) hb) <| z (Kd.R_lower (Kd.R_new' ho0 (Kd.R_lt (zr HO290.out))) (below_size zbi_)) <| z (blk_below (zb BK285.out) hb) <| z1 (below_step zbi_ hb)
         clear HO_4 HO290 BK285 HB; obtain ⟨HO_4, HO290, HO294, BK285, HB⟩ := n_; (try clear hb); (try clear hb2); (try clear hk); (try clear hi); (try clear ho0); obtain ⟨Ao29, co29, eo29⟩ := Kd.R_slice HO290.out; (first | subst eo29 | (injection eo29 with f1_ f2_ f3_; have f4_ := f1_.symm; have f5_ := f3_.symm; clear f1_ f2_ f3_; subst f4_; subst f5_)); obtain ⟨Ao30, co30, eo30⟩ := Kd.R_slice HO294.out; (first | subst eo30 | (injection eo30 with f1_ f2_ f3_; have f4_ := f1_.symm; have f5_ := f3_.symm; clear f1_ f2_ f3_; subst f4_; subst f5_))
         refine hK.out _ _ ⟨(blk_cell BK285.out 0).trans rfl, (blk_cell BK285.out 1).trans rfl, (blk_cell BK285.out 2).trans rfl⟩ (fun hHeld => ?_)
         clear hK K
         refine norm_ (a' := ?_) ?_ ?_
         rotate_left
         ·show Act.put _ (some 37) _ = _
          simp only [Act.put, sI, s0, sS, i64_w, i32_w]
          rfl
         refine py_ 13 38 HT_.out ?_
         refine one_ (i := 14) (N := some 39) #[ti,ti,ti,ti,ti,ti,ti,ti,ti,ti,ti,ti,ti,ti,ti] rfl rfl (one_of HT_.out (by kernel_rfl)) (by decide) (fun K hK => ?_)
         refine goes_ Try.func123 (by kernel_rfl) rfl #[.slice Ao29 t288.length co29, .slice Ao30 t292.length co30] (by rfl) rfl rfl ze_ ?_
         with_reducible refine (spec_l1Same.calls k2 _ _ t288 _ _ t292 false _ ?side1 ?side2 ?side3 ?side4 A12.out).mono ?_
         (case side1 => repeat (first | exact (Kd.R_reads' HO290.out).2.2 | (with_reducible refine cA ?_ _) | (with_reducible refine cN ?_ _) | (with_reducible refine cD ?_)))
         (case side2 => exact (Kd.R_reads' HO290.out).2.1)
         (case side3 => repeat (first | exact (Kd.R_reads' HO294.out).2.2 | (with_reducible refine cA ?_ _) | (with_reducible refine cN ?_ _) | (with_reducible refine cD ?_)))
         (case side4 => exact (Kd.R_reads' HO294.out).2.1)
         rintro e w' ⟨rfl, ⟨nd, rfl⟩⟩
         refine ⟨_, rfl, ?_⟩
         refine hK.out _ _ ⟨(blk_cell BK285.out 0).trans rfl, (blk_cell BK285.out 1).trans rfl, (blk_cell BK285.out 2).trans rfl⟩ (fun hHeld => ?_)
         clear hK K
         refine norm_ (a' := ?_) ?_ ?_
         rotate_left
         ·show Act.put _ (some 39) _ = _
          simp only [Act.put, sI, s0, sS, i64_w, i32_w]
          rfl
         refine done_ (done_of HT_.out (by kernel_rfl)) ?_
         (try go_wp2)
         go_roundg k2
         case measure => have := HK1.out; have := HK2.out; omega
         case rel => exact ⟨(x4_2), (wrap64 (x6_2 + 1)), zd_, H', ⟨zca_⟩, ⟨by refine zs ?_; exact Kd.S_mono HO_4.out (fun _ hk => trivial)⟩, ⟨zb BK285.out⟩, ⟨zbi_⟩⟩
       ·rw [if_neg c9] at H
        have c9b0 := decide_eq_false c9; clear c9; have H' := aM H; clear H; have hcz31_0 : wr.cell? ⟨gb285, 0, none⟩ = some (.int .i64 a0_0) := (blk_cell BK285.out 0).trans rfl; have hcz31_1 : wr.cell? ⟨gb285, 1, none⟩ = some (.slice A0_1 l0_1.length c0_1) := (blk_cell BK285.out 1).trans rfl; have hcz31_2 : wr.cell? ⟨gb285, 2, none⟩ = some (.slice A0_2 l0_2.length c0_2) := (blk_cell BK285.out 2).trans rfl; have hfz31_0 := blk_frozen BK285.out 0; have hfz31_1 := blk_frozen BK285.out 1; have hfz31_2 := blk_frozen BK285.out 2
        go_wp2
        go_roundg k2
        case measure => have := HK1.out; have := HK2.out; omega
        case rel => exact ⟨(x4_2), (wrap64 (x13_1 + 1)), zd_, H', ⟨zca_⟩, ⟨zs HO_4.out⟩, ⟨zb BK285.out⟩, ⟨zbi_⟩⟩
    ·rw [if_neg c8] at H
     have c8b0 := decide_eq_false c8; clear c8
     simp only [Option.some.injEq, Prod.mk.injEq] at H
     obtain ⟨rfl, rfl⟩ := H
     go_wp2
     go_ret2
     exact ⟨_, zf_, by refine zs ?_; exact HO_4.out, zbi_⟩
 ·replace c3 := Bool.eq_false_iff.mpr c3
  subst c3; have H1 : (some (([] : List (List Int)), false)) = some (r1, r2) := by rw [if_neg (show ¬ (false = true) by decide)] at H; exact H
  clear H; have H := H1; clear H1
  simp only [Option.some.injEq, Prod.mk.injEq] at H
  obtain ⟨rfl, rfl⟩ := H
  go_enter Try.func30, Try.ntmps30
  go_wp2_with (first | ((with_reducible refine gate_dst (N := 1) rfl ?_); refine box_event ?hg (N := 1) ?hd (cs := #[.int .i64 a0_0, .slice A0_1 l0_1.length c0_1, .slice A0_2 l0_2.length c0_2]) (t := 49) ?hr ?_; (case hd => rfl); (case hg => rfl); (case hr => exact zc_); intro gb285 hg w32 hbox hb; have n_ := z (below_step zb_ hb) <| z (hbox) <| z ((by rw [hg]; exact (below_size zb_) : w.heap.size ≤ gb285)) <| z1 ((by rw [hg]; exact (below_size zb_) : w.heap.size ≤ gb285)); clear HB; obtain ⟨HB, BK285, GW285, GE285⟩ := n_; clear hb hbox hg; have hcz33_0 : w32.cell? ⟨gb285, 0, none⟩ = some (.int .i64 a0_0) := (blk_cell BK285.out 0).trans rfl; have hcz33_1 : w32.cell? ⟨gb285, 1, none⟩ = some (.slice A0_1 l0_1.length c0_1) := (blk_cell BK285.out 1).trans rfl; have hcz33_2 : w32.cell? ⟨gb285, 2, none⟩ = some (.slice A0_2 l0_2.length c0_2) := (blk_cell BK285.out 2).trans rfl; have hfz33_0 := blk_frozen BK285.out 0; have hfz33_1 := blk_frozen BK285.out 1; have hfz33_2 := blk_frozen BK285.out 2) | ((with_reducible refine gate_callee (f := 119) rfl ?_); refine goesL_ (some 8) rfl rfl Try.func119 (by kernel_rfl) rfl #[.agg #[.int .i64 a0_0, .slice A0_1 l0_1.length c0_1, .slice A0_2 l0_2.length c0_2]] rfl ze_ ?_; (with_reducible refine (spec_ciGood.calls k a0_0 _ _ l0_1 _ _ l0_2 false _ ?side1 ?side2 ?side3 ?side4 A2.out).mono ?_); (case side1 => exact zg_); (case side2 => exact HC0_1.out); (case side3 => exact zj_); (case side4 => exact HC0_2.out); rintro e w34 ⟨rfl, hb⟩; refine ⟨_, rfl, ?_⟩; have n_ := z (blk_below (zb BK285.out) hb) <| z1 (below_step zbi_ hb); clear BK285 HB; obtain ⟨BK285, HB⟩ := n_; clear hb))
  go_ret2
  exact ⟨_, zf_, zjg_, zbi_⟩
def slices_Index_int_int.l0 : Nat → List Int → Int → Int → Int → Option (Int)
 | 0, _, _, _, _ => none
 | k + 1, x0, x1, x7, x8 => if x8 < x7 then (if 0 ≤ x8 then (if x8 < (x0.length : Int) then (if x1 = (rd x0 x8) then (some x8) else (slices_Index_int_int.l0 k x0 x1 x7 (wrap64 (x8 + 1)))) else (none)) else (none)) else (some (-1))
def slices_Index_int_int.f (k : Nat) (l0 : List Int) (a1 : Int) : Option (Int) := slices_Index_int_int.l0 k l0 a1 (l0.length : Int) 0
theorem slices_Index_int_int.calls (k : Nat) (A0 : Option Addr) (c0 : Nat) (l0 : List Int) (a1 : Int) (r : Int) (w : World) (hr0 : Kd.C (Kd.int .i64) w A0 l0.length l0) (hc0 : l0.length ≤ c0) (h : slices_Index_int_int.f k l0 a1 = some r) :
  Calls Try.prog 156 #[.slice A0 l0.length c0, .int .i64 a1] w fun e w' => e = .returned (.int .i64 r) ∧ Drawn0 w w' := by
 have HR0 := aM hr0
 have HC0 := aM hc0
 clear hr0 hc0
 have H : (slices_Index_int_int.l0 k l0 a1 (l0.length : Int) 0) = some r := h
 clear h
 have H' := aM H
 clear H
 go_enter Try.func156, Try.ntmps156
 go_wp2
 go_loopg [8] k (fun kq v8 w' => ∃ (x8_1 : Int), v8 = .int .i64 x8_1 ∧ Aside0 (slices_Index_int_int.l0 kq l0 a1 (l0.length : Int) x8_1 = some r) ∧ Aside0 (kq ≤ k) ∧ Drawn0 w w')
 case atStart => exact ⟨(0), zd_, H', ⟨Nat.le_refl _⟩, zi_⟩
 case round =>
  clear H'; obtain ⟨x8_1, rfl, HA, HK1, ⟨m1, rfl⟩⟩ := hrel
  cases gk with
  | zero => exact absurd HA.out (by simp [slices_Index_int_int.l0])
  | succ k1 =>
   have H := HA.out; clear HA
   simp only [slices_Index_int_int.l0] at H
   by_cases c3 : x8_1 < (l0.length : Int)
   ·rw [if_pos c3] at H
    have c3b0 := decide_eq_true c3; clear c3
    by_cases c4 : 0 ≤ x8_1
    ·rw [if_pos c4] at H
     have c4b0 := decide_eq_true c4; clear c4
     by_cases c5 : x8_1 < (l0.length : Int)
     ·rw [if_pos c5] at H
      have c5b0 := decide_eq_true c5; clear c5
      by_cases c6 : a1 = (rd l0 x8_1)
      ·rw [if_pos c6] at H
       have c6b0 := beq_iff_eq.mpr c6; have c6b1 := bne_eq_false_iff_eq.mpr c6; clear c6; obtain rfl := Option.some.inj H; have p302 : 0 ≤ (x8_1 : Int) := of_decide_eq_true za_; have q302 : x8_1 < (l0.length : Int) := of_decide_eq_true za_; obtain ⟨ad302, e302, hx302_0⟩ := Kd.at_int HR0.out x8_1 p302 q302
       cases e302
       replace p302 := eq_true p302; replace q302 := eq_true q302
       go_wp2
       go_ret
       exact ⟨zd_, zi_⟩
      ·rw [if_neg c6] at H
       have c6b0 := beq_eq_false_iff_ne.mpr c6; have c6b1 := bne_iff_ne.mpr c6; have H' := aM H; clear H; have p302 : 0 ≤ (x8_1 : Int) := of_decide_eq_true za_; have q302 : x8_1 < (l0.length : Int) := of_decide_eq_true za_; obtain ⟨ad302, e302, hx302_0⟩ := Kd.at_int HR0.out x8_1 p302 q302
       cases e302
       replace p302 := eq_true p302; replace q302 := eq_true q302
       go_wp2
       go_roundg k1
       case measure => have := HK1.out; omega
       case rel => exact ⟨(wrap64 (x8_1 + 1)), zd_, H', ⟨zbd_⟩, zi_⟩
     ·rw [if_neg c5] at H
      exact absurd H (by simp)
    ·rw [if_neg c4] at H
     exact absurd H (by simp)
   ·rw [if_neg c3] at H
    have c3b0 := decide_eq_false c3; clear c3; obtain rfl := Option.some.inj H
    go_wp2
    go_ret
    exact ⟨zd_, zi_⟩
def slices_Contains_int_int.f (k : Nat) (l0 : List Int) (a1 : Int) : Option (Bool) := (slices_Index_int_int.f k l0 a1).bind fun t303 => (some (decide (t303 ≥ 0)))
theorem slices_Contains_int_int.calls (k : Nat) (A0 : Option Addr) (c0 : Nat) (l0 : List Int) (a1 : Int) (r : Bool) (w : World) (hr0 : Kd.C (Kd.int .i64) w A0 l0.length l0) (hc0 : l0.length ≤ c0) (h : slices_Contains_int_int.f k l0 a1 = some r) :
  Calls Try.prog 125 #[.slice A0 l0.length c0, .int .i64 a1] w fun e w' => e = .returned (.bool r) ∧ Drawn0 w w' := by
 have HR0 := aM hr0
 have HC0 := aM hc0
 clear hr0 hc0
 have H : ((slices_Index_int_int.f k l0 a1).bind fun t303 => (some (decide (t303 ≥ 0)))) = some r := h
 clear h
 replace H := oB.mp H
 obtain ⟨t303, A30, H⟩ := H
 replace H : (some (decide (t303 ≥ 0))) = some r := H
 have A3 := aM A30
 clear A30
 obtain rfl := Option.some.inj H
 go_enter Try.func125, Try.ntmps125
 go_wp2_with (first | ((with_reducible refine gate_callee (f := 156) rfl ?_); refine goesL_ (some 7) rfl rfl Try.func156 (by kernel_rfl) rfl #[.slice A0 l0.length c0, .int .i64 a1] rfl ze_ ?_; (with_reducible refine (slices_Index_int_int.calls k _ _ l0 a1 t303 _ ?side1 ?side2 A3.out).mono ?_); (case side1 => exact zih_); (case side2 => exact HC0.out); rintro e w' ⟨rfl, ⟨nd, rfl⟩⟩; refine ⟨_, rfl, ?_⟩))
 go_ret
 exact ⟨zd_, zi_⟩
end Go.Proofs.Ytbkighlfgaifeaa.QFnGates
