/- Functions of FnGates, each as a Lean function, with the proof that the Go code comes to its answers. -/
import Derived.Test.YtbkighlfgaifeaaSFnGatesx0
import Derived.Test.YtbkighlfgaifeaaSFnGatesx3
import Derived.Test.YtbkighlfgaifeaaSFnGatesx7
namespace Go.Proofs.Ytbkighlfgaifeaa.QFnGates
open Go.RowKit Go.Proofs.YtbkighlfgaifeaaW.PrintWords Go.Proofs.YtbkighlfgaifeaaW.PrintLast Go.Proofs.YtbkighlfgaifeaaW.PrintMore
open Go.Proofs.YtbkighlfgaifeaaW.PrintWords renaming pw_below_drewN → pN, below_drew1 → p1, below_alloc → pA
open Go.Proofs.YtbkighlfgaifeaaW.PrintWords.Kd renaming R_alloc → kA, R_drewN → kN, R_drew → kD, Q_alloc → qA, Q_drewN → qN, Q_drew → qD, C_alloc → cA, C_drewN → cN, C_drew → cD
open Go.Proofs.YtbkighlfgaifeaaW.PrintWords.Aside0 renaming mk → aM
open List renaming setIfInBounds_toArray → sI, set_cons_zero → s0, set_cons_succ → sS, map_toArray → mT, length_take → lT, length_drop → lD, map_cons → mC, map_nil → mN
open Option renaming bind_eq_some_iff → oB, bind_some → oS
attribute [local go_sem] max2_int min2_int max_two min_two max_three min_three max_four min_four
set_option maxHeartbeats 8000000
set_option maxRecDepth 100000
set_option linter.unusedVariables false
set_option linter.unusedSimpArgs false
mutual
def impl_EqualGates.l0 : Nat → List (S60) → List (List Int) → Int → Int → Option ((List (List Int)) × Bool)
 | 0, _, _, _, _ => none
 | k + 1, x4, x5, x18, x19 => if x19 < x18 then (impl_EqualGates.l1 k x4 x5 x19 (wrap64 (x19 + 1)) x18 x19) else (some (x5, true))
def impl_EqualGates.l1 : Nat → List (S60) → List (List Int) → Int → Int → Int → Int → Option ((List (List Int)) × Bool)
 | 0, _, _, _, _, _, _ => none
 | k + 1, x4, x5, x6, x7, x18, x19 => if x7 < (x4.length : Int) then (if 0 ≤ x6 then (if x6 < (x4.length : Int) then (if 0 ≤ x7 then ((slices_Equal_int_int.f k ((rd_T60 x4 x6).f1) ((rd_T60 x4 x7).f1)).bind fun t244 => (if t244 = true then (if x5.length < 5864062014805 then (impl_EqualGates.l1 k x4 (x5 ++ [(([x6, x7] : List Int))]) x6 (wrap64 (x7 + 1)) x18 x19) else (none)) else (impl_EqualGates.l1 k x4 x5 x6 (wrap64 (x7 + 1)) x18 x19))) else (none)) else (none)) else (none)) else (impl_EqualGates.l0 k x4 x5 x18 (wrap64 (x19 + 1)))
end
def impl_EqualGates.f (k : Nat) (a0_0 : Int) (l0_1 : List (S57)) (l0_2 : List Int) : Option ((List (List Int)) × Bool) := (impl_IsCircuit.f k a0_0 l0_1 l0_2).bind fun t231 => (if t231 = true then ((impl_wireTables.f k a0_0 l0_1 l0_2).bind fun t232 => (if 0 ≤ a0_0 then (if a0_0 ≤ (t232.length : Int) then ((some (t232.drop (a0_0 : Int).toNat : List (S60))).bind fun y235 => (impl_EqualGates.l0 k y235 (([] : List (List Int))) (y235.length : Int) 0)) else (none)) else (none))) else (some (([] : List (List Int)), false)))
def impl_EqualGates.T11 : Bool × List (List Nat × List Nat) := (true, [([], []), ([], []), ([0, 1], [0, 1]), ([2], [2]), ([3], [3]), ([], []), ([], []), ([5, 6], [5, 6]), ([7], [7]), ([8], [8]), ([4, 9], [4, 9])])
def impl_EqualGates.B11 : List Nat := [0, 0, 3, 7, 15, 0, 0, 96, 224, 480, 1023]
theorem impl_EqualGates.tab11 : rtab .any (opsOf Try.f29 11) = impl_EqualGates.T11 := by kernel_rfl
theorem impl_EqualGates.bits11 : waitsOk impl_EqualGates.T11.2 impl_EqualGates.B11 = true := by kernel_rfl
theorem impl_EqualGates.calls (k : Nat) (a0_0 : Int) (A0_1 : Option Addr) (c0_1 : Nat) (l0_1 : List (S57)) (A0_2 : Option Addr) (c0_2 : Nat) (l0_2 : List Int) (r1 : List (List Int)) (r2 : Bool) (w : World) (hr0_1 : Kd.C k57 w A0_1 l0_1.length l0_1) (hc0_1 : l0_1.length ≤ c0_1) (hr0_2 : Kd.C (Kd.int .i64) w A0_2 l0_2.length l0_2) (hc0_2 : l0_2.length ≤ c0_2) (h : impl_EqualGates.f k a0_0 l0_1 l0_2 = some (r1, r2)) :
  Calls Try.prog 29 #[.agg #[.int .i64 a0_0, .slice A0_1 l0_1.length c0_1, .slice A0_2 l0_2.length c0_2]] w fun e w' => ∃ v0_ : Value, e = .returned (.tuple #[v0_, .bool r2]) ∧ Kd.S (Kd.slice 3 (Kd.int .i64)) 24 w' w.heap.size (fun _ => True) v0_ r1 ∧ Below w.heap.size w w' := by
 have hu49 := Try.underlying49
 have HR0_1 := aM hr0_1
 have HC0_1 := aM hc0_1
 clear hr0_1 hc0_1
 have HR0_2 := aM hr0_2
 have HC0_2 := aM hc0_2
 clear hr0_2 hc0_2
 have HB := aM (Below.refl w.heap.size w)
 have H : ((impl_IsCircuit.f k a0_0 l0_1 l0_2).bind fun t231 => (if t231 = true then ((impl_wireTables.f k a0_0 l0_1 l0_2).bind fun t232 => (if 0 ≤ a0_0 then (if a0_0 ≤ (t232.length : Int) then ((some (t232.drop (a0_0 : Int).toNat : List (S60))).bind fun y235 => (impl_EqualGates.l0 k y235 (([] : List (List Int))) (y235.length : Int) 0)) else (none)) else (none))) else (some (([] : List (List Int)), false)))) = some (r1, r2) := h
 clear h
 replace H := oB.mp H
 obtain ⟨t231, A20, H⟩ := H
 replace H : (if t231 = true then ((impl_wireTables.f k a0_0 l0_1 l0_2).bind fun t232 => (if 0 ≤ a0_0 then (if a0_0 ≤ (t232.length : Int) then ((some (t232.drop (a0_0 : Int).toNat : List (S60))).bind fun y235 => (impl_EqualGates.l0 k y235 (([] : List (List Int))) (y235.length : Int) 0)) else (none)) else (none))) else (some (([] : List (List Int)), false))) = some (r1, r2) := H
 have A2 := aM A20
 clear A20
 by_cases c3 : t231 = true
 ·subst c3
  have H1 : ((impl_wireTables.f k a0_0 l0_1 l0_2).bind fun t232 => (if 0 ≤ a0_0 then (if a0_0 ≤ (t232.length : Int) then ((some (t232.drop (a0_0 : Int).toNat : List (S60))).bind fun y235 => (impl_EqualGates.l0 k y235 (([] : List (List Int))) (y235.length : Int) 0)) else (none)) else (none))) = some (r1, r2) := by rw [if_pos rfl] at H; exact H
  clear H; have H := H1; clear H1; replace H := oB.mp H; obtain ⟨t232, A40, H⟩ := H; replace H : (if 0 ≤ a0_0 then (if a0_0 ≤ (t232.length : Int) then ((some (t232.drop (a0_0 : Int).toNat : List (S60))).bind fun y235 => (impl_EqualGates.l0 k y235 (([] : List (List Int))) (y235.length : Int) 0)) else (none)) else (none)) = some (r1, r2) := H; have A4 := aM A40; clear A40
  by_cases c5 : 0 ≤ a0_0
  ·rw [if_pos c5] at H
   have c5b0 := eq_true c5; have c5b1 := decide_eq_true c5; clear c5
   by_cases c6 : a0_0 ≤ (t232.length : Int)
   ·rw [if_pos c6] at H
    have c6b0 := eq_true c6; have c6b1 := decide_eq_true c6; clear c6; obtain ⟨y235, hy235⟩ : ∃ y_ : List (S60), y_ = (t232.drop (a0_0 : Int).toNat) := ⟨_, rfl⟩; replace H : (impl_EqualGates.l0 k y235 (([] : List (List Int))) (y235.length : Int) 0) = some (r1, r2) := by first | (rw [hy235]; with_reducible exact H) | (have H2_ := (oS _ _).symm.trans H; rw [hy235]; with_reducible exact H2_) | (have H2_ := (oS _ _).symm.trans H; with_reducible exact H2_) | with_reducible exact H | (rw [hy235]; exact H) | exact H
    have Ny235 := aM hy235; clear hy235; obtain ⟨y239, hy239⟩ : ∃ y_ : List (List Int), y_ = (([] : List (List Int))) := ⟨_, rfl⟩; replace H : (impl_EqualGates.l0 k y235 y239 (y235.length : Int) 0) = some (r1, r2) := by first | (rw [hy239]; with_reducible exact H) | (have H2_ := (oS _ _).symm.trans H; rw [hy239]; with_reducible exact H2_) | (have H2_ := (oS _ _).symm.trans H; with_reducible exact H2_) | with_reducible exact H | (rw [hy239]; exact H) | exact H
    have Ny239 := aM hy239; clear hy239; have H' := aM H; clear H
    go_enter Try.func29, Try.ntmps29
    (try go_wp2_with (first | ((with_reducible refine gate_dst (N := 1) rfl ?_); refine box_event ?hg (N := 1) ?hd (cs := #[.int .i64 a0_0, .slice A0_1 l0_1.length c0_1, .slice A0_2 l0_2.length c0_2]) (t := 49) ?hr ?_; (case hd => rfl); (case hg => rfl); (case hr => exact zc_); intro gb230 hg w7 hbox hb; have n_ := z (below_step zb_ hb) <| z (hbox) <| z ((by rw [hg]; exact (below_size zb_) : w.heap.size ≤ gb230)) <| z1 ((by rw [hg]; exact (below_size zb_) : w.heap.size ≤ gb230)); clear HB; obtain ⟨HB, BK230, GW230, GE230⟩ := n_; clear hb hbox hg; have hcz8_0 : w7.cell? ⟨gb230, 0, none⟩ = some (.int .i64 a0_0) := (blk_cell BK230.out 0).trans rfl; have hcz8_1 : w7.cell? ⟨gb230, 1, none⟩ = some (.slice A0_1 l0_1.length c0_1) := (blk_cell BK230.out 1).trans rfl; have hcz8_2 : w7.cell? ⟨gb230, 2, none⟩ = some (.slice A0_2 l0_2.length c0_2) := (blk_cell BK230.out 2).trans rfl; have hfz8_0 := blk_frozen BK230.out 0; have hfz8_1 := blk_frozen BK230.out 1; have hfz8_2 := blk_frozen BK230.out 2) | ((with_reducible refine gate_callee (f := 118) rfl ?_); refine goesL_ (some 9) rfl rfl Try.func118 (by kernel_rfl) rfl #[.agg #[.int .i64 a0_0, .slice A0_1 l0_1.length c0_1, .slice A0_2 l0_2.length c0_2]] rfl ze_ ?_; (with_reducible refine (impl_IsCircuit.calls k a0_0 _ _ l0_1 _ _ l0_2 true _ ?side1 ?side2 ?side3 ?side4 A2.out).mono ?_); (case side1 => exact zg_); (case side2 => exact HC0_1.out); (case side3 => exact zj_); (case side4 => exact HC0_2.out); rintro e w9 ⟨rfl, hb⟩; refine ⟨_, rfl, ?_⟩; have n_ := z (blk_below (zb BK230.out) hb) <| z1 (below_step zcc_ hb); clear BK230 HB; obtain ⟨BK230, HB⟩ := n_; clear hb))); have n_ := z (blk_drew BK230.out) <| z1 (p1 HB.out)
    clear BK230 HB; obtain ⟨BK230, HB⟩ := n_
    refine start_ (n := 6) (S := fun w' => w'.cell? ⟨gb230, 0, none⟩ = some (.int .i64 a0_0) ∧ w'.cell? ⟨gb230, 1, none⟩ = some (.slice A0_1 l0_1.length c0_1) ∧ w'.cell? ⟨gb230, 2, none⟩ = some (.slice A0_2 l0_2.length c0_2)) (ds := []) #[fi,fi,fi,fi,fi,fi] (by kernel_rfl) rfl rfl ⟨(blk_cell BK230.out 0).trans rfl, (blk_cell BK230.out 1).trans rfl, (blk_cell BK230.out 2).trans rfl⟩ (fun hHeld => ?_)
    generalize w9.drew = w10 at BK230 HB hHeld ⊢
    refine pure_ (i := 2) (N := some 13) (v := ?_) (a' := ?_) #[fi,fi,ti,fi,fi,fi] rfl rfl (by kernel_rfl) (fun _ _ _ h => h) (Or.inl ⟨by rfl, ?_⟩) ?_ ?_; rotate_left; (· (intro w'; go_simp; with_reducible rfl)); rotate_left; (· (simp only [Act.put, sI, s0, sS, i64_w, i32_w]; rfl))
    refine take_ (i := 0) (N := some 11) (v := ?_) (a' := ?_) #[ti,fi,ti,fi,fi,fi] rfl rfl (by kernel_rfl) (fun _ _ _ h => h) (Or.inl ⟨by rfl, ?_⟩) hHeld ?_ ?_
    rotate_left
    ·rintro w' ⟨s0, s1, s2⟩
     go_simp
     with_reducible rfl
    rotate_left
    ·simp only [Act.put, sI, s0, sS, i64_w, i32_w]
     rfl
    refine take_ (i := 3) (N := some 14) (v := ?_) (a' := ?_) #[ti,fi,ti,ti,fi,fi] rfl rfl (by kernel_rfl) (fun _ _ _ h => h) (Or.inl ⟨by rfl, ?_⟩) hHeld ?_ ?_
    rotate_left
    ·rintro w' ⟨s0, s1, s2⟩
     go_simp
     with_reducible rfl
    rotate_left
    ·simp only [Act.put, sI, s0, sS, i64_w, i32_w]
     rfl
    refine one_ (i := 1) (N := some 12) #[ti,ti,ti,ti,fi,fi] rfl rfl (by kernel_rfl) (by decide) (fun K hK => ?_)
    refine goes_ Try.func121 (by kernel_rfl) rfl #[.agg #[.int .i64 a0_0, .slice A0_1 l0_1.length c0_1, .slice A0_2 l0_2.length c0_2]] (by rfl) rfl rfl ze_ ?_
    with_reducible refine (impl_wireTables.calls k a0_0 _ _ l0_1 _ _ l0_2 t232 _ ?side1 ?side2 ?side3 ?side4 A4.out).mono ?_
    (case side1 => exact zg_)
    (case side2 => exact HC0_1.out)
    (case side3 => exact zj_)
    (case side4 => exact HC0_2.out)
    rintro e w11 ⟨v233, rfl, ho0, hb⟩
    refine ⟨_, rfl, ?_⟩
    have n_ := z (Kd.S_lower ho0 (below_size zcc_)) <| z (blk_below (zb BK230.out) hb) <| z1 (below_step zcc_ hb)
    clear BK230 HB; obtain ⟨HO234, BK230, HB⟩ := n_; (try clear hb); (try clear hb2); (try clear hk); (try clear hi); (try clear ho0); obtain ⟨Ao13, co13, eo13⟩ := Kd.S_slice HO234.out; (first | subst eo13 | (injection eo13 with f1_ f2_ f3_; have f4_ := f1_.symm; have f5_ := f3_.symm; clear f1_ f2_ f3_; subst f4_; subst f5_)); have q12 : (a0_0 : Int) ≤ ((t232.length : Int) : Int) := of_decide_eq_true za_; obtain ⟨i012, hi012, _, hsz12, _⟩ := info_parts info60; have hroom12 : t232.length ≤ co13 := (Kd.S_reads' HO234.out).2.1; have hC12 : Kd.C k60 _ Ao13 t232.length t232 := (Kd.S_reads' HO234.out).2.2; have q012 : (0 : Int) ≤ (a0_0 : Int) := of_decide_eq_true za_; have hcut12 := cut_from (P := Try.prog) 124 60 .i64 Try.underlying124 hi012 2 hsz12 Ao13 t232.length co13 a0_0 q012 q12; have hr12 := Kd.C_drop (m := (a0_0 : Int).toNat) (c := co13) hC12 (by omega) hroom12; obtain ⟨A12, hA12⟩ : ∃ A1, A1 = (if co13 = (a0_0 : Int).toNat then Ao13 else (Ao13 : Option Addr).map (·.add ((a0_0 : Int).toNat * 2))) := ⟨_, rfl⟩; obtain ⟨c12, hc12⟩ : ∃ c1, c1 = co13 - (a0_0 : Int).toNat := ⟨_, rfl⟩; have hy12 : y235.length = t232.length - (a0_0 : Int).toNat := (by rw [Ny235.out, lD] <;> omega); rw [show (t232).drop (a0_0 : Int).toNat = y235 from Ny235.out.symm] at hr12; replace hr12 : Kd.C k60 _ A12 y235.length y235 := (by rw [hA12]; exact hr12); rw [← hy12, ← hA12, ← hc12] at hcut12; have HR238 := aM hr12; have HC238 := aM (show y235.length ≤ c12 from by rw [hy12, hc12]; exact Nat.sub_le_sub_right hroom12 _); clear hr12 hC12 hroom12 hi012 hsz12 hc12; have KY12 := aM hy12; have KA12 := aM hA12; clear hy12 hA12; have KL12 := aM (show (a0_0 : Int).toNat ≤ t232.length from by omega); replace q12 := eq_true q12
    refine hK.out _ _ ⟨(blk_cell BK230.out 0).trans rfl, (blk_cell BK230.out 1).trans rfl, (blk_cell BK230.out 2).trans rfl⟩ (fun hHeld => ?_)
    clear hK K
    refine norm_ (a' := ?_) ?_ ?_
    rotate_left
    ·show Act.put _ (some 12) _ = _
     simp only [Act.put, sI, s0, sS, i64_w, i32_w]
     rfl
    refine pure_ (i := 4) (N := some 15) (v := ?_) (a' := ?_) #[ti,ti,ti,ti,ti,fi] rfl rfl (by kernel_rfl) (fun _ _ _ h => h) (Or.inl ⟨by rfl, ?_⟩) ?_ ?_; rotate_left; (· (intro w'; go_simp; with_reducible rfl)); rotate_left; (· (simp only [Act.put, sI, s0, sS, i64_w, i32_w]; rfl))
    refine pure_ (i := 5) (N := some 4) (v := ?_) (a' := ?_) #[ti,ti,ti,ti,ti,ti] rfl rfl (by kernel_rfl) (fun _ _ _ h => h) (Or.inl ⟨by rfl, ?_⟩) ?_ ?_; rotate_left; (· (intro w'; go_simp; with_reducible rfl)); rotate_left; (· (simp only [Act.put, sI, s0, sS, i64_w, i32_w]; rfl))
    refine done_ (by kernel_rfl) ?_
    (try go_wp2_with (first | ((with_reducible refine gate_dst (N := 16) rfl ?_); refine Kd.S_lit (Kd.slice 3 (Kd.int .i64)) _ 24 ?hg (N := 16) ?hd (xs := ([] : List (List Int))) (inner := []) (ok := fun _ => True) (okp := fun _ => True) ?hr ?hp (fun _ hk => hk) trivial (Below.refl _ _) (Nat.le_refl _) (by simp) ?_; (case hd => rfl); (case hg => rfl); (case hr => exact zc_); (case hp => exact (Reps.none _ _)); intro v240 w14 ho15 hb hg_ hnew_; clear hg_ hnew_; (first | rw [← Ny239.out] at ho15 | (simp only [Int.reduceToNat] at ho15; rw [← Ny239.out] at ho15)); have HOz_ := aM ho15; have HBz_ := aM hb; have HBy_ := HB; have HR238z_ := HR238; have n_ := z (Kd.S_below (zs HO234.out) hb) <| z (Kd.S_lower ho15 (below_size zcc_)) <| z (blk_below (zb BK230.out) hb) <| z (Kd.C_below (by repeat (first | (with_reducible exact HR238.out) | (with_reducible refine cA ?_ _) | (with_reducible refine cN ?_ _) | (with_reducible refine cD ?_) | exact HR238.out)) hb) <| z1 (below_step zcc_ hb); clear HO234 BK230 HR238 HB; obtain ⟨HO234, HO241, BK230, HR238, HB⟩ := n_; clear hb ho15))); have HBs_ := HBy_
    go_loopg [5, 19] k (fun kq v5 v19 w' => ∃ (x5_1 : List (List Int)) (x19_1 : Int), v19 = .int .i64 x19_1 ∧ Aside0 (impl_EqualGates.l0 kq y235 x5_1 (y235.length : Int) x19_1 = some (r1, r2)) ∧ Aside0 (kq ≤ k) ∧ Aside0 (Kd.S (Kd.slice 3 (Kd.int .i64)) 24 w' w11.heap.size (fun _ => True) v5 x5_1) ∧ Aside0 (w'.heap[gb230]? = some (.cells #[.int .i64 a0_0, (.slice A0_1 l0_1.length c0_1), (.slice A0_2 l0_2.length c0_2)] 49 (0, 0))) ∧ Aside0 (Below w11.heap.size w11 w'))
    case atStart => exact ⟨(y239), (0), zd_, H', ⟨Nat.le_refl _⟩, ⟨zs HOz_.out⟩, ⟨zb BK230.out⟩, ⟨by repeat (first | (with_reducible first | exact HBz_.out | apply pA | apply pN | apply p1 | refine below_set ?_ GE230.out) | exact HBz_.out)⟩⟩
    case round =>
     clear H'; (try clear c1); (try clear c5b0); (try clear c5b1); (try clear c6b0); (try clear c6b1); (try clear c12); (try clear q12); (try clear hcz8_0); (try clear hcz8_1); (try clear hcz8_2); (try clear hfz8_0); (try clear hfz8_1); (try clear hfz8_2); (try clear q012); obtain ⟨x5_1, x19_1, rfl, HA, HK1, HO_5, BK230, HB⟩ := hrel
     cases gk with
     | zero => exact absurd HA.out (by simp [impl_EqualGates.l0])
     | succ k1 =>
      have H := HA.out; clear HA
      simp only [impl_EqualGates.l0] at H
      by_cases c16 : x19_1 < (y235.length : Int)
      ·rw [if_pos c16] at H
       have c16b0 := decide_eq_true c16; clear c16; have H' := aM H; clear H
       go_wp2
       go_loopg [5, 7] k1 (fun kq v5 v7 w' => ∃ (x5_2 : List (List Int)) (x7_2 : Int), v7 = .int .i64 x7_2 ∧ Aside0 (impl_EqualGates.l1 kq y235 x5_2 x19_1 x7_2 (y235.length : Int) x19_1 = some (r1, r2)) ∧ Aside0 (kq ≤ k1) ∧ Aside0 (Kd.S (Kd.slice 3 (Kd.int .i64)) 24 w' w11.heap.size (fun _ => True) v5 x5_2) ∧ Aside0 (w'.heap[gb230]? = some (.cells #[.int .i64 a0_0, (.slice A0_1 l0_1.length c0_1), (.slice A0_2 l0_2.length c0_2)] 49 (0, 0))) ∧ Aside0 (Below w11.heap.size w11 w'))
       case atStart => exact ⟨(x5_1), (wrap64 (x19_1 + 1)), zd_, H', ⟨Nat.le_refl _⟩, ⟨zs HO_5.out⟩, ⟨zb BK230.out⟩, ⟨zcc_⟩⟩
       case round =>
        clear H'; (try clear c16b0); obtain ⟨x5_2, x7_2, rfl, HA, HK2, HO_5, BK230, HB⟩ := hrel
        cases gk with
        | zero => exact absurd HA.out (by simp [impl_EqualGates.l1])
        | succ k2 =>
         have H := HA.out; clear HA
         simp only [impl_EqualGates.l1] at H
         by_cases c17 : x7_2 < (y235.length : Int)
         ·rw [if_pos c17] at H
          have c17b0 := decide_eq_true c17; clear c17
          by_cases c18 : 0 ≤ x19_1
          ·rw [if_pos c18] at H
           have c18b0 := decide_eq_true c18; clear c18
           by_cases c19 : x19_1 < (y235.length : Int)
           ·rw [if_pos c19] at H
            have c19b0 := decide_eq_true c19; clear c19
            by_cases c20 : 0 ≤ x7_2
            ·rw [if_pos c20] at H
             have c20b0 := decide_eq_true c20; clear c20; replace H := oB.mp H; obtain ⟨t244, A210, H⟩ := H; replace H : (if t244 = true then (if x5_2.length < 5864062014805 then (impl_EqualGates.l1 k2 y235 (x5_2 ++ [(([x19_1, x7_2] : List Int))]) x19_1 (wrap64 (x7_2 + 1)) (y235.length : Int) x19_1) else (none)) else (impl_EqualGates.l1 k2 y235 x5_2 x19_1 (wrap64 (x7_2 + 1)) (y235.length : Int) x19_1)) = some (r1, r2) := H; have A21 := aM A210; clear A210
             by_cases c22 : t244 = true
             ·subst c22
              have H1 : (if x5_2.length < 5864062014805 then (impl_EqualGates.l1 k2 y235 (x5_2 ++ [(([x19_1, x7_2] : List Int))]) x19_1 (wrap64 (x7_2 + 1)) (y235.length : Int) x19_1) else (none)) = some (r1, r2) := by rw [if_pos rfl] at H; exact H
              clear H; have H := H1; clear H1; obtain ⟨y245, hy245⟩ : ∃ y_ : List Int, y_ = (([x19_1, x7_2] : List Int)) := ⟨_, rfl⟩; replace H : (if x5_2.length < 5864062014805 then (impl_EqualGates.l1 k2 y235 (x5_2 ++ [y245]) x19_1 (wrap64 (x7_2 + 1)) (y235.length : Int) x19_1) else (none)) = some (r1, r2) := by first | (rw [hy245]; with_reducible exact H) | (have H2_ := (oS _ _).symm.trans H; rw [hy245]; with_reducible exact H2_) | (have H2_ := (oS _ _).symm.trans H; with_reducible exact H2_) | with_reducible exact H | (rw [hy245]; exact H) | exact H
              have Ny245 := aM hy245; clear hy245
              by_cases c23 : x5_2.length < 5864062014805
              ·rw [if_pos c23] at H
               have LMc23 := aM c23; clear c23; obtain ⟨y248, hy248⟩ : ∃ y_ : List (List Int), y_ = (x5_2 ++ [y245]) := ⟨_, rfl⟩; replace H : (impl_EqualGates.l1 k2 y235 y248 x19_1 (wrap64 (x7_2 + 1)) (y235.length : Int) x19_1) = some (r1, r2) := by first | (rw [hy248]; with_reducible exact H) | (have H2_ := (oS _ _).symm.trans H; rw [hy248]; with_reducible exact H2_) | (have H2_ := (oS _ _).symm.trans H; with_reducible exact H2_) | with_reducible exact H | (rw [hy248]; exact H) | exact H
               have Ny248 := aM hy248; clear hy248; have H' := aM H; clear H; (try go_wp2); have n_ := z (Kd.S_drew HO_5.out) <| z (blk_drew BK230.out) <| z1 (p1 HB.out)
               clear HO_5 BK230 HB; obtain ⟨HO_5, BK230, HB⟩ := n_; have p242 : 0 ≤ (x19_1 : Int) := of_decide_eq_true za_; have q242 : x19_1 < (y235.length : Int) := of_decide_eq_true za_; obtain ⟨ad242, A242_1, c242_1, e242, hx242_0, hx242_1, hl242_1, hi242_1⟩ := at_T60 (Kd.C_below HR238z_.out HB.out) x19_1 p242 q242; have hw242_1 := hx242_1; have hw242_0 := hx242_0
               cases e242
               (try (replace hx242_0 := (HB.out.cell (World.block_lt_of_cell? w _ hx242_0)).trans hx242_0)); (try (replace hx242_1 := (HB.out.cell (World.block_lt_of_cell? w _ hx242_1)).trans hx242_1)); have HR242_1 := aM hi242_1; have HC242_1 := aM hl242_1; clear hi242_1 hl242_1; replace p242 := eq_true p242; replace q242 := eq_true q242; have p243 : 0 ≤ (x7_2 : Int) := of_decide_eq_true za_; have q243 : x7_2 < (y235.length : Int) := of_decide_eq_true za_; obtain ⟨ad243, A243_1, c243_1, e243, hx243_0, hx243_1, hl243_1, hi243_1⟩ := at_T60 (Kd.C_below HR238z_.out HB.out) x7_2 p243 q243; have hw243_1 := hx243_1; have hw243_0 := hx243_0; obtain rfl : ad242 = ad243 := (by injection e243); (try (replace hx243_0 := (HB.out.cell (World.block_lt_of_cell? w _ hx243_0)).trans hx243_0)); (try (replace hx243_1 := (HB.out.cell (World.block_lt_of_cell? w _ hx243_1)).trans hx243_1)); have HR243_1 := aM hi243_1; have HC243_1 := aM hl243_1; clear hi243_1 hl243_1; replace p243 := eq_true p243; replace q243 := eq_true q243
               refine start_ (n := 11) (S := fun w' => w'.cell? (ad242.add ((x19_1).toNat * 2)) = some (.int .i64 ((rd_T60 y235 x19_1).f0)) ∧ w'.cell? ⟨(ad242.add ((x19_1).toNat * 2)).block, (ad242.add ((x19_1).toNat * 2)).off + 1, none⟩ = some (.slice A242_1 ((rd_T60 y235 x19_1).f1).length c242_1) ∧ w'.cell? (ad242.add ((x7_2).toNat * 2)) = some (.int .i64 ((rd_T60 y235 x7_2).f0)) ∧ w'.cell? ⟨(ad242.add ((x7_2).toNat * 2)).block, (ad242.add ((x7_2).toNat * 2)).off + 1, none⟩ = some (.slice A243_1 ((rd_T60 y235 x7_2).f1).length c243_1)) (ds := []) #[fi,fi,fi,fi,fi,fi,fi,fi,fi,fi,fi] (by kernel_rfl) rfl rfl ⟨zic_, zid_, zie_, zif_⟩ (fun hHeld => ?_); refine with_tabW impl_EqualGates.tab11 impl_EqualGates.bits11 (fun HT_ HW_ => ?_)
               generalize wr.drew = w24 at HO_5 BK230 HB HR242_1 HR243_1 hx242_0 hx242_1 hx243_0 hx243_1 hHeld ⊢; refine py_ 0 30 HT_.out ?_; refine py_ 1 31 HT_.out ?_; refine py_ 2 32 HT_.out ?_; refine py_ 3 33 HT_.out ?_; refine py_ 5 35 HT_.out ?_; refine py_ 6 36 HT_.out ?_; refine py_ 7 37 HT_.out ?_; refine py_ 8 38 HT_.out ?_
               refine take_ (i := 4) (N := some 34) (v := ?_) (a' := ?_) #[ti,ti,ti,ti,ti,ti,ti,ti,ti,fi,fi] rfl rfl (take_ofW HT_.out HW_.out (by kernel_rfl)) (fun _ _ _ h => h) (Or.inl ⟨by rfl, ?_⟩) hHeld ?_ ?_
               rotate_left
               ·rintro w' ⟨s0, s1, s2, s3⟩
                go_simp
                with_reducible rfl
               rotate_left
               ·simp only [Act.put, sI, s0, sS, i64_w, i32_w]
                rfl
               refine take_ (i := 9) (N := some 39) (v := ?_) (a' := ?_) #[ti,ti,ti,ti,ti,ti,ti,ti,ti,ti,fi] rfl rfl (take_ofW HT_.out HW_.out (by kernel_rfl)) (fun _ _ _ h => h) (Or.inl ⟨by rfl, ?_⟩) hHeld ?_ ?_
               rotate_left
               ·rintro w' ⟨s0, s1, s2, s3⟩
                go_simp
                with_reducible rfl
               rotate_left
               ·simp only [Act.put, sI, s0, sS, i64_w, i32_w]
                rfl
               refine one_ (i := 10) (N := some 40) #[ti,ti,ti,ti,ti,ti,ti,ti,ti,ti,ti] rfl rfl (one_of HT_.out (by kernel_rfl)) (by decide) (fun K hK => ?_)
               refine goes_ Try.func122 (by kernel_rfl) rfl #[.slice A242_1 ((rd_T60 y235 x19_1).f1).length c242_1, .slice A243_1 ((rd_T60 y235 x7_2).f1).length c243_1] (by rfl) rfl rfl ze_ ?_
               with_reducible refine (slices_Equal_int_int.calls k2 _ _ ((rd_T60 y235 x19_1).f1) _ _ ((rd_T60 y235 x7_2).f1) true _ ?side1 ?side2 ?side3 ?side4 A21.out).mono ?_
               (case side1 => repeat (first | exact HR242_1.out | exact (Kd.C_below HR242_1.out HB.out) | (with_reducible refine cA ?_ _) | (with_reducible refine cN ?_ _) | (with_reducible refine cD ?_)))
               (case side2 => exact HC242_1.out)
               (case side3 => repeat (first | exact HR243_1.out | exact (Kd.C_below HR243_1.out HB.out) | (with_reducible refine cA ?_ _) | (with_reducible refine cN ?_ _) | (with_reducible refine cD ?_)))
               (case side4 => exact HC243_1.out)
               rintro e w' ⟨rfl, ⟨nd, rfl⟩⟩
               refine ⟨_, rfl, ?_⟩
               refine hK.out _ _ ⟨zic_, zid_, zie_, zif_⟩ (fun hHeld => ?_)
               clear hK K
               refine norm_ (a' := ?_) ?_ ?_
               rotate_left
               ·show Act.put _ (some 40) _ = _
                simp only [Act.put, sI, s0, sS, i64_w, i32_w]
                rfl
               refine done_ (done_of HT_.out (by kernel_rfl)) ?_
               (try go_wp2_with (first | ((with_reducible refine gate_dst (N := 44) rfl ?_); refine Kd.R_lit (Kd.int .i64) _ 3 ?hg (N := 44) ?hd (xs := ([x19_1, x7_2] : List Int)) (inner := [.int .i64 x19_1, .int .i64 x7_2]) (ok := fun _ => True) (okp := fun _ => True) ?hr ?hp (fun _ hk => hk) trivial (Below.refl _ _) (Nat.le_refl _) (by simp) ?_; (case hd => rfl); (case hg => rfl); (case hr => exact zc_); (case hp => exact (Reps.one (show Kd.M (Kd.int .i64) _ _ _ x19_1 [.int .i64 x19_1] from rfl) (Reps.one (show Kd.M (Kd.int .i64) _ _ _ x7_2 [.int .i64 x7_2] from rfl) (Reps.none _ _)))); intro v246 w25 ho26 hb hg_ hnew_; clear hg_ hnew_; (first | rw [← Ny245.out] at ho26 | (simp only [Int.reduceToNat] at ho26; rw [← Ny245.out] at ho26)); have n_ := z (Kd.S_elder' (zs HO_5.out) (Kd.R_base ho26) hb) <| z (Kd.R_lower ho26 (below_size zcc_)) <| z (blk_below (zb BK230.out) hb) <| z1 (below_step zcc_ hb); clear HO_5 BK230 HB; obtain ⟨HO_5, HO247, BK230, HB⟩ := n_; clear hb ho26; obtain ⟨Ao28, co28, eo28⟩ := Kd.R_slice HO247.out; subst eo28) | ((with_reducible refine gate_builtin (b := .append) (xs := #[.tmp 41, .tmp 45]) rfl ?_); at_builtin; refine Kd.S_append (Kd.slice 3 (Kd.int .i64)) (w0 := w11) w11.heap.size rfl (.tmp 41) (.tmp 45) 52 24 (.slice none 0 0) 24 rfl Try.underlying52 info24 rfl (by decide) (by omega) u5 x5_2 y245 [.slice Ao28 y245.length co28] (fun _ => True) (fun k_ => some k_ = (.slice Ao28 y245.length co28 : Value).ownBlock) rfl rfl ?aP (fun k_ hk_ => ((Kd.R_mono (ok' := fun k_ => ((fun _ => True)) k_ ∧ some k_ ≠ (u5 : Value).ownBlock) (Kd.R_apart' (HO247.out) (Kd.S_typed HO_5.out) (by decide)) (fun k_ hk => ⟨trivial, hk.2⟩))).1 k_ hk_.symm) ?aF ?aO ?aB ?aS ?aL ?_; (case aP => exact Kd.M_row (Kd.R_mono (Kd.R_tight rfl (Kd.R_mono (ok' := fun k_ => ((fun _ => True)) k_ ∧ some k_ ≠ (u5 : Value).ownBlock) (Kd.R_apart' (HO247.out) (Kd.S_typed HO_5.out) (by decide)) (fun k_ hk => ⟨trivial, hk.2⟩))) (fun _ h_ => h_))); (case aB => exact zcc_); (case aF => exact zbe_); (case aO => exact (by refine zs ?_; exact Kd.S_mono HO_5.out (fun k_ hk => ⟨trivial, fun e_ => hk.2 e_⟩))); (case aS => exact (below_size zcc_)); (case aL => have := LMc23.out; omega); intro v249 w27 ho hb hg hat; rw [← Ny248.out] at ho; have n_ := z (blk_grown (g := gb230) (o := .cells #[.int .i64 a0_0, .slice A0_1 l0_1.length c0_1, .slice A0_2 l0_2.length c0_2] 49 (0, 0)) (zb BK230.out) hg (Kd.S_ne HO_5.out BK230.out (by decide))) <| z (hb) <| z1 (ho); clear BK230 HB HO_5 HO247; obtain ⟨BK230, HB, HO250⟩ := n_; clear ho hb hg hat)))
               go_roundg k2
               case measure => have := HK1.out; have := HK2.out; omega
               case rel => exact ⟨(y248), (wrap64 (x7_2 + 1)), zd_, H', ⟨zca_⟩, ⟨zs HO250.out⟩, ⟨zb BK230.out⟩, ⟨zcc_⟩⟩
              ·rw [if_neg c23] at H
               exact absurd H (by simp)
             ·replace c22 := Bool.eq_false_iff.mpr c22
              subst c22; have H1 : (impl_EqualGates.l1 k2 y235 x5_2 x19_1 (wrap64 (x7_2 + 1)) (y235.length : Int) x19_1) = some (r1, r2) := by rw [if_neg (show ¬ (false = true) by decide)] at H; exact H
              clear H; have H := H1; clear H1; have H' := aM H; clear H; (try go_wp2); have n_ := z (Kd.S_drew HO_5.out) <| z (blk_drew BK230.out) <| z1 (p1 HB.out)
              clear HO_5 BK230 HB; obtain ⟨HO_5, BK230, HB⟩ := n_; have p242 : 0 ≤ (x19_1 : Int) := of_decide_eq_true za_; have q242 : x19_1 < (y235.length : Int) := of_decide_eq_true za_; obtain ⟨ad242, A242_1, c242_1, e242, hx242_0, hx242_1, hl242_1, hi242_1⟩ := at_T60 (Kd.C_below HR238z_.out HB.out) x19_1 p242 q242; have hw242_1 := hx242_1; have hw242_0 := hx242_0
              cases e242
              (try (replace hx242_0 := (HB.out.cell (World.block_lt_of_cell? w _ hx242_0)).trans hx242_0)); (try (replace hx242_1 := (HB.out.cell (World.block_lt_of_cell? w _ hx242_1)).trans hx242_1)); have HR242_1 := aM hi242_1; have HC242_1 := aM hl242_1; clear hi242_1 hl242_1; replace p242 := eq_true p242; replace q242 := eq_true q242; have p243 : 0 ≤ (x7_2 : Int) := of_decide_eq_true za_; have q243 : x7_2 < (y235.length : Int) := of_decide_eq_true za_; obtain ⟨ad243, A243_1, c243_1, e243, hx243_0, hx243_1, hl243_1, hi243_1⟩ := at_T60 (Kd.C_below HR238z_.out HB.out) x7_2 p243 q243; have hw243_1 := hx243_1; have hw243_0 := hx243_0; obtain rfl : ad242 = ad243 := (by injection e243); (try (replace hx243_0 := (HB.out.cell (World.block_lt_of_cell? w _ hx243_0)).trans hx243_0)); (try (replace hx243_1 := (HB.out.cell (World.block_lt_of_cell? w _ hx243_1)).trans hx243_1)); have HR243_1 := aM hi243_1; have HC243_1 := aM hl243_1; clear hi243_1 hl243_1; replace p243 := eq_true p243; replace q243 := eq_true q243
              refine start_ (n := 11) (S := fun w' => w'.cell? (ad242.add ((x19_1).toNat * 2)) = some (.int .i64 ((rd_T60 y235 x19_1).f0)) ∧ w'.cell? ⟨(ad242.add ((x19_1).toNat * 2)).block, (ad242.add ((x19_1).toNat * 2)).off + 1, none⟩ = some (.slice A242_1 ((rd_T60 y235 x19_1).f1).length c242_1) ∧ w'.cell? (ad242.add ((x7_2).toNat * 2)) = some (.int .i64 ((rd_T60 y235 x7_2).f0)) ∧ w'.cell? ⟨(ad242.add ((x7_2).toNat * 2)).block, (ad242.add ((x7_2).toNat * 2)).off + 1, none⟩ = some (.slice A243_1 ((rd_T60 y235 x7_2).f1).length c243_1)) (ds := []) #[fi,fi,fi,fi,fi,fi,fi,fi,fi,fi,fi] (by kernel_rfl) rfl rfl ⟨zic_, zid_, zie_, zif_⟩ (fun hHeld => ?_); refine with_tabW impl_EqualGates.tab11 impl_EqualGates.bits11 (fun HT_ HW_ => ?_)
              generalize wr.drew = w29 at HO_5 BK230 HB HR242_1 HR243_1 hx242_0 hx242_1 hx243_0 hx243_1 hHeld ⊢; refine py_ 0 30 HT_.out ?_; refine py_ 1 31 HT_.out ?_; refine py_ 2 32 HT_.out ?_; refine py_ 3 33 HT_.out ?_; refine py_ 5 35 HT_.out ?_; refine py_ 6 36 HT_.out ?_; refine py_ 7 37 HT_.out ?_; refine py_ 8 38 HT_.out ?_
              refine take_ (i := 4) (N := some 34) (v := ?_) (a' := ?_) #[ti,ti,ti,ti,ti,ti,ti,ti,ti,fi,fi] rfl rfl (take_ofW HT_.out HW_.out (by kernel_rfl)) (fun _ _ _ h => h) (Or.inl ⟨by rfl, ?_⟩) hHeld ?_ ?_
              rotate_left
              ·rintro w' ⟨s0, s1, s2, s3⟩
               go_simp
               with_reducible rfl
              rotate_left
              ·simp only [Act.put, sI, s0, sS, i64_w, i32_w]
               rfl
              refine take_ (i := 9) (N := some 39) (v := ?_) (a' := ?_) #[ti,ti,ti,ti,ti,ti,ti,ti,ti,ti,fi] rfl rfl (take_ofW HT_.out HW_.out (by kernel_rfl)) (fun _ _ _ h => h) (Or.inl ⟨by rfl, ?_⟩) hHeld ?_ ?_
              rotate_left
              ·rintro w' ⟨s0, s1, s2, s3⟩
               go_simp
               with_reducible rfl
              rotate_left
              ·simp only [Act.put, sI, s0, sS, i64_w, i32_w]
               rfl
              refine one_ (i := 10) (N := some 40) #[ti,ti,ti,ti,ti,ti,ti,ti,ti,ti,ti] rfl rfl (one_of HT_.out (by kernel_rfl)) (by decide) (fun K hK => ?_)
              refine goes_ Try.func122 (by kernel_rfl) rfl #[.slice A242_1 ((rd_T60 y235 x19_1).f1).length c242_1, .slice A243_1 ((rd_T60 y235 x7_2).f1).length c243_1] (by rfl) rfl rfl ze_ ?_
              with_reducible refine (slices_Equal_int_int.calls k2 _ _ ((rd_T60 y235 x19_1).f1) _ _ ((rd_T60 y235 x7_2).f1) false _ ?side1 ?side2 ?side3 ?side4 A21.out).mono ?_
              (case side1 => repeat (first | exact HR242_1.out | exact (Kd.C_below HR242_1.out HB.out) | (with_reducible refine cA ?_ _) | (with_reducible refine cN ?_ _) | (with_reducible refine cD ?_)))
              (case side2 => exact HC242_1.out)
              (case side3 => repeat (first | exact HR243_1.out | exact (Kd.C_below HR243_1.out HB.out) | (with_reducible refine cA ?_ _) | (with_reducible refine cN ?_ _) | (with_reducible refine cD ?_)))
              (case side4 => exact HC243_1.out)
              rintro e w' ⟨rfl, ⟨nd, rfl⟩⟩
              refine ⟨_, rfl, ?_⟩
              refine hK.out _ _ ⟨zic_, zid_, zie_, zif_⟩ (fun hHeld => ?_)
              clear hK K
              refine norm_ (a' := ?_) ?_ ?_
              rotate_left
              ·show Act.put _ (some 40) _ = _
               simp only [Act.put, sI, s0, sS, i64_w, i32_w]
               rfl
              refine done_ (done_of HT_.out (by kernel_rfl)) ?_
              (try go_wp2)
              go_roundg k2
              case measure => have := HK1.out; have := HK2.out; omega
              case rel => exact ⟨(x5_2), (wrap64 (x7_2 + 1)), zd_, H', ⟨zca_⟩, ⟨zs HO_5.out⟩, ⟨zb BK230.out⟩, ⟨zcc_⟩⟩
            ·rw [if_neg c20] at H
             exact absurd H (by simp)
           ·rw [if_neg c19] at H
            exact absurd H (by simp)
          ·rw [if_neg c18] at H
           exact absurd H (by simp)
         ·rw [if_neg c17] at H
          have c17b0 := decide_eq_false c17; clear c17; have H' := aM H; clear H
          go_wp2
          go_roundg k2
          case measure => have := HK1.out; have := HK2.out; omega
          case rel => exact ⟨(x5_2), (wrap64 (x19_1 + 1)), zd_, H', ⟨zca_⟩, ⟨zs HO_5.out⟩, ⟨zb BK230.out⟩, ⟨zcc_⟩⟩
      ·rw [if_neg c16] at H
       have c16b0 := decide_eq_false c16; clear c16
       simp only [Option.some.injEq, Prod.mk.injEq] at H
       obtain ⟨rfl, rfl⟩ := H
       go_wp2
       go_ret2
       exact ⟨_, zf_, by refine zs ?_; exact Kd.S_lower HO_5.out (below_size HBs_.out), by repeat (first | (with_reducible first | exact below_step HBs_.out HB.out | apply pA | apply pN | apply p1 | refine below_set ?_ GE230.out) | exact below_step HBs_.out HB.out)⟩
   ·rw [if_neg c6] at H
    exact absurd H (by simp)
  ·rw [if_neg c5] at H
   exact absurd H (by simp)
 ·replace c3 := Bool.eq_false_iff.mpr c3
  subst c3; have H1 : (some (([] : List (List Int)), false)) = some (r1, r2) := by rw [if_neg (show ¬ (false = true) by decide)] at H; exact H
  clear H; have H := H1; clear H1
  simp only [Option.some.injEq, Prod.mk.injEq] at H
  obtain ⟨rfl, rfl⟩ := H
  go_enter Try.func29, Try.ntmps29
  go_wp2_with (first | ((with_reducible refine gate_dst (N := 1) rfl ?_); refine box_event ?hg (N := 1) ?hd (cs := #[.int .i64 a0_0, .slice A0_1 l0_1.length c0_1, .slice A0_2 l0_2.length c0_2]) (t := 49) ?hr ?_; (case hd => rfl); (case hg => rfl); (case hr => exact zc_); intro gb230 hg w30 hbox hb; have n_ := z (below_step zb_ hb) <| z (hbox) <| z ((by rw [hg]; exact (below_size zb_) : w.heap.size ≤ gb230)) <| z1 ((by rw [hg]; exact (below_size zb_) : w.heap.size ≤ gb230)); clear HB; obtain ⟨HB, BK230, GW230, GE230⟩ := n_; clear hb hbox hg; have hcz31_0 : w30.cell? ⟨gb230, 0, none⟩ = some (.int .i64 a0_0) := (blk_cell BK230.out 0).trans rfl; have hcz31_1 : w30.cell? ⟨gb230, 1, none⟩ = some (.slice A0_1 l0_1.length c0_1) := (blk_cell BK230.out 1).trans rfl; have hcz31_2 : w30.cell? ⟨gb230, 2, none⟩ = some (.slice A0_2 l0_2.length c0_2) := (blk_cell BK230.out 2).trans rfl; have hfz31_0 := blk_frozen BK230.out 0; have hfz31_1 := blk_frozen BK230.out 1; have hfz31_2 := blk_frozen BK230.out 2) | ((with_reducible refine gate_callee (f := 118) rfl ?_); refine goesL_ (some 9) rfl rfl Try.func118 (by kernel_rfl) rfl #[.agg #[.int .i64 a0_0, .slice A0_1 l0_1.length c0_1, .slice A0_2 l0_2.length c0_2]] rfl ze_ ?_; (with_reducible refine (impl_IsCircuit.calls k a0_0 _ _ l0_1 _ _ l0_2 false _ ?side1 ?side2 ?side3 ?side4 A2.out).mono ?_); (case side1 => repeat (first | exact HR0_1.out | exact (Kd.C_below HR0_1.out HB.out) | (with_reducible refine cA ?_ _) | (with_reducible refine cN ?_ _) | (with_reducible refine cD ?_))); (case side2 => exact HC0_1.out); (case side3 => repeat (first | exact HR0_2.out | exact (Kd.C_below HR0_2.out HB.out) | (with_reducible refine cA ?_ _) | (with_reducible refine cN ?_ _) | (with_reducible refine cD ?_))); (case side4 => exact HC0_2.out); rintro e w32 ⟨rfl, hb⟩; refine ⟨_, rfl, ?_⟩; have n_ := z (blk_below (zb BK230.out) hb) <| z1 (below_step zcc_ hb); clear BK230 HB; obtain ⟨BK230, HB⟩ := n_; clear hb))
  go_ret2
  exact ⟨_, zf_, zjg_, zcc_⟩
def spec_l1Same.l0 : Nat → List Int → List Int → Int → Int → Option (Bool)
 | 0, _, _, _, _ => none
 | k + 1, x0, x1, x12, x13 => if x13 < x12 then (if 0 ≤ x13 then (if x13 < (x0.length : Int) then (if x13 < (x1.length : Int) then (if (rd x0 x13) = (rd x1 x13) then (spec_l1Same.l0 k x0 x1 x12 (wrap64 (x13 + 1))) else (some false)) else (none)) else (none)) else (none)) else (some true)
def spec_l1Same.f (k : Nat) (l0 : List Int) (l1 : List Int) : Option (Bool) := if (l0.length : Int) = (l1.length : Int) then (spec_l1Same.l0 k l0 l1 (l0.length : Int) 0) else (some false)
theorem spec_l1Same.calls (k : Nat) (A0 : Option Addr) (c0 : Nat) (l0 : List Int) (A1 : Option Addr) (c1 : Nat) (l1 : List Int) (r : Bool) (w : World) (hr0 : Kd.C (Kd.int .i64) w A0 l0.length l0) (hc0 : l0.length ≤ c0) (hr1 : Kd.C (Kd.int .i64) w A1 l1.length l1) (hc1 : l1.length ≤ c1) (h : spec_l1Same.f k l0 l1 = some r) :
  Calls Try.prog 123 #[.slice A0 l0.length c0, .slice A1 l1.length c1] w fun e w' => e = .returned (.bool r) ∧ Drawn0 w w' := by
 have HR0 := aM hr0
 have HC0 := aM hc0
 clear hr0 hc0
 have HR1 := aM hr1
 have HC1 := aM hc1
 clear hr1 hc1
 have H : (if (l0.length : Int) = (l1.length : Int) then (spec_l1Same.l0 k l0 l1 (l0.length : Int) 0) else (some false)) = some r := h
 clear h
 by_cases c3 : (l0.length : Int) = (l1.length : Int)
 ·rw [if_pos c3] at H
  have c3b0 := beq_iff_eq.mpr c3; have c3b1 := bne_eq_false_iff_eq.mpr c3; have c3b2 : (l0.length == l1.length) = true := by first | simpa using c3 | (simp at c3 ⊢; omega)
  clear c3; have H' := aM H; clear H
  go_enter Try.func123, Try.ntmps123
  go_wp2
  repeat (go_quiet (fail); try go_wp2)
  go_loopg [13] k (fun kq v13 w' => ∃ (x13_1 : Int), v13 = .int .i64 x13_1 ∧ Aside0 (spec_l1Same.l0 kq l0 l1 (l0.length : Int) x13_1 = some r) ∧ Aside0 (kq ≤ k) ∧ Drawn0 w w')
  case atStart => exact ⟨(0), zd_, H', ⟨Nat.le_refl _⟩, zi_⟩
  case round =>
   clear H'; (try clear c3b0); (try clear c3b1); (try clear c3b2); obtain ⟨x13_1, rfl, HA, HK1, ⟨m1, rfl⟩⟩ := hrel
   cases gk with
   | zero => exact absurd HA.out (by simp [spec_l1Same.l0])
   | succ k1 =>
    have H := HA.out; clear HA
    simp only [spec_l1Same.l0] at H
    by_cases c4 : x13_1 < (l0.length : Int)
    ·rw [if_pos c4] at H
     have c4b0 := decide_eq_true c4; clear c4
     by_cases c5 : 0 ≤ x13_1
     ·rw [if_pos c5] at H
      have c5b0 := decide_eq_true c5; clear c5
      by_cases c6 : x13_1 < (l0.length : Int)
      ·rw [if_pos c6] at H
       have c6b0 := decide_eq_true c6; clear c6
       by_cases c7 : x13_1 < (l1.length : Int)
       ·rw [if_pos c7] at H
        have c7b0 := decide_eq_true c7; clear c7
        by_cases c8 : (rd l0 x13_1) = (rd l1 x13_1)
        ·rw [if_pos c8] at H
         have c8b0 := beq_iff_eq.mpr c8; have c8b1 := bne_eq_false_iff_eq.mpr c8; clear c8; have H' := aM H; clear H; have p251 : 0 ≤ (x13_1 : Int) := of_decide_eq_true za_; have q251 : x13_1 < (l0.length : Int) := of_decide_eq_true za_; obtain ⟨ad251, e251, hx251_0⟩ := Kd.at_int HR0.out x13_1 p251 q251
         cases e251
         replace p251 := eq_true p251; replace q251 := eq_true q251; have p252 : 0 ≤ (x13_1 : Int) := of_decide_eq_true za_; have q252 : x13_1 < (l1.length : Int) := of_decide_eq_true za_; obtain ⟨ad252, e252, hx252_0⟩ := Kd.at_int HR1.out x13_1 p252 q252
         cases e252
         replace p252 := eq_true p252; replace q252 := eq_true q252
         go_wp2
         repeat (go_quiet (fail); try go_wp2)
         go_roundg k1
         case measure => have := HK1.out; omega
         case rel => exact ⟨(wrap64 (x13_1 + 1)), zd_, H', ⟨zbd_⟩, zi_⟩
        ·rw [if_neg c8] at H
         have c8b0 := beq_eq_false_iff_ne.mpr c8; have c8b1 := bne_iff_ne.mpr c8; obtain rfl := Option.some.inj H; have p251 : 0 ≤ (x13_1 : Int) := of_decide_eq_true za_; have q251 : x13_1 < (l0.length : Int) := of_decide_eq_true za_; obtain ⟨ad251, e251, hx251_0⟩ := Kd.at_int HR0.out x13_1 p251 q251
         cases e251
         replace p251 := eq_true p251; replace q251 := eq_true q251; have p252 : 0 ≤ (x13_1 : Int) := of_decide_eq_true za_; have q252 : x13_1 < (l1.length : Int) := of_decide_eq_true za_; obtain ⟨ad252, e252, hx252_0⟩ := Kd.at_int HR1.out x13_1 p252 q252
         cases e252
         replace p252 := eq_true p252; replace q252 := eq_true q252
         go_wp2
         repeat (go_quiet (fail); try go_wp2)
         go_ret
         exact ⟨zd_, zi_⟩
       ·rw [if_neg c7] at H
        exact absurd H (by simp)
      ·rw [if_neg c6] at H
       exact absurd H (by simp)
     ·rw [if_neg c5] at H
      exact absurd H (by simp)
    ·rw [if_neg c4] at H
     have c4b0 := decide_eq_false c4; clear c4; obtain rfl := Option.some.inj H
     go_wp2
     repeat (go_quiet (fail); try go_wp2)
     go_ret
     exact ⟨zd_, zi_⟩
 ·rw [if_neg c3] at H
  have c3b0 := beq_eq_false_iff_ne.mpr c3; have c3b1 := bne_iff_ne.mpr c3; have c3b2 : (l0.length == l1.length) = false := by first | simpa using c3 | (simp at c3 ⊢; omega)
  obtain rfl := Option.some.inj H
  go_enter Try.func123, Try.ntmps123
  go_wp2
  repeat (go_quiet (fail); try go_wp2)
  go_ret
  exact ⟨zd_, zi_⟩
def spec_ttBit.f (a0 : Int) (a1 : Int) : Option (Int) := if 0 ≤ (IntKind.u64.wrap (a1)) then (some (Go.bits .and .i64 (shr .i64 a0 (IntKind.u64.wrap (a1))) 1)) else (none)
theorem spec_ttBit.calls (a0 : Int) (a1 : Int) (r : Int) (w : World) (h : spec_ttBit.f a0 a1 = some r) :
  Calls Try.prog 181 #[.int .i64 a0, .int .i64 a1] w fun e w' => e = .returned (.int .i64 r) ∧ Drawn0 w w' := by
 have H : (if 0 ≤ (IntKind.u64.wrap (a1)) then (some (Go.bits .and .i64 (shr .i64 a0 (IntKind.u64.wrap (a1))) 1)) else (none)) = some r := h
 clear h
 obtain ⟨ji3, hji3⟩ : ∃ j_ : Int, (IntKind.u64.wrap (a1)) = j_ := ⟨_, rfl⟩
 replace H : (if 0 ≤ (ji3) then (some (Go.bits .and .i64 (shr .i64 a0 (ji3)) 1)) else (none)) = some r := by first | (rw [hji3] at H; exact H) | (simp only [hji3] at H ⊢; exact H)
 by_cases c4 : 0 ≤ (ji3)
 ·rw [if_pos c4] at H
  have c4b0 := eq_true c4; have c4b1 := decide_eq_true c4; clear c4; obtain ⟨ji5, hji5⟩ : ∃ j_ : Int, (shr .i64 a0 (ji3)) = j_ := ⟨_, rfl⟩; replace H : (some (Go.bits .and .i64 (ji5) 1)) = some r := by first | (rw [hji5] at H; exact H) | (simp only [hji5] at H ⊢; exact H)
  have hji5_ : (a0 / 2 ^ min (ji3).toNat 64) = ji5 := hji5; have hji5z : (ji3) ≤ 64 → (a0 / 2 ^ (ji3).toNat) = ji5 := shr_small hji5; obtain rfl := Option.some.inj H
  go_enter Try.func181, Try.ntmps181
  go_wp2
  go_ret
  exact ⟨by first | rfl | (simp; done) | (simp only [← hji3, ← hji5] <;> (first | rfl | simp)) | (simp [*]; done), zi_⟩
 ·rw [if_neg c4] at H
  exact absurd H (by simp)
end Go.Proofs.Ytbkighlfgaifeaa.QFnGates
