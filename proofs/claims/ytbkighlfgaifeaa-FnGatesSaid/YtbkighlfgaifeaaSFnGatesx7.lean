/- Functions of FnGates, each as a Lean function, with the proof that the Go code comes to its answers. -/
import Derived.Test.YtbkighlfgaifeaaSFnGatesx0
import Derived.Test.YtbkighlfgaifeaaSFnGatesx6
namespace Go.Proofs.Ytbkighlfgaifeaa.QFnGates
open Go.RowKit Go.Proofs.YtbkighlfgaifeaaW.PrintWords Go.Proofs.YtbkighlfgaifeaaW.PrintLast Go.Proofs.YtbkighlfgaifeaaW.PrintMore
open Go.Proofs.YtbkighlfgaifeaaW.PrintWords renaming pw_below_drewN → pN, below_drew1 → p1, below_alloc → pA
open Go.Proofs.YtbkighlfgaifeaaW.PrintWords.Kd renaming R_alloc → kA, R_drewN → kN, R_drew → kD, Q_alloc → qA, Q_drewN → qN, Q_drew → qD, C_alloc → cA, C_drewN → cN, C_drew → cD
open Go.Proofs.YtbkighlfgaifeaaW.PrintWords.Aside0 renaming mk → aM
open List renaming setIfInBounds_toArray → sI, set_cons_zero → s0, set_cons_succ → sS, map_toArray → mT, length_take → lT, length_drop → lD, map_cons → mC, map_nil → mN
open Option renaming bind_eq_some_iff → oB, bind_some → oS
attribute [local go_sem] max2_int min2_int max_two min_two max_three min_three max_four min_four
set_option maxHeartbeats 8000000
set_option maxRecDepth 100000
set_option linter.unusedVariables false
set_option linter.unusedSimpArgs false
mutual
def impl_wireTables.l0 : Nat → List (S60) → Int → Int → List (S57) → List Int → Option ((List (S60)))
 | 0, _, _, _, _, _ => none
 | k + 1, x3, x4, x212000, x212001, x212002 => if 0 ≤ x212000 then (if x4 < (shl .i64 1 x212000) then ((impl_bitList.f k x4 x212000).bind fun t215 => ((impl_wireValues.f k x212000 x212001 x212002 t215).bind fun t218 => (impl_wireTables.l1 k x3 x4 t218 (t218.length : Int) 0 x212000 x212001 x212002))) else (some x3)) else (none)
def impl_wireTables.l1 : Nat → List (S60) → Int → List Int → Int → Int → Int → List (S57) → List Int → Option ((List (S60)))
 | 0, _, _, _, _, _, _, _, _ => none
 | k + 1, x3, x4, x26, x27, x28, x212000, x212001, x212002 => if x28 < x27 then (if 0 ≤ x28 then (if x28 < (x26.length : Int) then (if x28 < (x3.length : Int) then ((some (x3.set (x28 : Int).toNat (⟨x212000, (rd_T60 x3 x28).f1⟩ : S60) : List (S60))).bind fun y222 => (if ((rd_T60 y222 x28).f1).length < 17592186044416 then (impl_wireTables.l1 k (y222.set (x28 : Int).toNat (⟨(rd_T60 y222 x28).f0, (((rd_T60 y222 x28).f1) ++ [rd x26 x28])⟩ : S60)) x4 x26 x27 (wrap64 (x28 + 1)) x212000 x212001 x212002) else (none))) else (none)) else (none)) else (none)) else (impl_wireTables.l0 k x3 (wrap64 (x4 + 1)) x212000 x212001 x212002)
end
def impl_wireTables.f (k : Nat) (a0_0 : Int) (l0_1 : List (S57)) (l0_2 : List Int) : Option ((List (S60))) := if 0 ≤ (wrap64 (a0_0 + (l0_1.length : Int))) then (if (wrap64 (a0_0 + (l0_1.length : Int)) : Int).toNat ≤ 8796093022208 then (impl_wireTables.l0 k (List.replicate (wrap64 (a0_0 + (l0_1.length : Int)) : Int).toNat z60) 0 a0_0 l0_1 l0_2) else (none)) else (none)
def impl_wireTables.T5 : Bool × List (List Nat × List Nat) := (true, [([], []), ([], []), ([], []), ([2], [2]), ([1, 3], [1, 3]), ([0, 4, 4], [0, 4]), ([5], [5]), ([], [])])
def impl_wireTables.B5 : List Nat := [0, 0, 0, 4, 14, 31, 63, 0]
theorem impl_wireTables.tab5 : rtab .any (opsOf Try.f121 5) = impl_wireTables.T5 := by kernel_rfl
theorem impl_wireTables.bits5 : waitsOk impl_wireTables.T5.2 impl_wireTables.B5 = true := by kernel_rfl
theorem impl_wireTables.calls (k : Nat) (a0_0 : Int) (A0_1 : Option Addr) (c0_1 : Nat) (l0_1 : List (S57)) (A0_2 : Option Addr) (c0_2 : Nat) (l0_2 : List Int) (r : List (S60)) (w : World) (hr0_1 : Kd.C k57 w A0_1 l0_1.length l0_1) (hc0_1 : l0_1.length ≤ c0_1) (hr0_2 : Kd.C (Kd.int .i64) w A0_2 l0_2.length l0_2) (hc0_2 : l0_2.length ≤ c0_2) (h : impl_wireTables.f k a0_0 l0_1 l0_2 = some r) :
  Calls Try.prog 121 #[.agg #[.int .i64 a0_0, .slice A0_1 l0_1.length c0_1, .slice A0_2 l0_2.length c0_2]] w fun e w' => ∃ v0_ : Value, e = .returned (v0_) ∧ Kd.S k60 60 w' w.heap.size (fun _ => True) v0_ r ∧ Below w.heap.size w w' := by
 have hu49 := Try.underlying49
 have HR0_1 := aM hr0_1
 have HC0_1 := aM hc0_1
 clear hr0_1 hc0_1
 have HR0_2 := aM hr0_2
 have HC0_2 := aM hc0_2
 clear hr0_2 hc0_2
 have HB := aM (Below.refl w.heap.size w)
 have H : (if 0 ≤ (wrap64 (a0_0 + (l0_1.length : Int))) then (if (wrap64 (a0_0 + (l0_1.length : Int)) : Int).toNat ≤ 8796093022208 then (impl_wireTables.l0 k (List.replicate (wrap64 (a0_0 + (l0_1.length : Int)) : Int).toNat z60) 0 a0_0 l0_1 l0_2) else (none)) else (none)) = some r := h
 clear h
 obtain ⟨ji2, hji2⟩ : ∃ j_ : Int, (wrap64 (a0_0 + (l0_1.length : Int))) = j_ := ⟨_, rfl⟩
 replace H : (if 0 ≤ (ji2) then (if (ji2 : Int).toNat ≤ 8796093022208 then (impl_wireTables.l0 k (List.replicate (ji2 : Int).toNat z60) 0 a0_0 l0_1 l0_2) else (none)) else (none)) = some r := by first | (rw [hji2] at H; exact H) | (simp only [hji2] at H ⊢; exact H)
 have hji2w : (IntKind.i64.wrap (a0_0 + (l0_1.length : Int))) = ji2 := (i64_w _).trans hji2
 by_cases c3 : 0 ≤ (ji2)
 ·rw [if_pos c3] at H
  have c3b0 := eq_true c3; have c3b1 := decide_eq_true c3; clear c3
  by_cases c4 : (ji2 : Int).toNat ≤ 8796093022208
  ·rw [if_pos c4] at H
   have c4b0 := eq_true c4; have c4b1 := decide_eq_true c4; clear c4; obtain ⟨y212, hy212⟩ : ∃ y_ : List (S60), y_ = (List.replicate (ji2 : Int).toNat z60) := ⟨_, rfl⟩; replace H : (impl_wireTables.l0 k y212 0 a0_0 l0_1 l0_2) = some r := by first | (rw [hy212]; with_reducible exact H) | (have H2_ := (oS _ _).symm.trans H; rw [hy212]; with_reducible exact H2_) | (have H2_ := (oS _ _).symm.trans H; with_reducible exact H2_) | with_reducible exact H | (rw [hy212]; exact H) | exact H
   have Ny212 := aM hy212; clear hy212; have H' := aM H; clear H
   go_enter Try.func121, Try.ntmps121
   go_wp2_with (first | ((with_reducible refine gate_dst (N := 1) rfl ?_); refine box_event ?hg (N := 1) ?hd (cs := #[.int .i64 a0_0, .slice A0_1 l0_1.length c0_1, .slice A0_2 l0_2.length c0_2]) (t := 49) ?hr ?_; (case hd => rfl); (case hg => rfl); (case hr => exact zc_); intro gb211 hg w5 hbox hb; have n_ := z (below_step zb_ hb) <| z (hbox) <| z ((by rw [hg]; exact (below_size zb_) : w.heap.size ≤ gb211)) <| z1 ((by rw [hg]; exact (below_size zb_) : w.heap.size ≤ gb211)); clear HB; obtain ⟨HB, BK211, GW211, GE211⟩ := n_; clear hb hbox hg; have hcz6_0 : w5.cell? ⟨gb211, 0, none⟩ = some (.int .i64 a0_0) := (blk_cell BK211.out 0).trans rfl; have hcz6_1 : w5.cell? ⟨gb211, 1, none⟩ = some (.slice A0_1 l0_1.length c0_1) := (blk_cell BK211.out 1).trans rfl; have hcz6_2 : w5.cell? ⟨gb211, 2, none⟩ = some (.slice A0_2 l0_2.length c0_2) := (blk_cell BK211.out 2).trans rfl; have hfz6_0 := blk_frozen BK211.out 0; have hfz6_1 := blk_frozen BK211.out 1; have hfz6_2 := blk_frozen BK211.out 2) | ((with_reducible refine gate_dst (N := 13) rfl ?_); refine Kd.S_make k60 _ 60 rfl (N := 13) rfl 124 _ _ rfl ji2 rfl rfl Try.underlying124 (.agg #[(.int .i64 0), (.slice none 0 0)]) 32 info60 rfl (by decide) (by omega) z60 (ok := fun _ => True) (okp := fun _ => True) (k60_mkM _ _ _ z60 (Kd.R_nil _ _ _ _ _)) (fun _ hk => hk) trivial (of_decide_eq_true za_) (Nat.le_trans (Nat.mul_le_mul_right _ (of_decide_eq_true za_ : ji2.toNat ≤ 8796093022208)) (by omega)) (Below.refl _ _) (Nat.le_refl _) ?_; intro v213 w7 ho8 hb hg_ hnew_; clear hg_ hnew_; (first | rw [← Ny212.out] at ho8 | (simp only [Int.reduceToNat] at ho8; rw [← Ny212.out] at ho8)); have n_ := z (Kd.S_lower ho8 (below_size zda_)) <| z (blk_below (zb BK211.out) hb) <| z1 (below_step zda_ hb); clear BK211 HB; obtain ⟨HO214, BK211, HB⟩ := n_; clear hb ho8))
   go_loopg [4] k (fun kq v4 w' => ∃ (x3_1 : List (S60)) (x4_1 : Int), v4 = .int .i64 x4_1 ∧ Aside0 (impl_wireTables.l0 kq x3_1 x4_1 a0_0 l0_1 l0_2 = some r) ∧ Aside0 (kq ≤ k) ∧ Aside0 (Kd.S k60 60 w' w.heap.size (fun _ => True) v213 x3_1) ∧ Aside0 (w'.heap[gb211]? = some (.cells #[.int .i64 a0_0, (.slice A0_1 l0_1.length c0_1), (.slice A0_2 l0_2.length c0_2)] 49 (0, 0))) ∧ Aside0 (Below w.heap.size w w'))
   case atStart => exact ⟨(y212), (0), zd_, H', ⟨Nat.le_refl _⟩, ⟨zs HO214.out⟩, ⟨zb BK211.out⟩, ⟨zda_⟩⟩
   case round =>
    clear H'; (try clear c3b0); (try clear c3b1); (try clear c4b0); (try clear c4b1); (try clear hcz6_0); (try clear hcz6_1); (try clear hcz6_2); (try clear hfz6_0); (try clear hfz6_1); (try clear hfz6_2); obtain ⟨x3_1, x4_1, rfl, HA, HK1, HO_3, BK211, HB⟩ := hrel
    cases gk with
    | zero => exact absurd HA.out (by simp [impl_wireTables.l0])
    | succ k1 =>
     have H := HA.out; clear HA
     simp only [impl_wireTables.l0] at H
     by_cases c9 : 0 ≤ a0_0
     ·rw [if_pos c9] at H
      have c9b0 := eq_true c9; have c9b1 := decide_eq_true c9; clear c9; obtain ⟨ji10, hji10⟩ : ∃ j_ : Int, (shl .i64 1 a0_0) = j_ := ⟨_, rfl⟩; replace H : (if x4_1 < (ji10) then ((impl_bitList.f k1 x4_1 a0_0).bind fun t215 => ((impl_wireValues.f k1 a0_0 l0_1 l0_2 t215).bind fun t218 => (impl_wireTables.l1 k1 x3_1 x4_1 t218 (t218.length : Int) 0 a0_0 l0_1 l0_2))) else (some x3_1)) = some r := by first | (rw [hji10] at H; exact H) | (simp only [hji10] at H ⊢; exact H)
      have hji10_ : (IntKind.i64.wrap (1 * 2 ^ min a0_0.toNat 64)) = ji10 := hji10; have hji10z : a0_0 ≤ 64 → (IntKind.i64.wrap (1 * 2 ^ a0_0.toNat)) = ji10 := shl_small hji10; have hji10u : (IntKind.i64.wrap (2 ^ min a0_0.toNat 64)) = ji10 := by have h_ := hji10_; rw [Int.one_mul] at h_; exact h_
      have hji10v : a0_0 ≤ 64 → (IntKind.i64.wrap (2 ^ a0_0.toNat)) = ji10 := fun hle_ => by have h_ := hji10z hle_; rw [Int.one_mul] at h_; exact h_
      have hji10y : (wrap64 (1 * 2 ^ min a0_0.toNat 64)) = ji10 := (i64_w _).symm.trans hji10_; have hji10x : a0_0 ≤ 64 → (wrap64 (1 * 2 ^ a0_0.toNat)) = ji10 := fun h_ => (i64_w _).symm.trans (hji10z h_)
      by_cases c11 : x4_1 < (ji10)
      ·rw [if_pos c11] at H
       have c11b0 := decide_eq_true c11; clear c11; replace H := oB.mp H; obtain ⟨t215, A120, H⟩ := H; replace H : ((impl_wireValues.f k1 a0_0 l0_1 l0_2 t215).bind fun t218 => (impl_wireTables.l1 k1 x3_1 x4_1 t218 (t218.length : Int) 0 a0_0 l0_1 l0_2)) = some r := H; have A12 := aM A120; clear A120; replace H := oB.mp H; obtain ⟨t218, A130, H⟩ := H; replace H : (impl_wireTables.l1 k1 x3_1 x4_1 t218 (t218.length : Int) 0 a0_0 l0_1 l0_2) = some r := H; have A13 := aM A130; clear A130; have H' := aM H; clear H; have hcz14_0 : wr.cell? ⟨gb211, 0, none⟩ = some (.int .i64 a0_0) := (blk_cell BK211.out 0).trans rfl; have hcz14_1 : wr.cell? ⟨gb211, 1, none⟩ = some (.slice A0_1 l0_1.length c0_1) := (blk_cell BK211.out 1).trans rfl; have hcz14_2 : wr.cell? ⟨gb211, 2, none⟩ = some (.slice A0_2 l0_2.length c0_2) := (blk_cell BK211.out 2).trans rfl; have hfz14_0 := blk_frozen BK211.out 0; have hfz14_1 := blk_frozen BK211.out 1; have hfz14_2 := blk_frozen BK211.out 2; (try go_wp2); have n_ := z (Kd.S_drew HO_3.out) <| z (blk_drew BK211.out) <| z1 (p1 HB.out)
       clear HO_3 BK211 HB; obtain ⟨HO_3, BK211, HB⟩ := n_
       refine start_ (n := 8) (S := fun w' => w'.cell? ⟨gb211, 0, none⟩ = some (.int .i64 a0_0) ∧ w'.cell? ⟨gb211, 1, none⟩ = some (.slice A0_1 l0_1.length c0_1) ∧ w'.cell? ⟨gb211, 2, none⟩ = some (.slice A0_2 l0_2.length c0_2)) (ds := []) #[fi,fi,fi,fi,fi,fi,fi,fi] (by kernel_rfl) rfl rfl ⟨(blk_cell BK211.out 0).trans rfl, (blk_cell BK211.out 1).trans rfl, (blk_cell BK211.out 2).trans rfl⟩ (fun hHeld => ?_); refine with_tabW impl_wireTables.tab5 impl_wireTables.bits5 (fun HT_ HW_ => ?_)
       generalize wr.drew = w15 at HO_3 BK211 HB hHeld ⊢; refine py_ 1 22 HT_.out ?_; refine py_ 2 23 HT_.out ?_; refine py_ 7 28 HT_.out ?_
       refine take_ (i := 0) (N := some 21) (v := ?_) (a' := ?_) #[ti,ti,ti,fi,fi,fi,fi,ti] rfl rfl (take_ofW HT_.out HW_.out (by kernel_rfl)) (fun _ _ _ h => h) (Or.inl ⟨by rfl, ?_⟩) hHeld ?_ ?_
       rotate_left
       ·rintro w' ⟨s0, s1, s2⟩
        go_simp
        with_reducible rfl
       rotate_left
       ·simp only [Act.put, sI, s0, sS, i64_w, i32_w]
        rfl
       refine take_ (i := 3) (N := some 24) (v := ?_) (a' := ?_) #[ti,ti,ti,ti,fi,fi,fi,ti] rfl rfl (take_ofW HT_.out HW_.out (by kernel_rfl)) (fun _ _ _ h => h) (Or.inl ⟨by rfl, ?_⟩) hHeld ?_ ?_
       rotate_left
       ·rintro w' ⟨s0, s1, s2⟩
        go_simp
        with_reducible rfl
       rotate_left
       ·simp only [Act.put, sI, s0, sS, i64_w, i32_w]
        rfl
       refine one_ (i := 4) (N := some 25) #[ti,ti,ti,ti,ti,fi,fi,ti] rfl rfl (one_of HT_.out (by kernel_rfl)) (by decide) (fun K hK => ?_)
       refine goes_ Try.func176 (by kernel_rfl) rfl #[.int .i64 x4_1, .int .i64 a0_0] (by rfl) rfl rfl ze_ ?_
       with_reducible refine (impl_bitList.calls k1 x4_1 a0_0 t215 _ A12.out).mono ?_
       rintro e w16 ⟨v216, rfl, ho0, hb⟩
       refine ⟨_, rfl, ?_⟩
       have n_ := z (Kd.S_elder' (zs HO_3.out) (Kd.R_base ho0) hb) <| z (Kd.R_lower ho0 (below_size zda_)) <| z (blk_below (zb BK211.out) hb) <| z1 (below_step zda_ hb)
       clear HO_3 BK211 HB; obtain ⟨HO_3, HO217, BK211, HB⟩ := n_; (try clear hb); (try clear hb2); (try clear hk); (try clear hi); (try clear ho0); obtain ⟨Ao17, co17, eo17⟩ := Kd.R_slice HO217.out; (first | subst eo17 | (injection eo17 with f1_ f2_ f3_; have f4_ := f1_.symm; have f5_ := f3_.symm; clear f1_ f2_ f3_; subst f4_; subst f5_))
       refine hK.out _ _ ⟨(blk_cell BK211.out 0).trans rfl, (blk_cell BK211.out 1).trans rfl, (blk_cell BK211.out 2).trans rfl⟩ (fun hHeld => ?_)
       clear hK K
       refine norm_ (a' := ?_) ?_ ?_
       rotate_left
       ·show Act.put _ (some 25) _ = _
        simp only [Act.put, sI, s0, sS, i64_w, i32_w]
        rfl
       refine one_ (i := 5) (N := some 26) #[ti,ti,ti,ti,ti,ti,fi,ti] rfl rfl (one_of HT_.out (by kernel_rfl)) (by decide) (fun K hK => ?_)
       refine goes_ Try.func175 (by kernel_rfl) rfl #[.agg #[.int .i64 a0_0, .slice A0_1 l0_1.length c0_1, .slice A0_2 l0_2.length c0_2], .slice Ao17 t215.length co17] (by rfl) rfl rfl ze_ ?_
       with_reducible refine (impl_wireValues.calls k1 a0_0 _ _ l0_1 _ _ l0_2 _ _ t215 t218 _ ?side1 ?side2 ?side3 ?side4 ?side5 ?side6 A13.out).mono ?_
       (case side1 => exact zg_)
       (case side2 => exact HC0_1.out)
       (case side3 => exact zj_)
       (case side4 => exact HC0_2.out)
       (case side5 => repeat (first | exact (Kd.R_reads' HO217.out).2.2 | (with_reducible refine cA ?_ _) | (with_reducible refine cN ?_ _) | (with_reducible refine cD ?_)))
       (case side6 => exact (Kd.R_reads' HO217.out).2.1)
       rintro e w18 ⟨v219, rfl, ho0, hb⟩
       refine ⟨_, rfl, ?_⟩
       have n_ := z (Kd.S_elder' (zs HO_3.out) (Kd.R_base ho0) hb) <| z (Kd.R_elder' (zr HO217.out) (Kd.R_base ho0) hb) <| z (Kd.R_lower (Kd.R_new' ho0 (Kd.R_lt (zr HO217.out))) (below_size zda_)) <| z (blk_below (zb BK211.out) hb) <| z1 (below_step zda_ hb)
       clear HO_3 HO217 BK211 HB; obtain ⟨HO_3, HO217, HO220, BK211, HB⟩ := n_; (try clear hb); (try clear hb2); (try clear hk); (try clear hi); (try clear ho0); obtain ⟨Ao19, co19, eo19⟩ := Kd.R_slice HO220.out; (first | subst eo19 | (injection eo19 with f1_ f2_ f3_; have f4_ := f1_.symm; have f5_ := f3_.symm; clear f1_ f2_ f3_; subst f4_; subst f5_))
       refine hK.out _ _ ⟨(blk_cell BK211.out 0).trans rfl, (blk_cell BK211.out 1).trans rfl, (blk_cell BK211.out 2).trans rfl⟩ (fun hHeld => ?_)
       clear hK K
       refine norm_ (a' := ?_) ?_ ?_
       rotate_left
       ·show Act.put _ (some 26) _ = _
        simp only [Act.put, sI, s0, sS, i64_w, i32_w]
        rfl
       refine py_ 6 27 HT_.out ?_
       refine done_ (done_of HT_.out (by kernel_rfl)) ?_
       (try go_wp2)
       go_loopg [28] k1 (fun kq v28 w' => ∃ (x3_2 : List (S60)) (x28_2 : Int), v28 = .int .i64 x28_2 ∧ Aside0 (impl_wireTables.l1 kq x3_2 x4_1 t218 (t218.length : Int) x28_2 a0_0 l0_1 l0_2 = some r) ∧ Aside0 (kq ≤ k1) ∧ Aside0 (Kd.S k60 60 w' w.heap.size (fun k_ => some k_ ≠ ((.slice Ao19 t218.length co19) : Value).ownBlock) v213 x3_2) ∧ Aside0 (Kd.R (Kd.int .i64) 3 w' w.heap.size (fun _ => True) (.slice Ao19 t218.length co19) t218) ∧ Aside0 (w'.heap[gb211]? = some (.cells #[.int .i64 a0_0, (.slice A0_1 l0_1.length c0_1), (.slice A0_2 l0_2.length c0_2)] 49 (0, 0))) ∧ Aside0 (Below w.heap.size w w'))
       case atStart => exact ⟨(x3_1), (0), zd_, H', ⟨Nat.le_refl _⟩, ⟨by refine zs ?_; exact Kd.S_mono HO_3.out (fun _ hk => hk.2)⟩, ⟨by refine zr ?_; exact Kd.R_mono HO220.out (fun _ hk => trivial)⟩, ⟨zb BK211.out⟩, ⟨zda_⟩⟩
       case round =>
        clear H'; (try clear c9b0); (try clear c9b1); (try clear c11b0); (try clear hcz14_0); (try clear hcz14_1); (try clear hcz14_2); (try clear hfz14_0); (try clear hfz14_1); (try clear hfz14_2); obtain ⟨x3_2, x28_2, rfl, HA, HK2, HO_3, HO_26, BK211, HB⟩ := hrel
        cases gk with
        | zero => exact absurd HA.out (by simp [impl_wireTables.l1])
        | succ k2 =>
         have H := HA.out; clear HA
         simp only [impl_wireTables.l1] at H
         by_cases c20 : x28_2 < (t218.length : Int)
         ·rw [if_pos c20] at H
          have c20b0 := decide_eq_true c20; clear c20
          by_cases c21 : 0 ≤ x28_2
          ·rw [if_pos c21] at H
           have c21b0 := decide_eq_true c21; clear c21
           by_cases c22 : x28_2 < (t218.length : Int)
           ·rw [if_pos c22] at H
            have c22b0 := decide_eq_true c22; clear c22
            by_cases c23 : x28_2 < (x3_2.length : Int)
            ·rw [if_pos c23] at H
             have c23b0 := decide_eq_true c23; clear c23; obtain ⟨y222, hy222⟩ : ∃ y_ : List (S60), y_ = (x3_2.set (x28_2 : Int).toNat (⟨a0_0, (rd_T60 x3_2 x28_2).f1⟩ : S60)) := ⟨_, rfl⟩; replace H : (if ((rd_T60 y222 x28_2).f1).length < 17592186044416 then (impl_wireTables.l1 k2 (y222.set (x28_2 : Int).toNat (⟨(rd_T60 y222 x28_2).f0, (((rd_T60 y222 x28_2).f1) ++ [rd t218 x28_2])⟩ : S60)) x4_1 t218 (t218.length : Int) (wrap64 (x28_2 + 1)) a0_0 l0_1 l0_2) else (none)) = some r := by first | (rw [hy222]; with_reducible exact H) | (have H2_ := (oS _ _).symm.trans H; rw [hy222]; with_reducible exact H2_) | (have H2_ := (oS _ _).symm.trans H; with_reducible exact H2_) | with_reducible exact H | (rw [hy222]; exact H) | exact H
             have Ny222 := aM hy222; clear hy222
             by_cases c25 : ((rd_T60 y222 x28_2).f1).length < 17592186044416
             ·rw [if_pos c25] at H
              have LMc25 := aM c25; clear c25; obtain ⟨y224, hy224⟩ : ∃ y_ : List Int, y_ = (((rd_T60 y222 x28_2).f1) ++ [rd t218 x28_2]) := ⟨_, rfl⟩; replace H : (impl_wireTables.l1 k2 (y222.set (x28_2 : Int).toNat (⟨(rd_T60 y222 x28_2).f0, y224⟩ : S60)) x4_1 t218 (t218.length : Int) (wrap64 (x28_2 + 1)) a0_0 l0_1 l0_2) = some r := by first | (rw [hy224]; with_reducible exact H) | (have H2_ := (oS _ _).symm.trans H; rw [hy224]; with_reducible exact H2_) | (have H2_ := (oS _ _).symm.trans H; with_reducible exact H2_) | with_reducible exact H | (rw [hy224]; exact H) | exact H
              have Ny224 := aM hy224; clear hy224; obtain ⟨y227, hy227⟩ : ∃ y_ : List (S60), y_ = (y222.set (x28_2 : Int).toNat (⟨(rd_T60 y222 x28_2).f0, y224⟩ : S60)) := ⟨_, rfl⟩; replace H : (impl_wireTables.l1 k2 y227 x4_1 t218 (t218.length : Int) (wrap64 (x28_2 + 1)) a0_0 l0_1 l0_2) = some r := by first | (rw [hy227]; with_reducible exact H) | (have H2_ := (oS _ _).symm.trans H; rw [hy227]; with_reducible exact H2_) | (have H2_ := (oS _ _).symm.trans H; with_reducible exact H2_) | with_reducible exact H | (rw [hy227]; exact H) | exact H
              have Ny227 := aM hy227; clear hy227; have H' := aM H; clear H; have p221 : 0 ≤ (x28_2 : Int) := of_decide_eq_true za_; have q221 : x28_2 < (t218.length : Int) := of_decide_eq_true za_; obtain ⟨ad221, e221, hx221_0⟩ := Kd.at_int (Kd.R_reads' HO_26.out).2.2 x28_2 p221 q221
              cases e221
              replace p221 := eq_true p221; replace q221 := eq_true q221; have hcz27_0 : wr.cell? ⟨gb211, 0, none⟩ = some (.int .i64 a0_0) := (blk_cell BK211.out 0).trans rfl; have hcz27_1 : wr.cell? ⟨gb211, 1, none⟩ = some (.slice A0_1 l0_1.length c0_1) := (blk_cell BK211.out 1).trans rfl; have hcz27_2 : wr.cell? ⟨gb211, 2, none⟩ = some (.slice A0_2 l0_2.length c0_2) := (blk_cell BK211.out 2).trans rfl; have hfz27_0 := blk_frozen BK211.out 0; have hfz27_1 := blk_frozen BK211.out 1; have hfz27_2 := blk_frozen BK211.out 2; have p24 : 0 ≤ (x28_2 : Int) := of_decide_eq_true za_; have q24 : (x28_2 : Int) < ((x3_2.length : Int) : Int) := of_decide_eq_true za_; obtain ⟨go24, co24, eo24, gb24, gl24, cl24, HG24⟩ := Kd.S_form HO_3.out (by omega); (first | cases eo24 | (injection eo24 with ea_ en_ ec_; (first | subst ea_ | (injection ea_ with ea_; subst ea_)); subst ec_; clear en_)); have GB24 := aM gb24; have GG24 := aM HG24; clear gb24 gl24 HG24; obtain ⟨_, ce24, hcl24, hM24, hcc24, hfr24, _, _⟩ := Kd.S_elem HO_3.out z60 (x28_2 : Int) p24 q24; obtain ⟨ve24_1, rfl, ge24_1⟩ := k60_openM hM24; have hx24_0 : wr.cell? ⟨go24, (x28_2 : Int).toNat * 2, none⟩ = some (.int .i64 ((rd_T60 x3_2 x28_2).f0)) := hcc24 0 _ rfl; have hx24_1 : wr.cell? ⟨go24, (x28_2 : Int).toNat * 2 + 1, none⟩ = some (ve24_1) := hcc24 1 _ rfl; have hf24_0 : wr.frozen? ⟨go24, (x28_2 : Int).toNat * 2, none⟩ = false := hfr24 0; have hf24_1 : wr.frozen? ⟨go24, (x28_2 : Int).toNat * 2 + 1, none⟩ = false := hfr24 1; clear hcl24 hcc24 hfr24; (try clear hM24); replace p24 := eq_true p24; replace q24 := eq_true q24; have HX28 := aM (show Kd.S k60 60 wr w.heap.size (fun k_ => ((fun k_ => some k_ ≠ (.slice (some ad221) t218.length co19 : Value).ownBlock)) k_ ∧ ¬ ((fun _ => False)) k_) (.slice (some ⟨go24, 0, none⟩) x3_2.length co24) x3_2 from (by refine zs ?_; exact Kd.S_mono HO_3.out (fun k_ hk => ⟨hk, fun e_ => e_⟩))); obtain ⟨oki28, ce28, hcl28, hM28, hcc28, hfr28, hoki28, hH28⟩ := Kd.S_elem HX28.out z60 (x28_2 : Int) (of_decide_eq_true za_) (by have h_ : (x28_2 : Int) < ((x3_2.length : Int) : Int) := of_decide_eq_true za_; first | exact h_ | (have e_ := (Kd.S_reads' HO_3.out).1; omega) | simpa using h_); obtain ⟨ve28_1, rfl, ge28_1⟩ := k60_openM hM28; have HP28 := Kd.S_seg hH28 (of_decide_eq_true za_) (by have h_ : (x28_2 : Int) < ((x3_2.length : Int) : Int) := of_decide_eq_true za_; first | exact h_ | (have e_ := (Kd.S_reads' HO_3.out).1; omega) | simpa using h_) (seg := [.int .i64 a0_0]) (j := 0) (show 1 ≤ 2 from by decide) (x' := (⟨a0_0, (rd_T60 x3_2 x28_2).f1⟩ : S60)) (k60_mkM _ _ _ (⟨a0_0, (rd_T60 x3_2 x28_2).f1⟩ : S60) (Kd.R_mono ge28_1 (fun _ h_ => Or.inl h_))) (fun _ hk => hk) (fun k_ hk_ => hk_.elim); have hx28_0 := hcc28 0 _ rfl; (try simp only [show (k60).sz = 2 from rfl, Nat.mul_one, Nat.add_zero] at hx28_0); have hf28_0 := hfr28 0; (try simp only [show (k60).sz = 2 from rfl, Nat.mul_one, Nat.add_zero] at hf28_0); clear hcl28 hcc28 hfr28 hoki28 hH28; (try clear hM28)
              go_wp2_with (first | ((with_reducible refine gate_store (t := 3) (p := 38) rfl ?_); refine store_event (t := 3) (p := 38) (v := ?vo_w29) (w1 := (wr.setCell ⟨go24, (x28_2 : Int).toNat * 2, none⟩ (.int .i64 a0_0))) ?hg ?ho ?hn ?hr ?_; (case ho => rfl); (case hg => rfl); (case hn => rfl); (case hr => exact zc_); intro w29 hw; have hg : wr.grownBy w29 (some go24) := (by rw [hw]; exact HP28.2); have hp_ : Kd.S k60 60 w29 w.heap.size (fun k_ => some k_ ≠ (.slice (some ad221) t218.length co19 : Value).ownBlock) (.slice (some ⟨go24, 0, none⟩) x3_2.length co24) y222 := (by rw [hw, Ny222.out]; exact HP28.1); clear HP28; have n_ := z (hp_) <| z (Kd.R_over' (v := (.slice (some ⟨go24, 0, none⟩) x3_2.length co24)) (zr HO_26.out) (Kd.S_typed HO_3.out) (by decide) hg) <| z (blk_grown (g := gb211) (o := .cells #[.int .i64 a0_0, .slice A0_1 l0_1.length c0_1, .slice A0_2 l0_2.length c0_2] 49 (0, 0)) (zb BK211.out) hg (Kd.S_ne HO_3.out BK211.out (by decide))) <| z1 ((by rw [hw]; exact below_set (HB.out) GB24.out : Below w.heap.size w w29)); clear HO_3 HO_26 BK211 HB; obtain ⟨HO_3, HO_26, BK211, HB⟩ := n_; clear hg hw hp_; have p223 : 0 ≤ (x28_2 : Int) := of_decide_eq_true za_; have q223 : x28_2 < (y222.length : Int) := (by have h_ : (x28_2 : Int) < ((x3_2.length : Int) : Int) := of_decide_eq_true za_; first | (have e_ := (Kd.S_reads' HO_3.out).1; omega) | simpa only [Ny222.out, List.length_set] using h_); have ql223 : ((x28_2 : Int) < ((x3_2.length : Int) : Int)) = True := eq_true (of_decide_eq_true za_); obtain ⟨ad223, A223_1, c223_1, e223, hx223_0, hx223_1, hl223_1, hi223_1⟩ := at_T60 (Kd.S_reads' HO_3.out).2.2 x28_2 p223 q223; obtain rfl : (⟨go24, 0, none⟩ : Addr) = ad223 := (by injection e223); obtain ⟨ce223, hce223, hMe223, hcc223⟩ := Kd.S_get HO_3.out z60 x28_2 p223 (by first | exact q223 | exact of_decide_eq_true za_ | (have e_ := (Kd.S_reads' HO_3.out).1; omega)); obtain ⟨ve223_1, rfl, ge223_1⟩ := k60_openM hMe223; have hv223_1 := hcc223 1 _ rfl; rw [add_field _ _ 1 (by omega)] at hv223_1; replace hv223_1 := Option.some.inj (hv223_1.symm.trans hx223_1); rw [hv223_1] at ge223_1; have HL223_1 := aM (show Kd.R (Kd.int .i64) 3 _ _ _ _ ((rd_T60 y222 x28_2).f1) from ge223_1); clear hv223_1 ge223_1; have HX223_1 := aM hx223_1; clear hcc223 hce223; (first | simp only [add_plain] at hx223_0 | simp only [add_at] at hx223_0 | simp only [Addr.add, Nat.zero_add] at hx223_0 | skip); (first | simp only [add_plain] at hx223_1 | simp only [add_at] at hx223_1 | simp only [Addr.add, Nat.zero_add] at hx223_1 | skip); have HR223_1 := aM hi223_1; have HC223_1 := aM hl223_1; clear hi223_1 hl223_1; replace p223 := eq_true p223; replace q223 := eq_true q223; obtain ⟨oki30, ce30, hcl30, hM30, hcc30, _, _, hH30⟩ := Kd.S_elem HO_3.out z60 (x28_2 : Int) (of_decide_eq_true za_) (by have h_ : (x28_2 : Int) < ((x3_2.length : Int) : Int) := of_decide_eq_true za_; first | exact h_ | (have e_ := (Kd.S_reads' HO_3.out).1; omega) | simpa using h_); obtain ⟨ve30_1, rfl, ge30_1⟩ := k60_openM hM30; have hv30 := hcc30 1 _ rfl; have hX30 := HX223_1.out; (try simp only [add_plain] at hX30); (try simp only [Nat.add_zero] at hv30); replace hv30 := Option.some.inj (hv30.symm.trans hX30); subst hv30; clear hX30 hcc30 hcl30; have UU30 := aM (show Kd.R (Kd.int .i64) 3 _ w.heap.size oki30 (.slice A223_1 ((rd_T60 y222 x28_2).f1).length c223_1) ((rd_T60 y222 x28_2).f1) from ge30_1); have HH30 := aM hH30; have HN30 := aM (Kd.S_reads' HO_3.out).1; clear hH30 ge30_1) | ((with_reducible refine gate_builtin (b := .append) (xs := #[.tmp 45, .tmp 47]) rfl ?_); at_builtin; refine Kd.R_append (Kd.int .i64) (w0 := w) w.heap.size rfl (.tmp 45) (.tmp 47) 24 3 (.int .i64 0) 8 rfl Try.underlying24 info3 rfl (by decide) (by omega) (.slice A223_1 ((rd_T60 y222 x28_2).f1).length c223_1) ((rd_T60 y222 x28_2).f1) (rd t218 x28_2) [.int .i64 (rd t218 x28_2)] (fun k_ => oki30 k_ ∨ ((fun k_ => some k_ ≠ (.slice (some ad221) t218.length co19 : Value).ownBlock)) k_ ∧ w29.heap.size ≤ k_) (fun _ => False) rfl rfl ?aP (fun _ hk => hk.elim) ?aF ?aO ?aB ?aS ?aL ?_; (case aP => exact rfl); (case aB => exact zda_); (case aF => exact (fun k_ hk => .inr ⟨Kd.fresh' (Kd.R_lt (zr HO_26.out)) k_ hk, hk⟩)); (case aO => exact (by refine zr ?_; exact Kd.R_mono UU30.out (fun _ hk => .inl hk))); (case aS => exact (below_size zda_)); (case aL => have := LMc25.out; omega); intro v225 w31 ho hb hg hat; rw [← Ny224.out] at ho; have n_ := z (Kd.R_grown2 (zr HO_26.out) rfl hg (fun k_ e_ => (HL223_1.out.1 k_ e_).1)) <| z (blk_grown (g := gb211) (o := .cells #[.int .i64 a0_0, .slice A0_1 l0_1.length c0_1, .slice A0_2 l0_2.length c0_2] 49 (0, 0)) (zb BK211.out) hg (Kd.R_ne HL223_1.out BK211.out (by decide))) <| z (hb) <| z (Kd.H_grown (Kd.H_widen (by repeat (first | exact HH30.out | refine Kd.H_alloc ?_ _ | refine Kd.H_drewN ?_ _ | refine Kd.H_drew ?_))) hg (fun k_ e_ => .inl (UU30.out.1 k_ e_))) <| z1 (ho); clear HO_26 BK211 HB HH30 HO_3 UU30 HL223_1; obtain ⟨HO_26, BK211, HB, HH30, HO226⟩ := n_; clear ho hb hg hat; have p26 : 0 ≤ (x28_2 : Int) := of_decide_eq_true za_; have q26 : (x28_2 : Int) < ((x3_2.length : Int) : Int) := of_decide_eq_true za_; replace p26 := eq_true p26; replace q26 := eq_true q26; obtain ⟨Ao34, co34, eo34⟩ := Kd.R_slice HO226.out; subst eo34; obtain ⟨_, _, hraw32, _, _, hcc32, _⟩ := Kd.H_raw HH30.out (of_decide_eq_true za_) (by have h_ : (x28_2 : Int) < ((x3_2.length : Int) : Int) := of_decide_eq_true za_; first | exact h_ | (have e_ := (HN30.out); omega) | simpa using h_); obtain ⟨_, hfr32⟩ := Kd.H_at HH30.out (of_decide_eq_true za_) (by have h_ : (x28_2 : Int) < ((x3_2.length : Int) : Int) := of_decide_eq_true za_; first | exact h_ | (have e_ := (HN30.out); omega) | simpa using h_); have hx32_0 := hcc32 1 _ rfl; have hf32_0 := hfr32 1; (try rw [show (k60).sz = 2 from rfl] at hx32_0); (try rw [show (k60).sz = 2 from rfl] at hf32_0); have HP32 := Kd.S_seg0 HH30.out (of_decide_eq_true za_) (by have h_ : (x28_2 : Int) < ((x3_2.length : Int) : Int) := of_decide_eq_true za_; first | exact h_ | (have e_ := (HN30.out); omega) | simpa using h_) (seg := [.slice Ao34 y224.length co34]) (j := 1) (show 2 ≤ 2 from by decide) (x' := (⟨(rd_T60 y222 x28_2).f0, y224⟩ : S60)) (k60_mkM _ _ _ (⟨(rd_T60 y222 x28_2).f0, y224⟩ : S60) HO226.out) (fun _ hk => hk); clear hcc32 hfr32) | ((with_reducible refine gate_store (t := 24) (p := 50) rfl ?_); refine store_event (t := 24) (p := 50) (v := ?vo_w33) (w1 := (w31.setCell ⟨go24, (x28_2 : Int).toNat * 2 + 1, none⟩ (.slice Ao34 y224.length co34))) ?hg ?ho ?hn ?hr ?_; (case ho => rfl); (case hg => rfl); (case hn => rfl); (case hr => exact zc_); intro w33 hw; have hg : w31.grownBy w33 (some go24) := (by rw [hw]; exact HP32.2); have hp_ : Kd.S k60 60 w33 w.heap.size (fun k_ => some k_ ≠ (.slice (some ad221) t218.length co19 : Value).ownBlock) (.slice (some ⟨go24, 0, none⟩) x3_2.length co24) y227 := (by rw [hw, Ny227.out]; exact HP32.1); clear HP32; have n_ := z (Kd.R_over' (v := (.slice (some ⟨go24, 0, none⟩) x3_2.length co24)) (zr HO_26.out) (Kd.R_typed hraw32) (by decide) hg) <| z (blk_grown (g := gb211) (o := .cells #[.int .i64 a0_0, .slice A0_1 l0_1.length c0_1, .slice A0_2 l0_2.length c0_2] 49 (0, 0)) (zb BK211.out) hg (Kd.R_ne hraw32 BK211.out (by decide))) <| z ((by rw [hw]; exact below_set HB.out GB24.out : Below w.heap.size w w33)) <| z1 (hp_); clear HO_26 BK211 HB HO226 HH30; obtain ⟨HO_26, BK211, HB, HO_3⟩ := n_; clear hg hw hp_ hraw32))
              go_roundg k2
              case measure => have := HK1.out; have := HK2.out; omega
              case rel => exact ⟨(y227), (wrap64 (x28_2 + 1)), zd_, H', ⟨zca_⟩, ⟨zs HO_3.out⟩, ⟨zr HO_26.out⟩, ⟨zb BK211.out⟩, ⟨zda_⟩⟩
             ·rw [if_neg c25] at H
              exact absurd H (by simp)
            ·rw [if_neg c23] at H
             exact absurd H (by simp)
           ·rw [if_neg c22] at H
            exact absurd H (by simp)
          ·rw [if_neg c21] at H
           exact absurd H (by simp)
         ·rw [if_neg c20] at H
          have c20b0 := decide_eq_false c20; clear c20; have H' := aM H; clear H
          go_wp2
          go_roundg k2
          case measure => have := HK1.out; have := HK2.out; omega
          case rel => exact ⟨(x3_2), (wrap64 (x4_1 + 1)), zd_, H', ⟨zca_⟩, ⟨by refine zs ?_; exact Kd.S_mono HO_3.out (fun _ hk => trivial)⟩, ⟨zb BK211.out⟩, ⟨zda_⟩⟩
      ·rw [if_neg c11] at H
       have c11b0 := decide_eq_false c11; clear c11; obtain rfl := Option.some.inj H; have hcz35_0 : wr.cell? ⟨gb211, 0, none⟩ = some (.int .i64 a0_0) := (blk_cell BK211.out 0).trans rfl; have hcz35_1 : wr.cell? ⟨gb211, 1, none⟩ = some (.slice A0_1 l0_1.length c0_1) := (blk_cell BK211.out 1).trans rfl; have hcz35_2 : wr.cell? ⟨gb211, 2, none⟩ = some (.slice A0_2 l0_2.length c0_2) := (blk_cell BK211.out 2).trans rfl; have hfz35_0 := blk_frozen BK211.out 0; have hfz35_1 := blk_frozen BK211.out 1; have hfz35_2 := blk_frozen BK211.out 2
       go_wp2
       go_ret
       exact ⟨_, by first | rfl | (simp [errW_none, errW_some] <;> rfl) | (simp only [← hji2, ← hji10]; first | rfl | (simp [errW_none, errW_some] <;> rfl)) | (simp [*, errW_none, errW_some] <;> rfl), by refine zs ?_; exact HO_3.out, zda_⟩
     ·rw [if_neg c9] at H
      exact absurd H (by simp)
  ·rw [if_neg c4] at H
   exact absurd H (by simp)
 ·rw [if_neg c3] at H
  exact absurd H (by simp)
def slices_Equal_int_int.l0 : Nat → List Int → List Int → Int → Int → Option (Bool)
 | 0, _, _, _, _ => none
 | k + 1, x0, x1, x12, x13 => if x13 < x12 then (if 0 ≤ x13 then (if x13 < (x0.length : Int) then (if x13 < (x1.length : Int) then (if (rd x0 x13) = (rd x1 x13) then (slices_Equal_int_int.l0 k x0 x1 x12 (wrap64 (x13 + 1))) else (some false)) else (none)) else (none)) else (none)) else (some true)
def slices_Equal_int_int.f (k : Nat) (l0 : List Int) (l1 : List Int) : Option (Bool) := if (l0.length : Int) = (l1.length : Int) then (slices_Equal_int_int.l0 k l0 l1 (l0.length : Int) 0) else (some false)
theorem slices_Equal_int_int.calls (k : Nat) (A0 : Option Addr) (c0 : Nat) (l0 : List Int) (A1 : Option Addr) (c1 : Nat) (l1 : List Int) (r : Bool) (w : World) (hr0 : Kd.C (Kd.int .i64) w A0 l0.length l0) (hc0 : l0.length ≤ c0) (hr1 : Kd.C (Kd.int .i64) w A1 l1.length l1) (hc1 : l1.length ≤ c1) (h : slices_Equal_int_int.f k l0 l1 = some r) :
  Calls Try.prog 122 #[.slice A0 l0.length c0, .slice A1 l1.length c1] w fun e w' => e = .returned (.bool r) ∧ Drawn0 w w' := by
 have HR0 := aM hr0
 have HC0 := aM hc0
 clear hr0 hc0
 have HR1 := aM hr1
 have HC1 := aM hc1
 clear hr1 hc1
 have H : (if (l0.length : Int) = (l1.length : Int) then (slices_Equal_int_int.l0 k l0 l1 (l0.length : Int) 0) else (some false)) = some r := h
 clear h
 by_cases c3 : (l0.length : Int) = (l1.length : Int)
 ·rw [if_pos c3] at H
  have c3b0 := beq_iff_eq.mpr c3; have c3b1 := bne_eq_false_iff_eq.mpr c3; have c3b2 : (l0.length == l1.length) = true := by first | simpa using c3 | (simp at c3 ⊢; omega)
  clear c3; have H' := aM H; clear H
  go_enter Try.func122, Try.ntmps122
  go_wp2
  repeat (go_quiet (fail); try go_wp2)
  go_loopg [13] k (fun kq v13 w' => ∃ (x13_1 : Int), v13 = .int .i64 x13_1 ∧ Aside0 (slices_Equal_int_int.l0 kq l0 l1 (l0.length : Int) x13_1 = some r) ∧ Aside0 (kq ≤ k) ∧ Drawn0 w w')
  case atStart => exact ⟨(0), zd_, H', ⟨Nat.le_refl _⟩, zi_⟩
  case round =>
   clear H'; (try clear c3b0); (try clear c3b1); (try clear c3b2); obtain ⟨x13_1, rfl, HA, HK1, ⟨m1, rfl⟩⟩ := hrel
   cases gk with
   | zero => exact absurd HA.out (by simp [slices_Equal_int_int.l0])
   | succ k1 =>
    have H := HA.out; clear HA
    simp only [slices_Equal_int_int.l0] at H
    by_cases c4 : x13_1 < (l0.length : Int)
    ·rw [if_pos c4] at H
     have c4b0 := decide_eq_true c4; clear c4
     by_cases c5 : 0 ≤ x13_1
     ·rw [if_pos c5] at H
      have c5b0 := decide_eq_true c5; clear c5
      by_cases c6 : x13_1 < (l0.length : Int)
      ·rw [if_pos c6] at H
       have c6b0 := decide_eq_true c6; clear c6
       by_cases c7 : x13_1 < (l1.length : Int)
       ·rw [if_pos c7] at H
        have c7b0 := decide_eq_true c7; clear c7
        by_cases c8 : (rd l0 x13_1) = (rd l1 x13_1)
        ·rw [if_pos c8] at H
         have c8b0 := beq_iff_eq.mpr c8; have c8b1 := bne_eq_false_iff_eq.mpr c8; clear c8; have H' := aM H; clear H; have p228 : 0 ≤ (x13_1 : Int) := of_decide_eq_true za_; have q228 : x13_1 < (l0.length : Int) := of_decide_eq_true za_; obtain ⟨ad228, e228, hx228_0⟩ := Kd.at_int HR0.out x13_1 p228 q228
         cases e228
         replace p228 := eq_true p228; replace q228 := eq_true q228; have p229 : 0 ≤ (x13_1 : Int) := of_decide_eq_true za_; have q229 : x13_1 < (l1.length : Int) := of_decide_eq_true za_; obtain ⟨ad229, e229, hx229_0⟩ := Kd.at_int HR1.out x13_1 p229 q229
         cases e229
         replace p229 := eq_true p229; replace q229 := eq_true q229
         go_wp2
         repeat (go_quiet (fail); try go_wp2)
         go_roundg k1
         case measure => have := HK1.out; omega
         case rel => exact ⟨(wrap64 (x13_1 + 1)), zd_, H', ⟨zbd_⟩, zi_⟩
        ·rw [if_neg c8] at H
         have c8b0 := beq_eq_false_iff_ne.mpr c8; have c8b1 := bne_iff_ne.mpr c8; obtain rfl := Option.some.inj H; have p228 : 0 ≤ (x13_1 : Int) := of_decide_eq_true za_; have q228 : x13_1 < (l0.length : Int) := of_decide_eq_true za_; obtain ⟨ad228, e228, hx228_0⟩ := Kd.at_int HR0.out x13_1 p228 q228
         cases e228
         replace p228 := eq_true p228; replace q228 := eq_true q228; have p229 : 0 ≤ (x13_1 : Int) := of_decide_eq_true za_; have q229 : x13_1 < (l1.length : Int) := of_decide_eq_true za_; obtain ⟨ad229, e229, hx229_0⟩ := Kd.at_int HR1.out x13_1 p229 q229
         cases e229
         replace p229 := eq_true p229; replace q229 := eq_true q229
         go_wp2
         repeat (go_quiet (fail); try go_wp2)
         go_ret
         exact ⟨zd_, zi_⟩
       ·rw [if_neg c7] at H
        exact absurd H (by simp)
      ·rw [if_neg c6] at H
       exact absurd H (by simp)
     ·rw [if_neg c5] at H
      exact absurd H (by simp)
    ·rw [if_neg c4] at H
     have c4b0 := decide_eq_false c4; clear c4; obtain rfl := Option.some.inj H
     go_wp2
     repeat (go_quiet (fail); try go_wp2)
     go_ret
     exact ⟨zd_, zi_⟩
 ·rw [if_neg c3] at H
  have c3b0 := beq_eq_false_iff_ne.mpr c3; have c3b1 := bne_iff_ne.mpr c3; have c3b2 : (l0.length == l1.length) = false := by first | simpa using c3 | (simp at c3 ⊢; omega)
  obtain rfl := Option.some.inj H
  go_enter Try.func122, Try.ntmps122
  go_wp2
  repeat (go_quiet (fail); try go_wp2)
  go_ret
  exact ⟨zd_, zi_⟩
end Go.Proofs.Ytbkighlfgaifeaa.QFnGates
