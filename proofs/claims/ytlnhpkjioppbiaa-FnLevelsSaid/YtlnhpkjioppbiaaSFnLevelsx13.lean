/- Functions of FnLevels, each as a Lean function, with the proof that the Go code comes to its answers. -/
import Derived.Test.YtlnhpkjioppbiaaSFnLevelsx1
import Derived.Test.YtlnhpkjioppbiaaSFnLevelsx11
namespace Go.Proofs.Ytlnhpkjioppbiaa.QFnLevels
open Go.RowKit Go.Proofs.YtlnhpkjioppbiaaW.PrintWords Go.Proofs.YtlnhpkjioppbiaaW.PrintLast Go.Proofs.YtlnhpkjioppbiaaW.PrintMore
open Go.Proofs.YtlnhpkjioppbiaaW.PrintWords renaming pw_below_drewN → pN, below_drew1 → p1, below_alloc → pA
open Go.Proofs.YtlnhpkjioppbiaaW.PrintWords.Kd renaming R_alloc → kA, R_drewN → kN, R_drew → kD, Q_alloc → qA, Q_drewN → qN, Q_drew → qD, C_alloc → cA, C_drewN → cN, C_drew → cD
open Go.Proofs.YtlnhpkjioppbiaaW.PrintWords.Aside0 renaming mk → aM
open List renaming setIfInBounds_toArray → sI, set_cons_zero → s0, set_cons_succ → sS, map_toArray → mT, length_take → lT, length_drop → lD, map_cons → mC, map_nil → mN
open Option renaming bind_some → oS
attribute [local go_sem] max2_int min2_int max_two min_two max_three min_three max_four min_four
set_option maxHeartbeats 8000000
set_option maxRecDepth 100000
set_option linter.unusedVariables false
set_option linter.unusedSimpArgs false
def impl_ordersOf.f (k : Nat) (n : Int) : Option (List (List Int)) := if 0 ≤ n then (if n ≤ 8 then (if 100 ≤ k then some (Sep.pm n.toNat n.toNat []) else none) else none) else none
def impl_ordersOf.items (gn go gx : Nat) (vl vo : Value) (list : List Int) (out : List (List Int)) (n : Nat) (F : List Sep.Item) : List Sep.Item :=
 Sep.Item.row (Kd.int .i64) 3 vl list :: Sep.Item.box go 63 #[vo] :: Sep.Item.rows (Kd.slice 3 (Kd.int .i64)) 39 vo out :: Sep.Item.box gn 3 #[.int .i64 (n : Int)] :: Sep.Item.box gx 113 #[.func (.func 117) #[] #[.pointer (some ⟨gn, 0, none⟩), .pointer (some ⟨go, 0, none⟩), .pointer (some ⟨gx, 0, none⟩)]] :: F
theorem impl_ordersOf.idx (l : List Int) (v : Int) (hl : l.length ≤ 1000) : ∀ (r p : List Int) (i : Int) (k : Nat), i = p.length → l = p ++ r → r.length < k → ∃ s, slices_Index_int_int.l0 k l v (l.length : Int) i = some s ∧ decide (s ≥ 0) = decide (v ∈ r) := by
 intro r
 induction r with
 | nil =>
  intro p i k hi he hk
  obtain ⟨k, rfl⟩ : ∃ m, k = m + 1 := ⟨k - 1, by simp at hk; omega⟩
  refine ⟨-1, ?_, by simp⟩
  rw [slices_Index_int_int.l0, if_neg (by rw [he, hi]; simp)]
 | cons x r ih =>
  intro p i k hi he hk
  obtain ⟨k, rfl⟩ : ∃ m, k = m + 1 := ⟨k - 1, by simp at hk; omega⟩; have hlen : l.length = p.length + r.length + 1 := by rw [he]; simp; omega
  have hx : rd l i = x := by rw [he, hi]; simp [rd, List.getD_eq_getElem?_getD]
  rw [slices_Index_int_int.l0, if_pos (by omega), if_pos (by omega), if_pos (by omega), hx]
  by_cases h : v = x
  ·exact ⟨i, by rw [if_pos h], by rw [decide_eq_true (show i ≥ 0 by omega), h]; simp⟩
  ·obtain ⟨s, h1, h2⟩ := ih (p ++ [x]) (i + 1) k (by rw [hi]; simp) (by rw [he]; simp) (by simp at hk; omega)
   refine ⟨s, ?_, ?_⟩
   ·rw [if_neg h, show wrap64 (i + 1) = i + 1 by unfold wrap64; omega]
    exact h1
   ·rw [h2]
    simp [h]
theorem impl_ordersOf.has (l : List Int) (v : Int) (k : Nat) (hk : l.length < k ∧ l.length ≤ 1000) : slices_Contains_int_int.f k l v = some (decide (v ∈ l)) := by
 obtain ⟨s, h1, h2⟩ := impl_ordersOf.idx l v hk.2 l [] 0 k rfl rfl hk.1
 unfold slices_Contains_int_int.f slices_Index_int_int.f
 rw [h1]
 simp only [oS]
 rw [h2]
open Go.Proofs.Ytlnhpkjioppbiaa.Sep in
theorem impl_ordersOf.ext (n : Nat) (hn : n ≤ 8) (w0 : World) (gn go gx : Nat) : ∀ (d : Nat) (list : List Int) (out : List (List Int)) (w : World) (vl vo : Value) (F : List Sep.Item) (_h : Own w0 w (impl_ordersOf.items gn go gx vl vo list out n F))
  (_hl : list.length + d = n) (_ho : out.length + 8 ^ d ≤ 1000000000),
  Calls Try.prog 117 #[vl, .pointer (some ⟨gn, 0, none⟩), .pointer (some ⟨go, 0, none⟩), .pointer (some ⟨gx, 0, none⟩)] w fun e w' => e = .returned (.tuple #[]) ∧ ∃ vo', Own w0 w' (impl_ordersOf.items gn go gx vl vo' list (out ++ pm n d list) n F) := by
 intro d
 induction d with
 | zero =>
  intro list out w vl vo F h hl ho
  obtain ⟨Al, cl, rfl⟩ := h.row_slice 0 rfl; obtain ⟨Ao, co, rfl⟩ := h.rows_slice 2 rfl; have HO := aM h; have HL := aM hl; have HU := aM ho; clear h ho; have c0b : ((list.length : Int) == (n : Int)) = true := beq_iff_eq.mpr (by have := HL.out; omega)
  go_enter Try.func117, Try.ntmps117
  have z_1 : w.cell? ⟨gn, 0, none⟩ = some (.int .i64 ((n : Int))) := (HO.out.cell 3 rfl 0 rfl)
  go_wp2
  have HD_1_1 := aM (HO.out.drew)
  refine start_ (n := 7) (S := fun w' => w'.cell? ⟨go, 0, none⟩ = some (.slice Ao out.length co)) (ds := [6]) #[fi,fi,fi,fi,fi,fi,fi] (by kernel_rfl) rfl rfl ((HD_1_1.out.cell 1 rfl 0 rfl)) (fun hHeld => ?_)
  generalize w.drew = wd_1_2 at HD_1_1 hHeld ⊢
  refine oz_ 2 12 ?_
  refine tz1_ 0 10 hHeld ?_
  refine oo_ 1 11 (fun K hK => ?_)
  refine Sep.own_lit0_step (Kd.int .i64) HD_1_1.out 3 (by rfl) (N := 11) rfl zd_ ?_
  intro x_11 w_1 ho _
  have HO_1 := aM ho; clear ho
  refine hK.out _ _ ((HO_1.out.cell 2 rfl 0 rfl)) (fun hHeld => ?_)
  clear hK K
  refine nz_ 11 ?_
  refine oo_ 3 13 (fun K hK => ?_)
  refine Sep.own_append_all_step (Value.int .i64) (0 : Int) HO_1.out 0 _ ([]) 3 rfl (by rfl) (.tmp 11) (.tmp 12) 39 (.int .i64 0) 8 rfl Try.underlying39 info3 rfl (by omega) (list) Al list.length cl rfl rfl (HO_1.out.row_reads 1 rfl).2.2 zdh_ ?_
  intro x_13 w_2 ho
  obtain ⟨A_13, n_13, c_13, hn_, rfl⟩ := ho.row_seal 0 rfl; have HN_13 := aM hn_; clear hn_; have HO_2 := aM ho; clear ho
  refine hK.out _ _ ((HO_2.out.cell 2 rfl 0 rfl)) (fun hHeld => ?_)
  clear hK K
  refine nz_ 13 ?_
  refine oo_ 4 14 (fun K hK => ?_)
  refine value_ (w1 := ?_) (v := ?_) (by rfl) rfl ?_ ?_
  rotate_left 2
  ·go_simp
   constructor
   ·rfl
   ·rfl
  have HOb14 := aM (HO_2.out.below (pA (Below.refl _ _) (.cells #[.slice A_13 n_13 c_13] 39)))
  refine hK.out _ _ ((HOb14.out.cell 2 rfl 0 rfl)) (fun hHeld => ?_)
  clear hK K
  refine nz_ 14 ?_
  refine oo_ 5 15 (fun K hK => ?_)
  refine Sep.own_append_row_step (Kd.int .i64) 3 HO_2.out 3 0 (by decide) _ (out) 39 rfl _ (([]) ++ (list)) rfl (by rfl) (.tmp 10) (.tmp 14) 63 (.slice none 0 0) 24 rfl Try.underlying63 info39 rfl (by omega) rfl rfl (by have := HU.out; simp only [Nat.pow_zero] at this; omega) ?_
  intro x_15 w_4 ho
  obtain ⟨A_15, n_15, c_15, hn_, rfl⟩ := ho.rows_seal 3 rfl; have HN_15 := aM hn_; clear hn_; have HO_4 := aM ho; clear ho
  refine hK.out _ _ ((HO_4.out.cell 2 rfl 0 rfl)) (fun hHeld => ?_)
  clear hK K
  refine nz_ 15 ?_
  refine last_ (i := 6) (N := none) #[ti,ti,ti,ti,ti,ti,ti] rfl rfl (by kernel_rfl) (by decide) (fun K hK => ?_)
  have hbs := HO_4.out.cell 2 rfl 0 rfl; have hbf := HO_4.out.free 2 rfl 0
  refine skip_ (w1 := ?_) (by rfl) rfl ?_ ?_
  rotate_left
  ·go_simp
   rfl
  have HO_5 := aM (HO_4.out.put1 2 rfl 0 (.slice A_15 n_15 c_15)); clear hbs hbf
  refine hK.out _ _ ?_
  clear hK K
  refine done_ (by kernel_rfl) ?_
  go_wp2
  (try simp only [Exit.inBlock, Exit.then])
  refine bodyPost_ret (results_none rfl _ _ _) rfl ?_
  exact ⟨rfl, _, HO_5.out.tail⟩
 | succ d ih =>
  intro list out w vl vo F h hl ho
  obtain ⟨Al, cl, rfl⟩ := h.row_slice 0 rfl; obtain ⟨Ao, co, rfl⟩ := h.rows_slice 2 rfl; have HO := aM h; have HL := aM hl; have HU := aM ho; clear h ho; have c0b : ((list.length : Int) == (n : Int)) = false := beq_eq_false_iff_ne.mpr (by have := HL.out; omega); have IH := aM ih; clear ih
  go_enter Try.func117, Try.ntmps117
  have z_1 : w.cell? ⟨gn, 0, none⟩ = some (.int .i64 ((n : Int))) := (HO.out.cell 3 rfl 0 rfl)
  go_wp2
  go_loopw [5] (fun v5 w' => ∃ (i : Int) (vo1 : Value), 0 ≤ i ∧ i ≤ (n : Int) ∧ v5 = .int .i64 i ∧ Aside0 (Own w0 w' (impl_ordersOf.items gn go gx (.slice Al list.length cl) vo1 list (out ++ pmTo n d list i.toNat) n F))) (fun v5 _ => n - (intOf v5).toNat)
  case atStart => exact ⟨0, _, Int.le_refl _, by omega, rfl, ⟨by rw [show (0 : Int).toNat = 0 from rfl, pmTo_zero, List.append_nil]; exact HO.out⟩⟩
  case round =>
   obtain ⟨i, vo1, hi0, hi1, rfl, HO1⟩ := hrel; clear HO; have HO := HO1; clear HO1; obtain ⟨Ao1, co1, rfl⟩ := HO.out.rows_slice 2 rfl
   by_cases c1 : i < (n : Int)
   ·have c1b := decide_eq_true c1
    have hwi : wrap64 (i + 1) = i + 1 := by have := hn; unfold wrap64; omega
    have HS := aM (show Sep.pmTo n d list i.toNat ++ (if i ∈ list then [] else Sep.pm n d (list ++ [i])) = Sep.pmTo n d list (i + 1).toNat from by rw [show (i + 1).toNat = i.toNat + 1 by omega, pmTo_succ, Int.toNat_of_nonneg hi0])
    by_cases c2 : i ∈ list
    ·have c2b := decide_eq_true c2
     have HS2 := HS.out; rw [if_pos c2, List.append_nil] at HS2; have HS3 := aM HS2; clear HS2 HS; have z_2 : wr.cell? ⟨gn, 0, none⟩ = some (.int .i64 ((n : Int))) := (HO.out.cell 3 rfl 0 rfl)
     go_wp2_with (first | ((with_reducible refine gate_callee (f := 118) rfl ?_); refine goesL_ (some 23) rfl rfl Try.func118 (by kernel_rfl) rfl #[.slice Al list.length cl, .int .i64 i] rfl ze_ ?_; (with_reducible refine (slices_Contains_int_int.calls 100 Al cl (list) i _ wr (by exact (HO.out.row_reads 0 rfl).2.2) (by exact (HO.out.row_reads 0 rfl).2.1) (impl_ordersOf.has (list) i 100 (by have := HL.out; omega))).mono ?_); rintro e w_1 ⟨rfl, hd⟩; refine ⟨_, rfl, ?_⟩; have HO_1 := aM (HO.out.below hd.below); clear hd))
     go_roundw
     case measure => simp only [intOf, hwi]; omega
     case rel => exact ⟨i + 1, _, by omega, by omega, zci_, ⟨by have ho := HO_1.out; rw [HS3.out] at ho; exact ho⟩⟩
    ·have c2b := decide_eq_false c2
     have HS2 := HS.out; rw [if_neg c2] at HS2; have HS3 := aM HS2; clear HS2 HS; have HS := HS3; clear HS3; have HU2 := aM (show (out ++ Sep.pmTo n d list i.toNat).length + 8 ^ d ≤ 1000000000 from by have h1 := Sep.pmTo_length hn d list i.toNat; have h2 := HU.out; rw [Nat.pow_succ] at h2; have h3 : (i.toNat + 1) * 8 ^ d ≤ 8 * 8 ^ d := Nat.mul_le_mul_right _ (by omega); rw [Nat.add_mul, Nat.one_mul] at h3; rw [List.length_append]; omega); have z_2 : wr.cell? ⟨gn, 0, none⟩ = some (.int .i64 ((n : Int))) := (HO.out.cell 3 rfl 0 rfl)
     go_wp2_with (first | ((with_reducible refine gate_callee (f := 118) rfl ?_); refine goesL_ (some 23) rfl rfl Try.func118 (by kernel_rfl) rfl #[.slice Al list.length cl, .int .i64 i] rfl ze_ ?_; (with_reducible refine (slices_Contains_int_int.calls 100 Al cl (list) i _ wr (by exact (HO.out.row_reads 0 rfl).2.2) (by exact (HO.out.row_reads 0 rfl).2.1) (impl_ordersOf.has (list) i 100 (by have := HL.out; omega))).mono ?_); rintro e w_1 ⟨rfl, hd⟩; refine ⟨_, rfl, ?_⟩; have HO_1 := aM (HO.out.below hd.below); clear hd))
     have HD_6_2 := aM (HO_1.out.drew)
     refine start_ (n := 8) (S := fun w' => w'.cell? ⟨gx, 0, none⟩ = some (.func (.func 117) #[] #[.pointer (some ⟨gn, 0, none⟩), .pointer (some ⟨go, 0, none⟩), .pointer (some ⟨gx, 0, none⟩)])) (ds := []) #[fi,fi,fi,fi,fi,fi,fi,fi] (by kernel_rfl) rfl rfl ((HD_6_2.out.cell 4 rfl 0 rfl)) (fun hHeld => ?_)
     generalize w_1.drew = wd_6_3 at HD_6_2 hHeld ⊢
     refine oz_ 2 27 ?_
     refine oz_ 4 29 ?_
     refine tz1_ 0 25 hHeld ?_
     refine join_ (σ := Value × Value × Value) 2 #[ti,ti,ti,ti,ti,ti,fi,fi] (fun s => [(26, s.1), (28, s.2.1), (30, s.2.2)]) (fun s w' => (w'.cell? ⟨gx, 0, none⟩ = some (.func (.func 117) #[] #[.pointer (some ⟨gn, 0, none⟩), .pointer (some ⟨go, 0, none⟩), .pointer (some ⟨gx, 0, none⟩)])) ∧ Own w0 w' (Item.row (Kd.int .i64) 3 (s.2.2) ([i]) :: Item.row (Kd.int .i64) 3 (s.2.1) (([]) ++ (list)) :: Item.row (Kd.int .i64) 3 (.slice Al list.length cl) (list) :: Item.box go 63 #[.slice Ao1 ((out ++ Sep.pmTo n d list i.toNat).length) co1] :: Item.rows (Kd.slice 3 (Kd.int .i64)) 39 (.slice Ao1 ((out ++ Sep.pmTo n d list i.toNat).length) co1) (out ++ Sep.pmTo n d list i.toNat) :: Item.box gn 3 #[.int .i64 ((n : Int))] :: Item.box gx 113 #[.func (.func 117) #[] #[.pointer (some ⟨gn, 0, none⟩), .pointer (some ⟨go, 0, none⟩), .pointer (some ⟨gx, 0, none⟩)]] :: F)) ?_ ?_
     rotate_left
     ·intro hCont
      refine two_ (i := 1) (j := 5) (Ni := some 26) (Nj := some 30) #[ti,ti,ti,fi,ti,fi,fi,fi] #[ti,fi,ti,fi,ti,ti,fi,fi] rfl rfl rfl rfl (by kernel_rfl) (by decide) (by decide) (fun K hK => ?_) (fun K hK => ?_)
      ·skip
       refine Sep.own_lit0_step (Kd.int .i64) HD_6_2.out 3 (by rfl) (N := 26) rfl zd_ ?_
       intro x_26 w_2 ho _
       have HO_2 := aM ho; clear ho
       refine hK.out _ _ ((HO_2.out.cell 5 rfl 0 rfl)) (fun hHeld => ?_)
       clear hK K
       refine nz_ 26 ?_
       refine two_ (i := 3) (j := 5) (Ni := some 28) (Nj := some 30) #[ti,ti,ti,ti,ti,fi,fi,fi] #[ti,ti,ti,fi,ti,ti,fi,fi] rfl rfl rfl rfl (by kernel_rfl) (by decide) (by decide) (fun K hK => ?_) (fun K hK => ?_)
       ·skip
        refine Sep.own_append_all_step (Value.int .i64) (0 : Int) HO_2.out 0 _ ([]) 3 rfl (by rfl) (.tmp 26) (.tmp 27) 39 (.int .i64 0) 8 rfl Try.underlying39 info3 rfl (by omega) (list) Al list.length cl rfl rfl (HO_2.out.row_reads 1 rfl).2.2 zdh_ ?_
        intro x_28 w_3 ho
        have HO_3 := aM ho; clear ho
        refine hK.out _ _ ((HO_3.out.cell 5 rfl 0 rfl)) (fun hHeld => ?_)
        clear hK K
        refine nz_ 28 ?_
        refine oo_ 5 30 (fun K hK => ?_)
        refine Sep.own_lit1_step (Value.int .i64) (h1 := fun _ => rfl) HO_3.out 3 i (by rfl) (N := 30) rfl zd_ ?_
        intro x_30 w_4 ho _
        have HO_4 := aM ho; clear ho
        refine hK.out _ _ ((HO_4.out.cell 6 rfl 0 rfl)) (fun hHeld => ?_)
        clear hK K
        refine nz_ 30 ?_
        exact norm_ (by simp only [putAll, Act.put, sI, s0, sS]) (hCont (x_26, x_28, x_30) _ ⟨(HO_4.out.cell 6 rfl 0 rfl), (((((((HO_4.out.front 6 rfl).front 6 rfl).front 6 rfl).front 6 rfl).front 6 rfl).front 6 rfl).front 6 rfl)⟩)
       ·skip
        refine Sep.own_lit1_step (Value.int .i64) (h1 := fun _ => rfl) HO_2.out 3 i (by rfl) (N := 30) rfl zd_ ?_
        intro x_30 w_3 ho _
        have HO_3 := aM ho; clear ho
        refine hK.out _ _ ((HO_3.out.cell 6 rfl 0 rfl)) (fun hHeld => ?_)
        clear hK K
        refine nz_ 30 ?_
        refine oo_ 3 28 (fun K hK => ?_)
        refine Sep.own_append_all_step (Value.int .i64) (0 : Int) HO_3.out 1 _ ([]) 3 rfl (by rfl) (.tmp 26) (.tmp 27) 39 (.int .i64 0) 8 rfl Try.underlying39 info3 rfl (by omega) (list) Al list.length cl rfl rfl (HO_3.out.row_reads 2 rfl).2.2 zdh_ ?_
        intro x_28 w_4 ho
        have HO_4 := aM ho; clear ho
        refine hK.out _ _ ((HO_4.out.cell 6 rfl 0 rfl)) (fun hHeld => ?_)
        clear hK K
        refine nz_ 28 ?_
        exact norm_ (by simp only [putAll, Act.put, sI, s0, sS]) (hCont (x_26, x_28, x_30) _ ⟨(HO_4.out.cell 6 rfl 0 rfl), (((((((HO_4.out.front 6 rfl).front 6 rfl).front 6 rfl).front 6 rfl).front 6 rfl).front 6 rfl).front 6 rfl)⟩)
      ·skip
       refine Sep.own_lit1_step (Value.int .i64) (h1 := fun _ => rfl) HD_6_2.out 3 i (by rfl) (N := 30) rfl zd_ ?_
       intro x_30 w_2 ho _
       have HO_2 := aM ho; clear ho
       refine hK.out _ _ ((HO_2.out.cell 5 rfl 0 rfl)) (fun hHeld => ?_)
       clear hK K
       refine nz_ 30 ?_
       refine oo_ 1 26 (fun K hK => ?_)
       refine Sep.own_lit0_step (Kd.int .i64) HO_2.out 3 (by rfl) (N := 26) rfl zd_ ?_
       intro x_26 w_3 ho _
       have HO_3 := aM ho; clear ho
       refine hK.out _ _ ((HO_3.out.cell 6 rfl 0 rfl)) (fun hHeld => ?_)
       clear hK K
       refine nz_ 26 ?_
       refine oo_ 3 28 (fun K hK => ?_)
       refine Sep.own_append_all_step (Value.int .i64) (0 : Int) HO_3.out 0 _ ([]) 3 rfl (by rfl) (.tmp 26) (.tmp 27) 39 (.int .i64 0) 8 rfl Try.underlying39 info3 rfl (by omega) (list) Al list.length cl rfl rfl (HO_3.out.row_reads 2 rfl).2.2 zdh_ ?_
       intro x_28 w_4 ho
       have HO_4 := aM ho; clear ho
       refine hK.out _ _ ((HO_4.out.cell 6 rfl 0 rfl)) (fun hHeld => ?_)
       clear hK K
       refine nz_ 28 ?_
       exact norm_ (by simp only [putAll, Act.put, sI, s0, sS]) (hCont (x_26, x_28, x_30) _ ⟨(HO_4.out.cell 6 rfl 0 rfl), (((((((HO_4.out.front 6 rfl).front 6 rfl).front 6 rfl).front 6 rfl).front 6 rfl).front 5 rfl).front 6 rfl)⟩)
     rintro ⟨x_26, x_28, x_30⟩ wj_4 ⟨hHeld, ho⟩
     obtain ⟨A_30, c_30, rfl⟩ := ho.row_slice 0 rfl; have HOJ_4 := aM ho; clear ho
     refine norm_ (a' := ?_) ?_ ?_
     rotate_left
     ·simp only [putAll, Act.put, sI, s0, sS]
      rfl
     refine oo_ 6 31 (fun K hK => ?_)
     refine Sep.own_append_all_step (Value.int .i64) (0 : Int) HOJ_4.out 1 _ (([]) ++ (list)) 3 rfl (by rfl) (.tmp 28) (.tmp 30) 39 (.int .i64 0) 8 rfl Try.underlying39 info3 rfl (by omega) ([i]) A_30 1 c_30 rfl rfl (HOJ_4.out.row_reads 0 rfl).2.2 zdh_ ?_
     intro x_31 w_55 ho
     obtain ⟨A_31, n_31, c_31, hn_, rfl⟩ := ho.row_seal 1 rfl; have HN_31 := aM hn_; clear hn_; have HO_55 := aM ho; clear ho
     refine hK.out _ _ ((HO_55.out.cell 6 rfl 0 rfl)) (fun hHeld => ?_)
     clear hK K
     refine nz_ 31 ?_
     refine oo_ 7 32 (fun K hK => ?_)
     refine Sep.goesC_ (f := 117) Try.func117 (by kernel_rfl) rfl #[.slice A_31 n_31 c_31, .pointer (some ⟨gn, 0, none⟩), .pointer (some ⟨go, 0, none⟩), .pointer (some ⟨gx, 0, none⟩)] (by rfl) rfl rfl rfl ze_ ?_
     refine (IH.out (list ++ [i]) (out ++ Sep.pmTo n d list i.toNat) _ _ _ (Item.row (Kd.int .i64) 3 (.slice A_30 1 c_30) ([i]) :: Item.row (Kd.int .i64) 3 (.slice Al list.length cl) (list) :: F) (((((HO_55.out.front 6 rfl).front 6 rfl).front 6 rfl).front 6 rfl).front 5 rfl) zdh_ HU2.out).mono ?_
     rintro e w_56 ⟨rfl, vo2, ho⟩
     refine ⟨_, rfl, ?_⟩
     rw [show out ++ Sep.pmTo n d list i.toNat ++ Sep.pm n d (list ++ [i]) = out ++ Sep.pmTo n d list (i + 1).toNat by rw [List.append_assoc, HS.out]] at ho; have HO_56 := aM ho; clear ho
     refine hK.out _ _ ((HO_56.out.cell 4 rfl 0 rfl)) (fun hHeld => ?_)
     clear hK K
     refine nz_ 32 ?_
     refine done_ (by kernel_rfl) ?_
     go_wp2
     go_roundw
     case measure => simp only [intOf, hwi]; omega
     case rel => exact ⟨i + 1, _, by omega, by omega, zci_, ⟨(((((((HO_56.out.front 4 rfl).front 4 rfl).front 4 rfl).front 4 rfl).front 6 rfl).front 6 rfl).front 6 rfl).tail.tail⟩⟩
   ·have c1b := decide_eq_false c1
    obtain rfl : i = (n : Int) := by omega
    have ho := HO.out; rw [Int.toNat_natCast] at ho; have HO1 := aM ho; clear ho; have z_2 : wr.cell? ⟨gn, 0, none⟩ = some (.int .i64 ((n : Int))) := (HO.out.cell 3 rfl 0 rfl)
    go_wp2
    go_end0
    exact ⟨rfl, _, HO1.out⟩
open Go.Proofs.Ytlnhpkjioppbiaa.Sep in
theorem impl_ordersOf.calls (k : Nat) (a0 : Int) (r : List (List Int)) (w : World) (h : impl_ordersOf.f k a0 = some r) :
  Calls Try.prog 74 #[.int .i64 a0] w fun e w' => ∃ v0_ : Value, e = .returned (v0_) ∧ Kd.S (Kd.slice 3 (Kd.int .i64)) 39 w' w.heap.size (fun _ => True) v0_ r ∧ Below w.heap.size w w' := by
 unfold impl_ordersOf.f at h
 split at h
 ·split at h
  ·split at h
   ·rename_i h0 h1 h2
    obtain ⟨n, rfl⟩ := Int.eq_ofNat_of_zero_le h0; obtain rfl := Option.some.inj h; have hn : n ≤ 8 := by omega
    rw [Int.toNat_natCast]; clear h h0 h1 h2
    go_enter Try.func74, Try.ntmps74
    go_wp2_with (first | ((with_reducible refine gate_dst (N := 1) rfl ?_); refine box_event ?hg (N := 1) ?hd (cs := #[.int .i64 ((n : Int))]) (t := 3) ?hr ?_; (case hd => rfl); (case hg => rfl); (case hr => exact zd_); intro gn hg w_1 hbox hb; have HO_1 := aM ((Sep.Own.nil w).add_box (T := 3) (cs := #[.int .i64 ((n : Int))]) hg hbox hb); clear hg hbox hb) | ((with_reducible refine gate_dst (N := 5) rfl ?_); refine Sep.own_lits0 (Kd.slice 3 (Kd.int .i64)) HO_1.out 39 ?hg (N := 5) ?hd ?hr ?_; (case hd => rfl); (case hg => rfl); (case hr => exact zd_); intro x_5 w_2 ho _; obtain ⟨A_5, n_5, c_5, hn_, rfl⟩ := ho.rows_seal 0 rfl; have HN_5 := aM hn_; clear hn_; have HO_2 := aM ho; clear ho) | ((with_reducible refine gate_dst (N := 3) rfl ?_); refine box_event ?hg (N := 3) ?hd (cs := #[.slice none 0 0]) (t := 63) ?hr ?_; (case hd => rfl); (case hg => rfl); (case hr => exact zd_); intro go hg w_3 hbox hb; have HO_3 := aM (HO_2.out.add_box (T := 63) (cs := #[.slice none 0 0]) hg hbox hb); clear hg hbox hb) | ((with_reducible refine gate_store (t := 63) (p := 3) (v := .tmp 5) rfl ?_); refine Sep.own_store HO_3.out 0 go 63 _ #[.slice A_5 n_5 c_5] rfl rfl rfl 63 (.tmp 3) (.tmp 5) rfl rfl (.slice A_5 n_5 c_5) rfl rfl rfl (by kernel_rfl) (by simp [Value.oneCell']) ?_; intro w_4 ho; have HO_4 := aM ho; clear ho) | ((with_reducible refine gate_dst (N := 4) rfl ?_); refine box_event ?hg (N := 4) ?hd (cs := #[.nilFunc]) (t := 113) ?hr ?_; (case hd => rfl); (case hg => rfl); (case hr => exact zd_); intro gx hg w_5 hbox hb; have HO_5 := aM (HO_4.out.add_box (T := 113) (cs := #[.nilFunc]) hg hbox hb); clear hg hbox hb) | ((with_reducible refine gate_store (t := 113) (p := 4) (v := .tmp 6) rfl ?_); refine Sep.own_store HO_5.out 0 gx 113 _ #[.func (.func 117) #[] #[.pointer (some ⟨gn, 0, none⟩), .pointer (some ⟨go, 0, none⟩), .pointer (some ⟨gx, 0, none⟩)]] rfl rfl rfl 113 (.tmp 4) (.tmp 6) rfl rfl (.func (.func 117) #[] #[.pointer (some ⟨gn, 0, none⟩), .pointer (some ⟨go, 0, none⟩), .pointer (some ⟨gx, 0, none⟩)]) rfl rfl rfl (by kernel_rfl) (by simp [Value.oneCell']) ?_; intro w_6 ho; have HO_6 := aM ho; clear ho; have z_1 : w_6.cell? ⟨gx, 0, none⟩ = some (.func (.func 117) #[] #[.pointer (some ⟨gn, 0, none⟩), .pointer (some ⟨go, 0, none⟩), .pointer (some ⟨gx, 0, none⟩)]) := (HO_6.out.cell 0 rfl 0 rfl)) | ((with_reducible refine gate_dst (N := 8) rfl ?_); refine Sep.goesCL_ (some 8) rfl rfl (f := 117) (fn := Try.f117) Try.func117 (by kernel_rfl) rfl #[.slice none 0 0, .pointer (some ⟨gn, 0, none⟩), .pointer (some ⟨go, 0, none⟩), .pointer (some ⟨gx, 0, none⟩)] rfl rfl ze_ ?_; refine (impl_ordersOf.ext n hn w gn go gx n [] [] _ _ _ [] ((((((HO_6.out.nilrow (Kd.int .i64) 3).front 1 rfl).front 4 rfl).front 4 rfl).front 4 rfl).front 4 rfl) (by simp) (by have := Nat.pow_le_pow_right (show 0 < 8 by decide) hn; simp at this ⊢; omega)).mono ?_; rintro e w_7 ⟨rfl, vo2, ho⟩; refine ⟨_, rfl, ?_⟩; have HO_7 := aM ho; clear ho; have z_2 : w_7.cell? ⟨go, 0, none⟩ = some (vo2) := (HO_7.out.cell 1 rfl 0 rfl)))
    go_ret
    obtain ⟨P_, hP⟩ := HO_7.out.get 2 rfl
    exact ⟨_, rfl, Kd.S_mono hP (fun _ _ => trivial), HO_7.out.base⟩
   ·cases h
  ·cases h
 ·cases h
mutual
def impl_crossingTable.l0 : Nat → List (List Int) → Int → List (List Int) → Int → Int → Option ((List (List Int)))
 | 0, _, _, _, _, _ => none
 | k + 1, x0, x1, x5, x14, x15 => if x15 < x14 then (if 0 ≤ x1 then (if (x1 : Int).toNat ≤ 35184372088832 then (if 0 ≤ x15 then (if x15 < (x5.length : Int) then (impl_crossingTable.l0 k x0 x1 (x5.set (x15 : Int).toNat (List.replicate (x1 : Int).toNat 0)) x14 (wrap64 (x15 + 1))) else (none)) else (none)) else (none)) else (none)) else (impl_crossingTable.l1 k x0 x5 x0 (x0.length : Int) 0)
def impl_crossingTable.l1 : Nat → List (List Int) → List (List Int) → List (List Int) → Int → Int → Option ((List (List Int)))
 | 0, _, _, _, _, _ => none
 | k + 1, x0, x5, x24, x25, x26 => if x26 < x25 then (if 0 ≤ x26 then (if x26 < (x24.length : Int) then (impl_crossingTable.l2 k x0 x5 (rd_L4 x24 x26) x24 x25 x26 x0 (x0.length : Int) 0) else (none)) else (none)) else (some x5)
def impl_crossingTable.l2 : Nat → List (List Int) → List (List Int) → List Int → List (List Int) → Int → Int → List (List Int) → Int → Int → Option ((List (List Int)))
 | 0, _, _, _, _, _, _, _, _, _ => none
 | k + 1, x0, x5, x8, x24, x25, x26, x30, x31, x32 => if x32 < x31 then (if 0 ≤ x32 then (if x32 < (x30.length : Int) then (if 1 < (x8.length : Int) then (if 1 < ((rd_L4 x30 x32).length : Int) then (if (rd x8 1) = (rd (rd_L4 x30 x32) 1) then (impl_crossingTable.l2 k x0 x5 x8 x24 x25 x26 x30 x31 (wrap64 (x32 + 1))) else (if 0 < (x8.length : Int) then (if 0 < ((rd_L4 x30 x32).length : Int) then (if (rd x8 0) > (rd (rd_L4 x30 x32) 0) then (if 0 ≤ (rd x8 1) then (if (rd x8 1) < (x5.length : Int) then (if 0 ≤ (rd (rd_L4 x30 x32) 1) then (if (rd (rd_L4 x30 x32) 1) < ((rd_L4 x5 (rd x8 1)).length : Int) then (impl_crossingTable.l2 k x0 (x5.set ((rd x8 1) : Int).toNat ((rd_L4 x5 (rd x8 1)).set ((rd (rd_L4 x30 x32) 1) : Int).toNat (wrap64 ((rd (rd_L4 x5 (rd x8 1)) (rd (rd_L4 x30 x32) 1)) + 1)))) x8 x24 x25 x26 x30 x31 (wrap64 (x32 + 1))) else (none)) else (none)) else (none)) else (none)) else (impl_crossingTable.l2 k x0 x5 x8 x24 x25 x26 x30 x31 (wrap64 (x32 + 1)))) else (none)) else (none))) else (none)) else (none)) else (none)) else (none)) else (impl_crossingTable.l1 k x0 x5 x24 x25 (wrap64 (x26 + 1)))
end
def impl_crossingTable.f (k : Nat) (l0 : List (List Int)) (a1 : Int) : Option ((List (List Int))) := if 0 ≤ a1 then (if (a1 : Int).toNat ≤ 11728124029610 then ((some (List.replicate (a1 : Int).toNat [] : List (List Int))).bind fun y261 => (impl_crossingTable.l0 k l0 a1 y261 (y261.length : Int) 0)) else (none)) else (none)
def impl_crossingTable.T13 : Bool × List (List Nat × List Nat) := (true, [([], []), ([0], [0]), ([1], [1]), ([], []), ([3], [3]), ([4], [4]), ([2, 5], [2, 5]), ([6], [6]), ([7], [7]), ([8, 7], [7, 8]), ([9, 7], [7, 9]), ([7], [7]), ([11, 7], [7, 11]), ([12, 7], [7, 12]), ([10, 13, 7], [7, 10, 13]), ([7, 14], [7, 14])])
def impl_crossingTable.B13 : List Nat := [0, 1, 3, 0, 8, 24, 63, 127, 255, 511, 1023, 255, 2303, 6399, 16383, 32767]
theorem impl_crossingTable.tab13 : rtab .any (opsOf Try.f90 13) = impl_crossingTable.T13 := by kernel_rfl
theorem impl_crossingTable.bits13 : waitsOk impl_crossingTable.T13.2 impl_crossingTable.B13 = true := by kernel_rfl
def impl_crossingTable.T14 : Bool × List (List Nat × List Nat) := (true, [([], []), ([], []), ([1], [1]), ([2], [2]), ([0, 3], [0, 3]), ([4], [4]), ([], []), ([6], [6]), ([7], [7]), ([5, 8], [5, 8]), ([9], [9]), ([10], [10]), ([5, 8, 0, 1, 2, 3, 4, 5, 6, 7, 8, 9, 10, 11], [5, 8]), ([12, 11, 0, 1, 2, 3, 4, 5, 6, 7, 8, 9, 10, 11], [11, 12])])
def impl_crossingTable.B14 : List Nat := [0, 0, 2, 6, 15, 31, 0, 64, 192, 511, 1023, 2047, 4095, 8191]
theorem impl_crossingTable.tab14 : rtab .any (opsOf Try.f90 14) = impl_crossingTable.T14 := by kernel_rfl
theorem impl_crossingTable.bits14 : waitsOk impl_crossingTable.T14.2 impl_crossingTable.B14 = true := by kernel_rfl
theorem impl_crossingTable.calls (k : Nat) (A0 : Option Addr) (c0 : Nat) (l0 : List (List Int)) (a1 : Int) (r : List (List Int)) (w : World) (hr0 : Kd.C (Kd.slice 3 (Kd.int .i64)) w A0 l0.length l0) (hc0 : l0.length ≤ c0) (h : impl_crossingTable.f k l0 a1 = some r) :
  Calls Try.prog 90 #[.slice A0 l0.length c0, .int .i64 a1] w fun e w' => ∃ v0_ : Value, e = .returned (v0_) ∧ Kd.S (Kd.slice 3 (Kd.int .i64)) 39 w' w.heap.size (fun _ => True) v0_ r ∧ Below w.heap.size w w' := by
 have HR0 := aM hr0
 have HC0 := aM hc0
 clear hr0 hc0
 have HB := aM (Below.refl w.heap.size w)
 have H : (if 0 ≤ a1 then (if (a1 : Int).toNat ≤ 11728124029610 then ((some (List.replicate (a1 : Int).toNat [] : List (List Int))).bind fun y261 => (impl_crossingTable.l0 k l0 a1 y261 (y261.length : Int) 0)) else (none)) else (none)) = some r := h
 clear h
 by_cases c3 : 0 ≤ a1
 ·rw [if_pos c3] at H
  have c3b0 := eq_true c3; have c3b1 := decide_eq_true c3; clear c3
  by_cases c4 : (a1 : Int).toNat ≤ 11728124029610
  ·rw [if_pos c4] at H
   have c4b0 := eq_true c4; have c4b1 := decide_eq_true c4; clear c4; obtain ⟨y261, hy261⟩ : ∃ y_ : List (List Int), y_ = (List.replicate (a1 : Int).toNat []) := ⟨_, rfl⟩; replace H : (impl_crossingTable.l0 k l0 a1 y261 (y261.length : Int) 0) = some r := q3y_ hy261 H
   have Ny261 := aM hy261; clear hy261; have H' := aM H; clear H
   go_enter Try.func90, Try.ntmps90
   go_wp2_with (first | ((with_reducible refine gate_dst (N := 12) rfl ?_); refine Kd.S_make (Kd.slice 3 (Kd.int .i64)) _ 39 rfl (N := 12) rfl 63 _ _ rfl a1 rfl rfl Try.underlying63 (.slice none 0 0) 24 info39 rfl (by decide) (by omega) [] (ok := fun _ => True) (okp := fun _ => True) ⟨_, rfl, Kd.R_nil _ _ _ _ _⟩ (fun _ hk => hk) trivial (of_decide_eq_true za_) (Nat.le_trans (Nat.mul_le_mul_right _ (of_decide_eq_true za_ : a1.toNat ≤ 11728124029610)) (by omega)) (Below.refl _ _) (Nat.le_refl _) ?_; intro v262 w5 ho6 hb hg_ hnew_; clear hg_ hnew_; (first | rw [← Ny261.out] at ho6 | (simp only [Int.reduceToNat] at ho6; rw [← Ny261.out] at ho6)); have n_ := z (Kd.S_lower ho6 (below_size zb_)) <| z1 (below_step zb_ hb); clear HB; obtain ⟨HO263, HB⟩ := n_; clear hb ho6; obtain ⟨Ao7, co7, eo7⟩ := Kd.S_slice HO263.out; subst eo7))
   go_loopg [15] k (fun kq v15 w' => ∃ (x5_1 : List (List Int)) (x15_1 : Int), v15 = .int .i64 x15_1 ∧ Aside0 (impl_crossingTable.l0 kq l0 a1 x5_1 (y261.length : Int) x15_1 = some r) ∧ Aside0 (kq ≤ k) ∧ Aside0 (Kd.S (Kd.slice 3 (Kd.int .i64)) 39 w' w.heap.size (fun _ => True) (.slice Ao7 y261.length co7) x5_1) ∧ Aside0 (Below w.heap.size w w'))
   case atStart => exact ⟨(y261), (0), zc_, H', ⟨Nat.le_refl _⟩, ⟨zs HO263.out⟩, ⟨zb_⟩⟩
   case round =>
    clear H'; (try clear c3b0); (try clear c3b1); (try clear c4b0); (try clear c4b1); obtain ⟨x5_1, x15_1, rfl, HA, HK1, HO_5, HB⟩ := hrel; have hl5_1 := (Kd.S_reads' HO_5.out).1; rw [hl5_1] at HO_5; (try simp only [hl5_1])
    cases gk with
    | zero => exact absurd HA.out (by simp [impl_crossingTable.l0])
    | succ k1 =>
     have H := HA.out; clear HA
     simp only [impl_crossingTable.l0] at H
     by_cases c8 : x15_1 < (y261.length : Int)
     ·rw [if_pos c8] at H
      have c8b0 := decide_eq_true c8; (try (have c8z0 := c8b0; rw [hl5_1] at c8z0)); clear c8
      by_cases c9 : 0 ≤ a1
      ·rw [if_pos c9] at H
       have c9b0 := eq_true c9; have c9b1 := decide_eq_true c9; clear c9
       by_cases c10 : (a1 : Int).toNat ≤ 35184372088832
       ·rw [if_pos c10] at H
        have c10b0 := eq_true c10; have c10b1 := decide_eq_true c10; clear c10; obtain ⟨y264, hy264⟩ : ∃ y_ : List Int, y_ = (List.replicate (a1 : Int).toNat 0) := ⟨_, rfl⟩; replace H : (if 0 ≤ x15_1 then (if x15_1 < (x5_1.length : Int) then (impl_crossingTable.l0 k1 l0 a1 (x5_1.set (x15_1 : Int).toNat y264) (y261.length : Int) (wrap64 (x15_1 + 1))) else (none)) else (none)) = some r := q3y_ hy264 H
        have Ny264 := aM hy264; clear hy264
        by_cases c11 : 0 ≤ x15_1
        ·rw [if_pos c11] at H
         have c11b0 := decide_eq_true c11; clear c11
         by_cases c12 : x15_1 < (x5_1.length : Int)
         ·rw [if_pos c12] at H
          have c12b0 := decide_eq_true c12; (try (have c12z0 := c12b0; rw [hl5_1] at c12z0)); clear c12; obtain ⟨y267, hy267⟩ : ∃ y_ : List (List Int), y_ = (x5_1.set (x15_1 : Int).toNat y264) := ⟨_, rfl⟩; replace H : (impl_crossingTable.l0 k1 l0 a1 y267 (y261.length : Int) (wrap64 (x15_1 + 1))) = some r := q3y_ hy267 H
          have Ny267 := aM hy267; clear hy267; have H' := aM H; clear H
          go_wp2_with (first | ((with_reducible refine gate_dst (N := 21) rfl ?_); refine Kd.R_make (Kd.int .i64) _ 3 rfl (N := 21) rfl 39 _ _ rfl a1 rfl rfl Try.underlying39 (.int .i64 0) 8 info3 rfl (by decide) (by omega) 0 (ok := fun _ => True) (okp := fun _ => True) rfl (fun _ hk => hk) trivial (of_decide_eq_true za_) (Nat.le_trans (Nat.mul_le_mul_right _ (of_decide_eq_true za_ : a1.toNat ≤ 35184372088832)) (by omega)) (Below.refl _ _) (Nat.le_refl _) ?_; intro v265 w14 ho15 hb hg_ hnew_; clear hg_ hnew_; (first | rw [← Ny264.out] at ho15 | (simp only [Int.reduceToNat] at ho15; rw [← Ny264.out] at ho15)); obtain ⟨Ao265, co265, eo265⟩ := (by first | exact Kd.R_slice ho15 | exact Kd.S_slice ho15 : ∃ A c, v265 = .slice A y264.length c); subst eo265; have n_ := z (Kd.S_elder' (zs HO_5.out) (Kd.R_base ho15) hb) <| z (Kd.R_lower ho15 (below_size zb_)) <| z1 (below_step zb_ hb); clear HO_5 HB; obtain ⟨HO_5, HO266, HB⟩ := n_; clear hb ho15; have p13 : 0 ≤ (x15_1 : Int) := of_decide_eq_true za_; have q13 : (x15_1 : Int) < ((x5_1.length : Int) : Int) := of_decide_eq_true za_; obtain ⟨go13, co13, eo13, gb13, gl13, cl13, HG13⟩ := Kd.S_form HO_5.out (by omega); (first | cases eo13 | (injection eo13 with ea_ en_ ec_; (first | subst ea_ | (injection ea_ with ea_; subst ea_)); subst ec_; clear en_)); have GB13 := aM gb13; have GG13 := aM HG13; clear gb13 gl13 HG13; obtain ⟨_, ce13, hcl13, hM13, hcc13, hfr13, _, _⟩ := Kd.S_elem HO_5.out [] (x15_1 : Int) p13 q13; obtain ⟨ve13_0, rfl, ge13_0⟩ := hM13; have hx13_0 := hcc13 0 _ rfl; have hf13_0 := hfr13 0; (try simp only [show ((Kd.slice 3 (Kd.int .i64))).sz = 1 from rfl, Nat.mul_one, Nat.add_zero] at hx13_0); (try simp only [show ((Kd.slice 3 (Kd.int .i64))).sz = 1 from rfl, Nat.mul_one, Nat.add_zero] at hf13_0); clear hcl13 hcc13 hfr13; (try clear hM13); replace p13 := eq_true p13; replace q13 := eq_true q13; have n_ := aM (Kd.S_mono (ok' := (fun k_ => some k_ ≠ ((Value.slice Ao265 y264.length co265) : Value).ownBlock)) HO_5.out (fun k_ hk => hk.2)); clear HO_5; have HO_5 := n_; clear n_; have HX16 := aM (show Kd.S (Kd.slice 3 (Kd.int .i64)) 39 w14 w.heap.size (fun k_ => ((fun _ => True)) k_ ∧ ¬ ((fun k_ => some k_ = ((Value.slice Ao265 y264.length co265) : Value).ownBlock)) k_) (.slice (some ⟨go13, 0, none⟩) x5_1.length co7) x5_1 from zfj_); obtain ⟨oki16, ce16, hcl16, hM16, hcc16, hfr16, hoki16, hH16⟩ := Kd.S_elem HX16.out [] (x15_1 : Int) (of_decide_eq_true za_) (by have h_ : (x15_1 : Int) < ((x5_1.length : Int) : Int) := of_decide_eq_true za_; first | exact h_ | (have e_ := (Kd.S_reads' HO_5.out).1; omega) | simpa using h_); obtain ⟨ve16_0, rfl, ge16_0⟩ := hM16; have HP16 := Kd.S_seg hH16 (of_decide_eq_true za_) (by have h_ : (x15_1 : Int) < ((x5_1.length : Int) : Int) := of_decide_eq_true za_; first | exact h_ | (have e_ := (Kd.S_reads' HO_5.out).1; omega) | simpa using h_) (seg := [(Value.slice Ao265 y264.length co265)]) (j := 0) (show 1 ≤ 1 from by decide) (x' := y264) (Kd.M_row (Kd.R_mono (Kd.R_tight rfl (Kd.R_mono (ok' := fun k_ => ((fun _ => True)) k_ ∧ k_ ≠ go13) (Kd.R_apart' (HO266.out) (Kd.S_typed HO_5.out) (by decide)) (fun k_ hk => ⟨trivial, fun e_ => (hk.2) (by rw [e_]; rfl)⟩))) (fun _ h_ => Or.inr (h_)))) (fun _ hk => hk) (fun k_ hk_ => ((Kd.R_mono (ok' := fun k_ => ((fun _ => True)) k_ ∧ k_ ≠ go13) (Kd.R_apart' (HO266.out) (Kd.S_typed HO_5.out) (by decide)) (fun k_ hk => ⟨trivial, fun e_ => (hk.2) (by rw [e_]; rfl)⟩))).1 k_ hk_.symm); have hx16_0 := hcc16 0 _ rfl; (try simp only [show ((Kd.slice 3 (Kd.int .i64))).sz = 1 from rfl, Nat.mul_one, Nat.add_zero] at hx16_0); have hf16_0 := hfr16 0; (try simp only [show ((Kd.slice 3 (Kd.int .i64))).sz = 1 from rfl, Nat.mul_one, Nat.add_zero] at hf16_0); clear hcl16 hcc16 hfr16 hoki16 hH16; (try clear hM16); (try simp only [show ((Kd.slice 3 (Kd.int .i64))).sz = 1 from rfl, Nat.mul_one, Nat.add_zero] at HP16)) | ((with_reducible refine gate_store (t := 39) (p := 22) rfl ?_); refine store_event (t := 39) (p := 22) (v := ?vo_w17) (w1 := (w14.setCell ⟨go13, (x15_1 : Int).toNat, none⟩ ((Value.slice Ao265 y264.length co265)))) ?hg ?ho ?hn ?hr ?_; (case ho => rfl); (case hg => rfl); (case hn => rfl); (case hr => exact zd_); intro w17 hw; have hg : w14.grownBy w17 (some go13) := (by rw [hw]; exact HP16.2); have hp_ : Kd.S (Kd.slice 3 (Kd.int .i64)) 39 w17 w.heap.size (fun _ => True) (.slice (some ⟨go13, 0, none⟩) x5_1.length co7) y267 := (by rw [hw, Ny267.out]; exact HP16.1); clear HP16; have n_ := z (hp_) <| z1 ((by rw [hw]; exact below_set (HB.out) GB13.out : Below w.heap.size w w17)); clear HO_5 HB HO266; obtain ⟨HO_5, HB⟩ := n_; clear hg hw hp_))
          (try simp only [← hl5_1])
          go_roundg k1
          case measure => have := HK1.out; omega
          case rel => exact ⟨(y267), (wrap64 (x15_1 + 1)), zc_, H', ⟨zbe_⟩, ⟨by (try simp only [hl5_1]); refine zs ?_; exact HO_5.out⟩, ⟨zb_⟩⟩
         ·rw [if_neg c12] at H
          exact q3n_ H
        ·rw [if_neg c11] at H
         exact q3n_ H
       ·rw [if_neg c10] at H
        exact q3n_ H
      ·rw [if_neg c9] at H
       exact q3n_ H
     ·rw [if_neg c8] at H
      have c8b0 := decide_eq_false c8; (try (have c8z0 := c8b0; rw [hl5_1] at c8z0)); clear c8; have H' := aM H; clear H
      go_wp2
      go_loopg [26] k1 (fun kq v26 w' => ∃ (x5_2 : List (List Int)) (x26_2 : Int), v26 = .int .i64 x26_2 ∧ Aside0 (impl_crossingTable.l1 kq l0 x5_2 l0 (l0.length : Int) x26_2 = some r) ∧ Aside0 (kq ≤ k1) ∧ Aside0 (Kd.S (Kd.slice 3 (Kd.int .i64)) 39 w' w.heap.size (fun _ => True) (.slice Ao7 x5_1.length co7) x5_2) ∧ Aside0 (Below w.heap.size w w'))
      case atStart => exact ⟨(x5_1), (0), zc_, H', ⟨Nat.le_refl _⟩, ⟨by (try simp only [hl5_1]); refine zs ?_; exact HO_5.out⟩, ⟨zb_⟩⟩
      case round =>
       clear H'; (try clear c8b0); obtain ⟨x5_2, x26_2, rfl, HA, HK2, HO_5, HB⟩ := hrel; have hl5_2 := (Kd.S_reads' HO_5.out).1; rw [hl5_2] at HO_5; (try simp only [hl5_2])
       cases gk with
       | zero => exact absurd HA.out (by simp [impl_crossingTable.l1])
       | succ k2 =>
        have H := HA.out; clear HA
        simp only [impl_crossingTable.l1] at H
        by_cases c18 : x26_2 < (l0.length : Int)
        ·rw [if_pos c18] at H
         have c18b0 := decide_eq_true c18; (try (have c18z0 := c18b0; rw [hl5_1] at c18z0)); (try (have c18z1 := c18b0; rw [hl5_2] at c18z1)); clear c18
         by_cases c19 : 0 ≤ x26_2
         ·rw [if_pos c19] at H
          have c19b0 := decide_eq_true c19; clear c19
          by_cases c20 : x26_2 < (l0.length : Int)
          ·rw [if_pos c20] at H
           have c20b0 := decide_eq_true c20; (try (have c20z0 := c20b0; rw [hl5_1] at c20z0)); (try (have c20z1 := c20b0; rw [hl5_2] at c20z1)); clear c20; have H' := aM H; clear H; have p268 : 0 ≤ (x26_2 : Int) := of_decide_eq_true za_; have q268 : x26_2 < (l0.length : Int) := of_decide_eq_true za_; obtain ⟨ad268, A268_0, c268_0, e268, hx268_0, hl268_0, hi268_0⟩ := at_L4 HR0.out x26_2 p268 q268
           cases e268
           (try (replace hx268_0 := q3h_ HB.out hx268_0)); have HR268_0 := aM hi268_0; have HC268_0 := aM hl268_0; clear hi268_0 hl268_0; replace p268 := eq_true p268; replace q268 := eq_true q268
           go_wp2
           go_loopg [32] k2 (fun kq v32 w' => ∃ (x5_3 : List (List Int)) (x32_3 : Int), v32 = .int .i64 x32_3 ∧ Aside0 (impl_crossingTable.l2 kq l0 x5_3 (rd_L4 l0 x26_2) l0 (l0.length : Int) x26_2 l0 (l0.length : Int) x32_3 = some r) ∧ Aside0 (kq ≤ k2) ∧ Aside0 (Kd.S (Kd.slice 3 (Kd.int .i64)) 39 w' w.heap.size (fun _ => True) (.slice Ao7 x5_2.length co7) x5_3) ∧ Aside0 (Below w.heap.size w w'))
           case atStart => exact ⟨(x5_2), (0), zc_, H', ⟨Nat.le_refl _⟩, ⟨by (try simp only [hl5_1]); (try simp only [hl5_2]); refine zs ?_; exact HO_5.out⟩, ⟨zb_⟩⟩
           case round =>
            clear H'; (try clear c18b0); (try clear c19b0); (try clear c20b0); (try clear hx268_0); (try clear p268); (try clear q268); obtain ⟨x5_3, x32_3, rfl, HA, HK3, HO_5, HB⟩ := hrel; have hl5_3 := (Kd.S_reads' HO_5.out).1; rw [hl5_3] at HO_5; (try simp only [hl5_3])
            cases gk with
            | zero => exact absurd HA.out (by simp [impl_crossingTable.l2])
            | succ k3 =>
             have H := HA.out; clear HA
             simp only [impl_crossingTable.l2] at H
             by_cases c21 : x32_3 < (l0.length : Int)
             ·rw [if_pos c21] at H
              have c21b0 := decide_eq_true c21; (try (have c21z0 := c21b0; rw [hl5_1] at c21z0)); (try (have c21z1 := c21b0; rw [hl5_2] at c21z1)); (try (have c21z2 := c21b0; rw [hl5_3] at c21z2)); clear c21
              by_cases c22 : 0 ≤ x32_3
              ·rw [if_pos c22] at H
               have c22b0 := decide_eq_true c22; clear c22
               by_cases c23 : x32_3 < (l0.length : Int)
               ·rw [if_pos c23] at H
                have c23b0 := decide_eq_true c23; (try (have c23z0 := c23b0; rw [hl5_1] at c23z0)); (try (have c23z1 := c23b0; rw [hl5_2] at c23z1)); (try (have c23z2 := c23b0; rw [hl5_3] at c23z2)); clear c23
                by_cases c24 : 1 < ((rd_L4 l0 x26_2).length : Int)
                ·rw [if_pos c24] at H
                 have c24b0 := decide_eq_true c24; (try (have c24z0 := c24b0; rw [hl5_1] at c24z0)); (try (have c24z1 := c24b0; rw [hl5_2] at c24z1)); (try (have c24z2 := c24b0; rw [hl5_3] at c24z2)); have c24b1 : decide (1 < (rd_L4 l0 x26_2).length) = true := decide_eq_true (by omega); clear c24
                 by_cases c25 : 1 < ((rd_L4 l0 x32_3).length : Int)
                 ·rw [if_pos c25] at H
                  have c25b0 := decide_eq_true c25; (try (have c25z0 := c25b0; rw [hl5_1] at c25z0)); (try (have c25z1 := c25b0; rw [hl5_2] at c25z1)); (try (have c25z2 := c25b0; rw [hl5_3] at c25z2)); have c25b1 : decide (1 < (rd_L4 l0 x32_3).length) = true := decide_eq_true (by omega); clear c25
                  by_cases c26 : (rd (rd_L4 l0 x26_2) 1) = (rd (rd_L4 l0 x32_3) 1)
                  ·rw [if_pos c26] at H
                   have c26b0 := beq_iff_eq.mpr c26; have c26b1 := bne_eq_false_iff_eq.mpr c26; clear c26; have H' := aM H; clear H; have p269 : 0 ≤ (x32_3 : Int) := of_decide_eq_true za_; have q269 : x32_3 < (l0.length : Int) := of_decide_eq_true za_; obtain ⟨ad269, A269_0, c269_0, e269, hx269_0, hl269_0, hi269_0⟩ := at_L4 HR0.out x32_3 p269 q269; obtain rfl : ad268 = ad269 := (by injection e269); (try (replace hx269_0 := q3h_ HB.out hx269_0)); have HR269_0 := aM hi269_0; have HC269_0 := aM hl269_0; clear hi269_0 hl269_0; replace p269 := eq_true p269; replace q269 := eq_true q269; (try go_wp2); have n_ := z (Kd.S_drew HO_5.out) <| z1 (p1 HB.out)
                   clear HO_5 HB; obtain ⟨HO_5, HB⟩ := n_; have p270 : 0 ≤ (1 : Int) := (by omega); have q270 : 1 < ((rd_L4 l0 x26_2).length : Int) := of_decide_eq_true za_; obtain ⟨ad270, e270, hx270_0⟩ := Kd.at_int HR268_0.out 1 p270 q270; have hw270_0 := hx270_0; (try rw [show ((1 : Int)).toNat = 1 from rfl] at hw270_0); (try rw [show 1 * 1 = 1 from rfl] at hw270_0); (try simp only [Nat.reduceMul, Nat.reduceEqDiff, Go.Addr.add, ↓reduceIte] at hw270_0)
                   cases e270
                   (try simp only [show (1 : Int).toNat = 1 from rfl, Nat.reduceMul, Nat.reduceEqDiff, Go.Addr.add, ↓reduceIte] at hx270_0); have qi270 : (1 < (rd_L4 l0 x26_2).length) = True := eq_true (by omega); (try rw [show ((1 : Int)).toNat = 1 from rfl] at hx270_0); (try (replace hx270_0 := q3h_ HB.out hx270_0)); replace p270 := eq_true p270; replace q270 := eq_true q270; have p271 : 0 ≤ (1 : Int) := (by omega); have q271 : 1 < ((rd_L4 l0 x32_3).length : Int) := of_decide_eq_true za_; obtain ⟨ad271, e271, hx271_0⟩ := Kd.at_int HR269_0.out 1 p271 q271; have hw271_0 := hx271_0; (try rw [show ((1 : Int)).toNat = 1 from rfl] at hw271_0); (try rw [show 1 * 1 = 1 from rfl] at hw271_0); (try simp only [Nat.reduceMul, Nat.reduceEqDiff, Go.Addr.add, ↓reduceIte] at hw271_0)
                   cases e271
                   (try simp only [show (1 : Int).toNat = 1 from rfl, Nat.reduceMul, Nat.reduceEqDiff, Go.Addr.add, ↓reduceIte] at hx271_0); have qi271 : (1 < (rd_L4 l0 x32_3).length) = True := eq_true (by omega); (try rw [show ((1 : Int)).toNat = 1 from rfl] at hx271_0); (try (replace hx271_0 := q3h_ HB.out hx271_0)); replace p271 := eq_true p271; replace q271 := eq_true q271
                   refine start_ (n := 16) (S := fun w' => w'.cell? ⟨ad270.block, ad270.off + 1, none⟩ = some (.int .i64 (rd (rd_L4 l0 x26_2) 1)) ∧ w'.cell? ⟨ad271.block, ad271.off + 1, none⟩ = some (.int .i64 (rd (rd_L4 l0 x32_3) 1))) (ds := []) #[fi,fi,fi,fi,fi,fi,fi,fi,fi,fi,fi,fi,fi,fi,fi,fi] (by kernel_rfl) rfl rfl ⟨((HB.out.cell (World.block_lt_of_cell? w _ hw270_0)).trans hw270_0), ((HB.out.cell (World.block_lt_of_cell? w _ hw271_0)).trans hw271_0)⟩ (fun hHeld => ?_); refine with_tabW impl_crossingTable.tab13 impl_crossingTable.bits13 (fun HT_ HW_ => ?_)
                   generalize wr.drew = w27 at HO_5 HB hx270_0 hx271_0 hHeld ⊢; refine py_ 0 36 HT_.out ?_; refine py_ 1 37 HT_.out ?_; refine py_ 3 39 HT_.out ?_; refine py_ 4 40 HT_.out ?_
                   refine tw2_ 2 38 HT_.out HW_.out hHeld ?_
                   refine tw2_ 5 41 HT_.out HW_.out hHeld ?_
                   refine py_ 6 42 HT_.out ?_; refine py_ 7 43 HT_.out ?_; refine pu_ 8 44 HT_.out ?_; refine pu_ 9 45 HT_.out ?_; refine pu_ 10 46 HT_.out ?_; refine pu_ 11 47 HT_.out ?_; refine pu_ 12 48 HT_.out ?_; refine pu_ 13 49 HT_.out ?_; refine pu_ 14 50 HT_.out ?_; refine py_ 15 51 HT_.out ?_
                   refine done_ (done_of HT_.out (by kernel_rfl)) ?_
                   (try go_wp2); (try simp only [← hl5_3])
                   go_roundg k3
                   case measure => have := HK1.out; have := HK2.out; have := HK3.out; omega
                   case rel => exact ⟨(x5_3), (wrap64 (x32_3 + 1)), zc_, H', ⟨zbd_⟩, ⟨zhj_⟩, ⟨zb_⟩⟩
                  ·rw [if_neg c26] at H
                   have c26b0 := beq_eq_false_iff_ne.mpr c26; have c26b1 := bne_iff_ne.mpr c26
                   by_cases c28 : 0 < ((rd_L4 l0 x26_2).length : Int)
                   ·rw [if_pos c28] at H
                    have c28b0 := decide_eq_true c28; (try (have c28z0 := c28b0; rw [hl5_1] at c28z0)); (try (have c28z1 := c28b0; rw [hl5_2] at c28z1)); (try (have c28z2 := c28b0; rw [hl5_3] at c28z2)); have c28b1 : decide (0 < (rd_L4 l0 x26_2).length) = true := decide_eq_true (by omega); clear c28
                    by_cases c29 : 0 < ((rd_L4 l0 x32_3).length : Int)
                    ·rw [if_pos c29] at H
                     have c29b0 := decide_eq_true c29; (try (have c29z0 := c29b0; rw [hl5_1] at c29z0)); (try (have c29z1 := c29b0; rw [hl5_2] at c29z1)); (try (have c29z2 := c29b0; rw [hl5_3] at c29z2)); have c29b1 : decide (0 < (rd_L4 l0 x32_3).length) = true := decide_eq_true (by omega); clear c29
                     by_cases c30 : (rd (rd_L4 l0 x26_2) 0) > (rd (rd_L4 l0 x32_3) 0)
                     ·rw [if_pos c30] at H
                      have c30b0 : decide ((rd (rd_L4 l0 x32_3) 0) < (rd (rd_L4 l0 x26_2) 0)) = true := decide_eq_true c30; clear c30
                      by_cases c31 : 0 ≤ (rd (rd_L4 l0 x26_2) 1)
                      ·rw [if_pos c31] at H
                       have c31b0 := decide_eq_true c31; clear c31
                       by_cases c32 : (rd (rd_L4 l0 x26_2) 1) < (x5_3.length : Int)
                       ·rw [if_pos c32] at H
                        have c32b0 := decide_eq_true c32; (try (have c32z0 := c32b0; rw [hl5_1] at c32z0)); (try (have c32z1 := c32b0; rw [hl5_2] at c32z1)); (try (have c32z2 := c32b0; rw [hl5_3] at c32z2)); clear c32
                        by_cases c33 : 0 ≤ (rd (rd_L4 l0 x32_3) 1)
                        ·rw [if_pos c33] at H
                         have c33b0 := decide_eq_true c33; clear c33
                         by_cases c34 : (rd (rd_L4 l0 x32_3) 1) < ((rd_L4 x5_3 (rd (rd_L4 l0 x26_2) 1)).length : Int)
                         ·rw [if_pos c34] at H
                          have c34b0 := decide_eq_true c34; (try (have c34z0 := c34b0; rw [hl5_1] at c34z0)); (try (have c34z1 := c34b0; rw [hl5_2] at c34z1)); (try (have c34z2 := c34b0; rw [hl5_3] at c34z2)); clear c34; obtain ⟨y278, hy278⟩ : ∃ y_ : List Int, y_ = ((rd_L4 x5_3 (rd (rd_L4 l0 x26_2) 1)).set ((rd (rd_L4 l0 x32_3) 1) : Int).toNat (wrap64 ((rd (rd_L4 x5_3 (rd (rd_L4 l0 x26_2) 1)) (rd (rd_L4 l0 x32_3) 1)) + 1))) := ⟨_, rfl⟩; replace H : (impl_crossingTable.l2 k3 l0 (x5_3.set ((rd (rd_L4 l0 x26_2) 1) : Int).toNat y278) (rd_L4 l0 x26_2) l0 (l0.length : Int) x26_2 l0 (l0.length : Int) (wrap64 (x32_3 + 1))) = some r := q3y_ hy278 H
                          have Ny278 := aM hy278; clear hy278; obtain ⟨y280, hy280⟩ : ∃ y_ : List (List Int), y_ = (x5_3.set ((rd (rd_L4 l0 x26_2) 1) : Int).toNat y278) := ⟨_, rfl⟩; replace H : (impl_crossingTable.l2 k3 l0 y280 (rd_L4 l0 x26_2) l0 (l0.length : Int) x26_2 l0 (l0.length : Int) (wrap64 (x32_3 + 1))) = some r := q3y_ hy280 H
                          have Ny280 := aM hy280; clear hy280; have H' := aM H; clear H; have p269 : 0 ≤ (x32_3 : Int) := of_decide_eq_true za_; have q269 : x32_3 < (l0.length : Int) := of_decide_eq_true za_; obtain ⟨ad269, A269_0, c269_0, e269, hx269_0, hl269_0, hi269_0⟩ := at_L4 HR0.out x32_3 p269 q269; obtain rfl : ad268 = ad269 := (by injection e269); (try (replace hx269_0 := q3h_ HB.out hx269_0)); have HR269_0 := aM hi269_0; have HC269_0 := aM hl269_0; clear hi269_0 hl269_0; replace p269 := eq_true p269; replace q269 := eq_true q269; (try go_wp2); have n_ := z (Kd.S_drew HO_5.out) <| z1 (p1 HB.out)
                          clear HO_5 HB; obtain ⟨HO_5, HB⟩ := n_; have p270 : 0 ≤ (1 : Int) := (by omega); have q270 : 1 < ((rd_L4 l0 x26_2).length : Int) := of_decide_eq_true za_; obtain ⟨ad270, e270, hx270_0⟩ := Kd.at_int HR268_0.out 1 p270 q270; have hw270_0 := hx270_0; (try rw [show ((1 : Int)).toNat = 1 from rfl] at hw270_0); (try rw [show 1 * 1 = 1 from rfl] at hw270_0); (try simp only [Nat.reduceMul, Nat.reduceEqDiff, Go.Addr.add, ↓reduceIte] at hw270_0)
                          cases e270
                          (try simp only [show (1 : Int).toNat = 1 from rfl, Nat.reduceMul, Nat.reduceEqDiff, Go.Addr.add, ↓reduceIte] at hx270_0); have qi270 : (1 < (rd_L4 l0 x26_2).length) = True := eq_true (by omega); (try rw [show ((1 : Int)).toNat = 1 from rfl] at hx270_0); (try (replace hx270_0 := q3h_ HB.out hx270_0)); replace p270 := eq_true p270; replace q270 := eq_true q270; have p271 : 0 ≤ (1 : Int) := (by omega); have q271 : 1 < ((rd_L4 l0 x32_3).length : Int) := of_decide_eq_true za_; obtain ⟨ad271, e271, hx271_0⟩ := Kd.at_int HR269_0.out 1 p271 q271; have hw271_0 := hx271_0; (try rw [show ((1 : Int)).toNat = 1 from rfl] at hw271_0); (try rw [show 1 * 1 = 1 from rfl] at hw271_0); (try simp only [Nat.reduceMul, Nat.reduceEqDiff, Go.Addr.add, ↓reduceIte] at hw271_0)
                          cases e271
                          (try simp only [show (1 : Int).toNat = 1 from rfl, Nat.reduceMul, Nat.reduceEqDiff, Go.Addr.add, ↓reduceIte] at hx271_0); have qi271 : (1 < (rd_L4 l0 x32_3).length) = True := eq_true (by omega); (try rw [show ((1 : Int)).toNat = 1 from rfl] at hx271_0); (try (replace hx271_0 := q3h_ HB.out hx271_0)); replace p271 := eq_true p271; replace q271 := eq_true q271; have p272 : 0 ≤ (0 : Int) := (by omega); have q272 : 0 < ((rd_L4 l0 x26_2).length : Int) := of_decide_eq_true za_; obtain ⟨ad272, e272, hx272_0⟩ := Kd.at_int HR268_0.out 0 p272 q272; have hw272_0 := hx272_0; (try rw [show ((0 : Int)).toNat = 0 from rfl] at hw272_0); (try rw [show 0 * 1 = 0 from rfl] at hw272_0); (try rw [Addr.add_zero'] at hw272_0); obtain rfl : ad270 = ad272 := (by injection e272); have qi272 : (0 < (rd_L4 l0 x26_2).length) = True := eq_true (by omega); (try rw [show ((0 : Int)).toNat = 0 from rfl] at hx272_0); (try rw [Addr.add_zero'] at hx272_0); (try (replace hx272_0 := q3h_ HB.out hx272_0)); replace p272 := eq_true p272; replace q272 := eq_true q272; have p273 : 0 ≤ (0 : Int) := (by omega); have q273 : 0 < ((rd_L4 l0 x32_3).length : Int) := of_decide_eq_true za_; obtain ⟨ad273, e273, hx273_0⟩ := Kd.at_int HR269_0.out 0 p273 q273; have hw273_0 := hx273_0; (try rw [show ((0 : Int)).toNat = 0 from rfl] at hw273_0); (try rw [show 0 * 1 = 0 from rfl] at hw273_0); (try rw [Addr.add_zero'] at hw273_0); obtain rfl : ad271 = ad273 := (by injection e273); have qi273 : (0 < (rd_L4 l0 x32_3).length) = True := eq_true (by omega); (try rw [show ((0 : Int)).toNat = 0 from rfl] at hx273_0); (try rw [Addr.add_zero'] at hx273_0); (try (replace hx273_0 := q3h_ HB.out hx273_0)); replace p273 := eq_true p273; replace q273 := eq_true q273
                          refine start_ (n := 16) (S := fun w' => w'.cell? ⟨ad270.block, ad270.off + 1, none⟩ = some (.int .i64 (rd (rd_L4 l0 x26_2) 1)) ∧ w'.cell? ⟨ad271.block, ad271.off + 1, none⟩ = some (.int .i64 (rd (rd_L4 l0 x32_3) 1)) ∧ w'.cell? ad270 = some (.int .i64 (rd (rd_L4 l0 x26_2) 0)) ∧ w'.cell? ad271 = some (.int .i64 (rd (rd_L4 l0 x32_3) 0))) (ds := []) #[fi,fi,fi,fi,fi,fi,fi,fi,fi,fi,fi,fi,fi,fi,fi,fi] (by kernel_rfl) rfl rfl ⟨((HB.out.cell (World.block_lt_of_cell? w _ hw270_0)).trans hw270_0), ((HB.out.cell (World.block_lt_of_cell? w _ hw271_0)).trans hw271_0), ((HB.out.cell (World.block_lt_of_cell? w _ hw272_0)).trans hw272_0), ((HB.out.cell (World.block_lt_of_cell? w _ hw273_0)).trans hw273_0)⟩ (fun hHeld => ?_); refine with_tabW impl_crossingTable.tab13 impl_crossingTable.bits13 (fun HT_ HW_ => ?_)
                          generalize wr.drew = w36 at HO_5 HB hx270_0 hx271_0 hx272_0 hx273_0 hHeld ⊢; refine py_ 0 36 HT_.out ?_; refine py_ 1 37 HT_.out ?_; refine py_ 3 39 HT_.out ?_; refine py_ 4 40 HT_.out ?_
                          refine tw4_ 2 38 HT_.out HW_.out hHeld ?_
                          refine tw4_ 5 41 HT_.out HW_.out hHeld ?_
                          refine py_ 6 42 HT_.out ?_; refine py_ 7 43 HT_.out ?_; refine py_ 8 44 HT_.out ?_; refine py_ 9 45 HT_.out ?_; refine py_ 11 47 HT_.out ?_; refine py_ 12 48 HT_.out ?_
                          refine tw4_ 10 46 HT_.out HW_.out hHeld ?_
                          refine tw4_ 13 49 HT_.out HW_.out hHeld ?_
                          refine py_ 14 50 HT_.out ?_; refine py_ 15 51 HT_.out ?_
                          refine done_ (done_of HT_.out (by kernel_rfl)) ?_
                          (try go_wp2); have n_ := z (Kd.S_drew HO_5.out) <| z1 (p1 HB.out)
                          clear HO_5 HB; obtain ⟨HO_5, HB⟩ := n_; have p274 : 0 ≤ (1 : Int) := (by omega); have q274 : 1 < ((rd_L4 l0 x26_2).length : Int) := of_decide_eq_true za_; obtain ⟨ad274, e274, hx274_0⟩ := Kd.at_int HR268_0.out 1 p274 q274; have hw274_0 := hx274_0; (try rw [show ((1 : Int)).toNat = 1 from rfl] at hw274_0); (try rw [show 1 * 1 = 1 from rfl] at hw274_0); (try simp only [Nat.reduceMul, Nat.reduceEqDiff, Go.Addr.add, ↓reduceIte] at hw274_0); obtain rfl : ad270 = ad274 := (by injection e274); (try simp only [show (1 : Int).toNat = 1 from rfl, Nat.reduceMul, Nat.reduceEqDiff, Go.Addr.add, ↓reduceIte] at hx274_0); have qi274 : (1 < (rd_L4 l0 x26_2).length) = True := eq_true (by omega); (try rw [show ((1 : Int)).toNat = 1 from rfl] at hx274_0); (try (replace hx274_0 := q3h_ HB.out hx274_0)); replace p274 := eq_true p274; replace q274 := eq_true q274; have p275 : 0 ≤ ((rd (rd_L4 l0 x26_2) 1) : Int) := of_decide_eq_true za_; have q275 : (rd (rd_L4 l0 x26_2) 1) < (x5_3.length : Int) := of_decide_eq_true za_; obtain ⟨ad275, A275_0, c275_0, e275, hx275_0, hl275_0, hi275_0⟩ := at_L4 (Kd.S_reads' HO_5.out).2.2 (rd (rd_L4 l0 x26_2) 1) p275 q275
                          cases e275
                          obtain ⟨ce275, hce275, hMe275, hcc275⟩ := Kd.S_get HO_5.out [] (rd (rd_L4 l0 x26_2) 1) p275 (by first | exact q275 | exact of_decide_eq_true za_ | (have e_ := (Kd.S_reads' HO_5.out).1; omega)); obtain ⟨ve275_0, rfl, ge275_0⟩ := hMe275; have hv275_0 := hcc275 0 _ rfl; rw [Nat.add_zero, show ((Kd.slice 3 (Kd.int .i64))).sz = 1 from rfl, Nat.mul_one] at hv275_0; replace hv275_0 := Option.some.inj (hv275_0.symm.trans hx275_0); rw [hv275_0] at ge275_0; have HL275_0 := aM (show Kd.R (Kd.int .i64) 3 _ _ _ _ (rd_L4 x5_3 (rd (rd_L4 l0 x26_2) 1)) from ge275_0); clear hv275_0 ge275_0; have HX275_0 := aM hx275_0; clear hcc275 hce275; have HR275_0 := aM hi275_0; have HC275_0 := aM hl275_0; clear hi275_0 hl275_0; replace p275 := eq_true p275; replace q275 := eq_true q275; have p276 : 0 ≤ (1 : Int) := (by omega); have q276 : 1 < ((rd_L4 l0 x32_3).length : Int) := of_decide_eq_true za_; obtain ⟨ad276, e276, hx276_0⟩ := Kd.at_int HR269_0.out 1 p276 q276; have hw276_0 := hx276_0; (try rw [show ((1 : Int)).toNat = 1 from rfl] at hw276_0); (try rw [show 1 * 1 = 1 from rfl] at hw276_0); (try simp only [Nat.reduceMul, Nat.reduceEqDiff, Go.Addr.add, ↓reduceIte] at hw276_0); obtain rfl : ad271 = ad276 := (by injection e276); (try simp only [show (1 : Int).toNat = 1 from rfl, Nat.reduceMul, Nat.reduceEqDiff, Go.Addr.add, ↓reduceIte] at hx276_0); have qi276 : (1 < (rd_L4 l0 x32_3).length) = True := eq_true (by omega); (try rw [show ((1 : Int)).toNat = 1 from rfl] at hx276_0); (try (replace hx276_0 := q3h_ HB.out hx276_0)); replace p276 := eq_true p276; replace q276 := eq_true q276; have p277 : 0 ≤ ((rd (rd_L4 l0 x32_3) 1) : Int) := of_decide_eq_true za_; have q277 : (rd (rd_L4 l0 x32_3) 1) < ((rd_L4 x5_3 (rd (rd_L4 l0 x26_2) 1)).length : Int) := of_decide_eq_true za_; obtain ⟨ad277, e277, hx277_0⟩ := Kd.at_int (by repeat (first | (with_reducible exact HR275_0.out) | (with_reducible refine cA ?_ _) | (with_reducible refine cN ?_ _) | (with_reducible refine cD ?_) | exact HR275_0.out)) (rd (rd_L4 l0 x32_3) 1) p277 q277
                          cases e277
                          replace p277 := eq_true p277; replace q277 := eq_true q277; have p35 : 0 ≤ ((rd (rd_L4 l0 x32_3) 1) : Int) := of_decide_eq_true za_; have q35 : ((rd (rd_L4 l0 x32_3) 1) : Int) < (((rd_L4 x5_3 (rd (rd_L4 l0 x26_2) 1)).length : Int) : Int) := of_decide_eq_true za_; obtain ⟨go35, co35, eo35, gb35, gl35, cl35, HG35⟩ := Kd.R_form HL275_0.out (by omega); (first | cases eo35 | (injection eo35 with ea_ en_ ec_; (first | subst ea_ | (injection ea_ with ea_; subst ea_)); subst ec_; clear en_)); have GB35 := aM gb35; have GG35 := aM HG35; clear gb35 gl35 HG35; (first | simp only [add_plain] at hx277_0 | skip); obtain ⟨hx35_0, hf35_0⟩ := Kd.R_celln 0 HL275_0.out ((rd (rd_L4 l0 x32_3) 1) : Int) p35 q35; replace p35 := eq_true p35; replace q35 := eq_true q35; have hq38 : ((rd (rd_L4 l0 x26_2) 1) : Int) < (x5_3.length : Int) := (by have h_ : ((rd (rd_L4 l0 x26_2) 1) : Int) < ((x5_3.length : Int) : Int) := of_decide_eq_true za_; first | exact h_ | (have e_ := (Kd.S_reads' HO_5.out).1; omega) | simpa only [List.length_set, List.length_set] using h_); obtain ⟨oki38, ce38, hcl38, hM38, hcc38, hok38, hbk38⟩ := Kd.S_borrow HO_5.out [] ((rd (rd_L4 l0 x26_2) 1) : Int) (of_decide_eq_true za_) hq38; obtain ⟨ve38_0, rfl, ge38_0⟩ := hM38; have hv38 := hcc38 0 _ rfl; rw [Nat.add_zero, show ((Kd.slice 3 (Kd.int .i64))).sz = 1 from rfl, Nat.mul_one] at hv38; replace hv38 := Option.some.inj (hv38.symm.trans HX275_0.out); subst hv38; clear hcc38 hcl38; replace ge38_0 := (show Kd.R (Kd.int .i64) 3 _ _ _ _ (rd_L4 x5_3 (rd (rd_L4 l0 x26_2) 1)) from ge38_0); have HP38 := Kd.R_putg ge38_0 ((rd (rd_L4 l0 x32_3) 1) : Int) (wrap64 ((rd (rd_L4 x5_3 (rd (rd_L4 l0 x26_2) 1)) (rd (rd_L4 l0 x32_3) 1)) + 1)); rw [← Ny278.out] at HP38; have HS38 := hbk38 HP38.2 (fun k_ e_ => by injection e_ with e_; subst e_; exact ge38_0.1 _ rfl) (x' := y278) (Kd.M_row HP38.1); rw [← Ny280.out] at HS38; have HQ38 := aM HS38; clear HP38 HS38 hbk38 hok38
                          refine start_ (n := 14) (S := fun w' => w'.cell? ⟨ad270.block, ad270.off + 1, none⟩ = some (.int .i64 (rd (rd_L4 l0 x26_2) 1)) ∧ w'.cell? (ad275.add ((rd (rd_L4 l0 x26_2) 1)).toNat) = some (.slice (some (⟨go35, 0, none⟩ : Addr)) (rd_L4 x5_3 (rd (rd_L4 l0 x26_2) 1)).length c275_0) ∧ w'.cell? ⟨ad271.block, ad271.off + 1, none⟩ = some (.int .i64 (rd (rd_L4 l0 x32_3) 1)) ∧ w'.cell? ⟨go35, ((rd (rd_L4 l0 x32_3) 1)).toNat, none⟩ = some (.int .i64 (rd (rd_L4 x5_3 (rd (rd_L4 l0 x26_2) 1)) (rd (rd_L4 l0 x32_3) 1)))) (ds := [13]) #[fi,fi,fi,fi,fi,fi,fi,fi,fi,fi,fi,fi,fi,fi] (by kernel_rfl) rfl rfl ⟨((HB.out.cell (World.block_lt_of_cell? w _ hw274_0)).trans hw274_0), hx275_0, ((HB.out.cell (World.block_lt_of_cell? w _ hw276_0)).trans hw276_0), hx277_0⟩ (fun hHeld => ?_); refine with_tabW impl_crossingTable.tab14 impl_crossingTable.bits14 (fun HT_ HW_ => ?_)
                          generalize w36.drew = w37 at HO_5 HB GG35 HL275_0 HQ38 HR275_0 HX275_0 hf35_0 hx274_0 hx275_0 hx276_0 hx277_0 hx35_0 hHeld ⊢; refine py_ 0 52 HT_.out ?_; refine py_ 1 53 HT_.out ?_; refine py_ 2 54 HT_.out ?_; refine py_ 6 58 HT_.out ?_; refine py_ 7 59 HT_.out ?_
                          refine tw4_ 3 55 HT_.out HW_.out hHeld ?_
                          refine py_ 4 56 HT_.out ?_
                          refine tw4_ 5 57 HT_.out HW_.out hHeld ?_
                          refine tw4_ 8 60 HT_.out HW_.out hHeld ?_
                          refine py_ 9 61 HT_.out ?_
                          refine tw4_ 10 62 HT_.out HW_.out hHeld ?_
                          refine py_ 11 63 HT_.out ?_; refine py_ 12 64 HT_.out ?_
                          refine last_ (i := 13) (N := none) #[ti,ti,ti,ti,ti,ti,ti,ti,ti,ti,ti,ti,ti,ti] rfl rfl (one_of HT_.out (by kernel_rfl)) (by decide) (fun K hK => ?_)
                          refine skip_ (w1 := ?_) (by rfl) rfl ?_ ?_
                          rotate_left
                          ·go_simp
                           rfl
                          refine hK.out _ _ ?_
                          clear hK K
                          refine done_ (done_of HT_.out (by kernel_rfl)) ?_
                          (try go_wp2); (try simp only [← hl5_3])
                          go_roundg k3
                          case measure => have := HK1.out; have := HK2.out; have := HK3.out; omega
                          case rel => exact ⟨(y280), (wrap64 (x32_3 + 1)), zc_, H', ⟨zbd_⟩, ⟨by (try simp only [hl5_1]); (try simp only [hl5_2]); (try simp only [hl5_3]); refine zs ?_; exact HQ38.out⟩, ⟨by repeat (first | (with_reducible first | exact HB.out | apply pA | apply pN | apply p1 | refine below_set ?_ GB35.out) | exact HB.out)⟩⟩
                         ·rw [if_neg c34] at H
                          exact q3n_ H
                        ·rw [if_neg c33] at H
                         exact q3n_ H
                       ·rw [if_neg c32] at H
                        exact q3n_ H
                      ·rw [if_neg c31] at H
                       exact q3n_ H
                     ·rw [if_neg c30] at H
                      have c30b0 : decide ((rd (rd_L4 l0 x32_3) 0) < (rd (rd_L4 l0 x26_2) 0)) = false := decide_eq_false c30; clear c30; have H' := aM H; clear H; have p269 : 0 ≤ (x32_3 : Int) := of_decide_eq_true za_; have q269 : x32_3 < (l0.length : Int) := of_decide_eq_true za_; obtain ⟨ad269, A269_0, c269_0, e269, hx269_0, hl269_0, hi269_0⟩ := at_L4 HR0.out x32_3 p269 q269; obtain rfl : ad268 = ad269 := (by injection e269); (try (replace hx269_0 := q3h_ HB.out hx269_0)); have HR269_0 := aM hi269_0; have HC269_0 := aM hl269_0; clear hi269_0 hl269_0; replace p269 := eq_true p269; replace q269 := eq_true q269; (try go_wp2); have n_ := z (Kd.S_drew HO_5.out) <| z1 (p1 HB.out)
                      clear HO_5 HB; obtain ⟨HO_5, HB⟩ := n_; have p270 : 0 ≤ (1 : Int) := (by omega); have q270 : 1 < ((rd_L4 l0 x26_2).length : Int) := of_decide_eq_true za_; obtain ⟨ad270, e270, hx270_0⟩ := Kd.at_int HR268_0.out 1 p270 q270; have hw270_0 := hx270_0; (try rw [show ((1 : Int)).toNat = 1 from rfl] at hw270_0); (try rw [show 1 * 1 = 1 from rfl] at hw270_0); (try simp only [Nat.reduceMul, Nat.reduceEqDiff, Go.Addr.add, ↓reduceIte] at hw270_0)
                      cases e270
                      (try simp only [show (1 : Int).toNat = 1 from rfl, Nat.reduceMul, Nat.reduceEqDiff, Go.Addr.add, ↓reduceIte] at hx270_0); have qi270 : (1 < (rd_L4 l0 x26_2).length) = True := eq_true (by omega); (try rw [show ((1 : Int)).toNat = 1 from rfl] at hx270_0); (try (replace hx270_0 := q3h_ HB.out hx270_0)); replace p270 := eq_true p270; replace q270 := eq_true q270; have p271 : 0 ≤ (1 : Int) := (by omega); have q271 : 1 < ((rd_L4 l0 x32_3).length : Int) := of_decide_eq_true za_; obtain ⟨ad271, e271, hx271_0⟩ := Kd.at_int HR269_0.out 1 p271 q271; have hw271_0 := hx271_0; (try rw [show ((1 : Int)).toNat = 1 from rfl] at hw271_0); (try rw [show 1 * 1 = 1 from rfl] at hw271_0); (try simp only [Nat.reduceMul, Nat.reduceEqDiff, Go.Addr.add, ↓reduceIte] at hw271_0)
                      cases e271
                      (try simp only [show (1 : Int).toNat = 1 from rfl, Nat.reduceMul, Nat.reduceEqDiff, Go.Addr.add, ↓reduceIte] at hx271_0); have qi271 : (1 < (rd_L4 l0 x32_3).length) = True := eq_true (by omega); (try rw [show ((1 : Int)).toNat = 1 from rfl] at hx271_0); (try (replace hx271_0 := q3h_ HB.out hx271_0)); replace p271 := eq_true p271; replace q271 := eq_true q271; have p272 : 0 ≤ (0 : Int) := (by omega); have q272 : 0 < ((rd_L4 l0 x26_2).length : Int) := of_decide_eq_true za_; obtain ⟨ad272, e272, hx272_0⟩ := Kd.at_int HR268_0.out 0 p272 q272; have hw272_0 := hx272_0; (try rw [show ((0 : Int)).toNat = 0 from rfl] at hw272_0); (try rw [show 0 * 1 = 0 from rfl] at hw272_0); (try rw [Addr.add_zero'] at hw272_0); obtain rfl : ad270 = ad272 := (by injection e272); have qi272 : (0 < (rd_L4 l0 x26_2).length) = True := eq_true (by omega); (try rw [show ((0 : Int)).toNat = 0 from rfl] at hx272_0); (try rw [Addr.add_zero'] at hx272_0); (try (replace hx272_0 := q3h_ HB.out hx272_0)); replace p272 := eq_true p272; replace q272 := eq_true q272; have p273 : 0 ≤ (0 : Int) := (by omega); have q273 : 0 < ((rd_L4 l0 x32_3).length : Int) := of_decide_eq_true za_; obtain ⟨ad273, e273, hx273_0⟩ := Kd.at_int HR269_0.out 0 p273 q273; have hw273_0 := hx273_0; (try rw [show ((0 : Int)).toNat = 0 from rfl] at hw273_0); (try rw [show 0 * 1 = 0 from rfl] at hw273_0); (try rw [Addr.add_zero'] at hw273_0); obtain rfl : ad271 = ad273 := (by injection e273); have qi273 : (0 < (rd_L4 l0 x32_3).length) = True := eq_true (by omega); (try rw [show ((0 : Int)).toNat = 0 from rfl] at hx273_0); (try rw [Addr.add_zero'] at hx273_0); (try (replace hx273_0 := q3h_ HB.out hx273_0)); replace p273 := eq_true p273; replace q273 := eq_true q273
                      refine start_ (n := 16) (S := fun w' => w'.cell? ⟨ad270.block, ad270.off + 1, none⟩ = some (.int .i64 (rd (rd_L4 l0 x26_2) 1)) ∧ w'.cell? ⟨ad271.block, ad271.off + 1, none⟩ = some (.int .i64 (rd (rd_L4 l0 x32_3) 1)) ∧ w'.cell? ad270 = some (.int .i64 (rd (rd_L4 l0 x26_2) 0)) ∧ w'.cell? ad271 = some (.int .i64 (rd (rd_L4 l0 x32_3) 0))) (ds := []) #[fi,fi,fi,fi,fi,fi,fi,fi,fi,fi,fi,fi,fi,fi,fi,fi] (by kernel_rfl) rfl rfl ⟨((HB.out.cell (World.block_lt_of_cell? w _ hw270_0)).trans hw270_0), ((HB.out.cell (World.block_lt_of_cell? w _ hw271_0)).trans hw271_0), ((HB.out.cell (World.block_lt_of_cell? w _ hw272_0)).trans hw272_0), ((HB.out.cell (World.block_lt_of_cell? w _ hw273_0)).trans hw273_0)⟩ (fun hHeld => ?_); refine with_tabW impl_crossingTable.tab13 impl_crossingTable.bits13 (fun HT_ HW_ => ?_)
                      generalize wr.drew = w40 at HO_5 HB hx270_0 hx271_0 hx272_0 hx273_0 hHeld ⊢; refine py_ 0 36 HT_.out ?_; refine py_ 1 37 HT_.out ?_; refine py_ 3 39 HT_.out ?_; refine py_ 4 40 HT_.out ?_
                      refine tw4_ 2 38 HT_.out HW_.out hHeld ?_
                      refine tw4_ 5 41 HT_.out HW_.out hHeld ?_
                      refine py_ 6 42 HT_.out ?_; refine py_ 7 43 HT_.out ?_; refine py_ 8 44 HT_.out ?_; refine py_ 9 45 HT_.out ?_; refine py_ 11 47 HT_.out ?_; refine py_ 12 48 HT_.out ?_
                      refine tw4_ 10 46 HT_.out HW_.out hHeld ?_
                      refine tw4_ 13 49 HT_.out HW_.out hHeld ?_
                      refine py_ 14 50 HT_.out ?_; refine py_ 15 51 HT_.out ?_
                      refine done_ (done_of HT_.out (by kernel_rfl)) ?_
                      (try go_wp2); (try simp only [← hl5_3])
                      go_roundg k3
                      case measure => have := HK1.out; have := HK2.out; have := HK3.out; omega
                      case rel => exact ⟨(x5_3), (wrap64 (x32_3 + 1)), zc_, H', ⟨zbd_⟩, ⟨zhj_⟩, ⟨zb_⟩⟩
                    ·rw [if_neg c29] at H
                     exact q3n_ H
                   ·rw [if_neg c28] at H
                    exact q3n_ H
                 ·rw [if_neg c25] at H
                  exact q3n_ H
                ·rw [if_neg c24] at H
                 exact q3n_ H
               ·rw [if_neg c23] at H
                exact q3n_ H
              ·rw [if_neg c22] at H
               exact q3n_ H
             ·rw [if_neg c21] at H
              have c21b0 := decide_eq_false c21; (try (have c21z0 := c21b0; rw [hl5_1] at c21z0)); (try (have c21z1 := c21b0; rw [hl5_2] at c21z1)); (try (have c21z2 := c21b0; rw [hl5_3] at c21z2)); clear c21; have H' := aM H; clear H
              go_wp2
              (try simp only [← hl5_2, ← hl5_3])
              go_roundg k3
              case measure => have := HK1.out; have := HK2.out; have := HK3.out; omega
              case rel => exact ⟨(x5_3), (wrap64 (x26_2 + 1)), zc_, H', ⟨zbd_⟩, ⟨zhj_⟩, ⟨zb_⟩⟩
          ·rw [if_neg c20] at H
           exact q3n_ H
         ·rw [if_neg c19] at H
          exact q3n_ H
        ·rw [if_neg c18] at H
         have c18b0 := decide_eq_false c18; (try (have c18z0 := c18b0; rw [hl5_1] at c18z0)); (try (have c18z1 := c18b0; rw [hl5_2] at c18z1)); clear c18; obtain rfl := Option.some.inj H
         go_wp2
         go_ret
         exact ⟨_, zh_, by refine zs ?_; exact HO_5.out, zb_⟩
  ·rw [if_neg c4] at H
   exact q3n_ H
 ·rw [if_neg c3] at H
  exact q3n_ H
end Go.Proofs.Ytlnhpkjioppbiaa.QFnLevels
