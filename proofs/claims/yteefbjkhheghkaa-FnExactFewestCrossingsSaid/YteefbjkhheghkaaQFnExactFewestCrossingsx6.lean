/- The functions that the law FnExactFewestCrossings uses: each Go function as a Lean function, and the proof that the Go code comes to its answers (part 6). Written by wip/gen/own.py out of what print.sh printed for this seat, changed by that program where the printed text fell in Lean. Conditions: those of each theorem. -/
import Derived.Test.YteefbjkhheghkaaQFnExactFewestCrossingsx0
namespace Go.Proofs.Yteefbjkhheghkaa.QFnExactFewestCrossings
open Go.RowKit Go.Proofs.YteefbjkhheghkaaW.PrintWords Go.Proofs.YteefbjkhheghkaaW.PrintLast Go.Proofs.YteefbjkhheghkaaW.PrintMore
attribute [local go_sem] max2_int min2_int max_two min_two max_three min_three max_four min_four   -- for this text's walks alone
set_option linter.unusedVariables false
set_option linter.unusedSimpArgs false

/-! ### slices_Index_int_int: function 78 -/
def slices_Index_int_int.l0 : Nat → List Int → Int → Int → Int → Option (Int)
  | 0, _, _, _, _ => none
  | k + 1, x0, x1, x7, x8 => if x8 < x7 then (if 0 ≤ x8 then (if x8 < (x0.length : Int) then (if x1 = (rd x0 x8) then (some x8) else (slices_Index_int_int.l0 k x0 x1 x7 (wrap64 (x8 + 1)))) else (none)) else (none)) else (some (-1))
def slices_Index_int_int.f (k : Nat) (l0 : List Int) (a1 : Int) : Option (Int) := slices_Index_int_int.l0 k l0 a1 (l0.length : Int) 0
theorem slices_Index_int_int.mono_l : ∀ k, (∀ y0 y1 y2 y3, LeO (slices_Index_int_int.l0 k y0 y1 y2 y3) (slices_Index_int_int.l0 (k + 1) y0 y1 y2 y3))
  | 0 => fun _ _ _ _ r h => by simp [slices_Index_int_int.l0] at h
  | k + 1 => by
    have ih0 := slices_Index_int_int.mono_l k
    · intro y0 y1 y2 y3
      unfold slices_Index_int_int.l0
      repeat' first
      | (with_reducible exact ih0 _ _ _ _)
      | (with_reducible exact LeO.refl _)
      | (with_reducible exact LeO.none _)
      | (with_reducible refine LeO.ite ?_ ?_)
      | (with_reducible refine LeO.bind ?_ (fun _ => ?_))
      | exact ih0 _ _ _ _
      | exact LeO.none _
      | refine LeO.ite ?_ ?_
      | refine LeO.bind ?_ (fun _ => ?_)
theorem slices_Index_int_int.mono : ∀ a0 a1 k, LeO (slices_Index_int_int.f k a0 a1) (slices_Index_int_int.f (k + 1) a0 a1) := by
  intro a0 a1 k
  have ih0 := slices_Index_int_int.mono_l k
  unfold slices_Index_int_int.f
  repeat' first
      | (with_reducible exact ih0 _ _ _ _)
      | (with_reducible exact LeO.refl _)
      | (with_reducible exact LeO.none _)
      | (with_reducible refine LeO.ite ?_ ?_)
      | (with_reducible refine LeO.bind ?_ (fun _ => ?_))
      | exact ih0 _ _ _ _
      | exact LeO.none _
      | refine LeO.ite ?_ ?_
      | refine LeO.bind ?_ (fun _ => ?_)
set_option maxHeartbeats 8000000 in
set_option maxRecDepth 100000 in
theorem slices_Index_int_int.calls (k : Nat) (A0 : Option Addr) (c0 : Nat) (l0 : List Int) (a1 : Int) (r : Int) (w : World) (hr0 : Kd.C (Kd.int .i64) w A0 l0.length l0) (hc0 : l0.length ≤ c0) (h : slices_Index_int_int.f k l0 a1 = some r) :
    Calls Try.prog 78 #[.slice A0 l0.length c0, .int .i64 a1] w fun e w' => e = .returned (.int .i64 r) ∧ Drawn0 w w' := by
  have HR0 := Aside0.mk hr0
  have HC0 := Aside0.mk hc0
  clear hr0 hc0
  have H : (slices_Index_int_int.l0 k l0 a1 (l0.length : Int) 0) = some r := h
  clear h
  have H' := Aside0.mk H
  clear H
  go_enter Try.func78, Try.ntmps78
  go_wp2
  go_loopg [8] k (fun kq v8 w' => ∃ (x8_1 : Int), v8 = .int .i64 x8_1 ∧ Aside0 (slices_Index_int_int.l0 kq l0 a1 (l0.length : Int) x8_1 = some r) ∧ Aside0 (kq ≤ k) ∧ Drawn0 w w')
  case atStart => exact ⟨(0), (by first | rfl | (simp; done) | (simp [*]; done)), H', ⟨Nat.le_refl _⟩, by repeat (first | exact Drawn0.refl _ | apply Drawn0.step)⟩
  case round =>
    clear H'
    try clear p2
    obtain ⟨x8_1, rfl, HA, HK1, ⟨m1, rfl⟩⟩ := hrel
    cases gk with
    | zero => exact absurd HA.out (by simp [slices_Index_int_int.l0])
    | succ k1 =>
      have H := HA.out
      clear HA
      simp only [slices_Index_int_int.l0] at H
      by_cases c3 : x8_1 < (l0.length : Int)
      · rw [if_pos c3] at H
        have c3b0 : decide (x8_1 < (l0.length : Int)) = true := decide_eq_true c3
        clear c3
        by_cases c4 : 0 ≤ x8_1
        · rw [if_pos c4] at H
          have c4b0 : decide (0 ≤ x8_1) = true := decide_eq_true c4
          clear c4
          by_cases c5 : x8_1 < (l0.length : Int)
          · rw [if_pos c5] at H
            have c5b0 : decide (x8_1 < (l0.length : Int)) = true := decide_eq_true c5
            clear c5
            by_cases c6 : a1 = (rd l0 x8_1)
            · rw [if_pos c6] at H
              have c6b0 : (a1 == (rd l0 x8_1)) = true := beq_iff_eq.mpr c6
              have c6b1 : (a1 != (rd l0 x8_1)) = false := bne_eq_false_iff_eq.mpr c6
              clear c6
              obtain rfl := Option.some.inj H
              have p169 : 0 ≤ (x8_1 : Int) := of_decide_eq_true (by first | (with_reducible assumption) | assumption)
              have q169 : x8_1 < (l0.length : Int) := of_decide_eq_true (by first | (with_reducible assumption) | assumption)
              obtain ⟨ad169, e169, hx169_0⟩ := Kd.at_int HR0.out x8_1 p169 q169
              cases e169
              replace p169 := eq_true p169
              replace q169 := eq_true q169
              go_wp2
              go_ret
              exact ⟨by first | rfl | (simp; done) | (simp [*]; done), by repeat (first | exact Drawn0.refl _ | apply Drawn0.step)⟩
            · rw [if_neg c6] at H
              have c6b0 : (a1 == (rd l0 x8_1)) = false := beq_eq_false_iff_ne.mpr c6
              have c6b1 : (a1 != (rd l0 x8_1)) = true := bne_iff_ne.mpr c6
              have H' := Aside0.mk H
              clear H
              have p169 : 0 ≤ (x8_1 : Int) := of_decide_eq_true (by first | (with_reducible assumption) | assumption)
              have q169 : x8_1 < (l0.length : Int) := of_decide_eq_true (by first | (with_reducible assumption) | assumption)
              obtain ⟨ad169, e169, hx169_0⟩ := Kd.at_int HR0.out x8_1 p169 q169
              cases e169
              replace p169 := eq_true p169
              replace q169 := eq_true q169
              go_wp2
              go_roundg k1
              case measure => have := HK1.out; omega
              case rel => exact ⟨(wrap64 (x8_1 + 1)), (by first | rfl | (simp; done) | (simp [*]; done)), H', ⟨by have := HK1.out; omega⟩, by repeat (first | exact Drawn0.refl _ | apply Drawn0.step)⟩
          · rw [if_neg c5] at H
            exact absurd H (by simp)
        · rw [if_neg c4] at H
          exact absurd H (by simp)
      · rw [if_neg c3] at H
        have c3b0 : decide (x8_1 < (l0.length : Int)) = false := decide_eq_false c3
        clear c3
        obtain rfl := Option.some.inj H
        go_wp2
        go_ret
        exact ⟨by first | rfl | (simp; done) | (simp [*]; done), by repeat (first | exact Drawn0.refl _ | apply Drawn0.step)⟩

/-! ### slices_Contains_int_int: function 68 -/
def slices_Contains_int_int.f (k : Nat) (l0 : List Int) (a1 : Int) : Option (Bool) := (slices_Index_int_int.f k l0 a1).bind fun t170 => (some (decide (t170 ≥ 0)))
theorem slices_Contains_int_int.mono : ∀ a0 a1 k, LeO (slices_Contains_int_int.f k a0 a1) (slices_Contains_int_int.f (k + 1) a0 a1) := by
  intro a0 a1 k
  unfold slices_Contains_int_int.f
  repeat' first
      | (with_reducible exact slices_Index_int_int.mono _ _ _)
      | (with_reducible exact LeO.refl _)
      | (with_reducible exact LeO.none _)
      | (with_reducible refine LeO.ite ?_ ?_)
      | (with_reducible refine LeO.bind ?_ (fun _ => ?_))
      | exact slices_Index_int_int.mono _ _ _
      | exact LeO.none _
      | refine LeO.ite ?_ ?_
      | refine LeO.bind ?_ (fun _ => ?_)
set_option maxHeartbeats 8000000 in
set_option maxRecDepth 100000 in
theorem slices_Contains_int_int.calls (k : Nat) (A0 : Option Addr) (c0 : Nat) (l0 : List Int) (a1 : Int) (r : Bool) (w : World) (hr0 : Kd.C (Kd.int .i64) w A0 l0.length l0) (hc0 : l0.length ≤ c0) (h : slices_Contains_int_int.f k l0 a1 = some r) :
    Calls Try.prog 68 #[.slice A0 l0.length c0, .int .i64 a1] w fun e w' => e = .returned (.bool r) ∧ Drawn0 w w' := by
  have HR0 := Aside0.mk hr0
  have HC0 := Aside0.mk hc0
  clear hr0 hc0
  have H : ((slices_Index_int_int.f k l0 a1).bind fun t170 => (some (decide (t170 ≥ 0)))) = some r := h
  clear h
  replace H := Option.bind_eq_some_iff.mp H
  obtain ⟨t170, A30, H⟩ := H
  replace H : (some (decide (t170 ≥ 0))) = some r := H
  have A3 := Aside0.mk A30
  clear A30
  obtain rfl := Option.some.inj H
  go_enter Try.func68, Try.ntmps68
  go_wp2_with (first | ((with_reducible refine gate_callee (f := 78) rfl ?_); refine goesL_ (some 7) rfl rfl Try.func78 (by kernel_rfl) rfl #[.slice A0 l0.length c0, .int .i64 a1] rfl (by (try simp only [List.map_toArray, List.map_cons, List.map_nil]); first | done | rfl | (simp only [List.length_drop, List.length_take]; rfl)) ?_; (with_reducible refine (slices_Index_int_int.calls k _ _ l0 a1 t170 _ ?side1 ?side2 A3.out).mono ?_); (case side1 => repeat (first | exact HR0.out | (with_reducible refine Kd.C_alloc ?_ _) | (with_reducible refine Kd.C_drewN ?_ _) | (with_reducible refine Kd.C_drew ?_))); (case side2 => exact HC0.out); rintro e w' ⟨rfl, ⟨nd, rfl⟩⟩; refine ⟨_, rfl, ?_⟩))
  go_ret
  exact ⟨by first | rfl | (simp; done) | (simp [*]; done), by repeat (first | exact Drawn0.refl _ | apply Drawn0.step)⟩

/-! ### impl_ordersOf: function 40 -/
def impl_ordersOf.f (k : Nat) (n : Int) : Option (List (List Int)) := if 0 ≤ n then (if n ≤ 8 then (if 100 ≤ k then some (Sep.pm n.toNat n.toNat []) else none) else none) else none
theorem impl_ordersOf.mono : ∀ a0 k, LeO (impl_ordersOf.f k a0) (impl_ordersOf.f (k + 1) a0) := fun a0 k => by
  intro r h
  unfold impl_ordersOf.f at h ⊢
  split at h
  · split at h
    · split at h
      · rename_i h1 h2 h3
        rw [if_pos h1, if_pos h2, if_pos (by omega)]
        exact h
      · cases h
    · cases h
  · cases h
def impl_ordersOf.items (gn go gx : Nat) (vl vo : Value) (list : List Int) (out : List (List Int)) (n : Nat) (F : List Sep.Item) : List Sep.Item :=
  Sep.Item.row (Kd.int .i64) 3 vl list :: Sep.Item.box go 22 #[vo] :: Sep.Item.rows (Kd.slice 3 (Kd.int .i64)) 24 vo out :: Sep.Item.box gn 3 #[.int .i64 (n : Int)] :: Sep.Item.box gx 61 #[.func (.func 67) #[] #[.pointer (some ⟨gn, 0, none⟩), .pointer (some ⟨go, 0, none⟩), .pointer (some ⟨gx, 0, none⟩)]] :: F
theorem impl_ordersOf.idx (l : List Int) (v : Int) (hl : l.length ≤ 1000) : ∀ (r p : List Int) (i : Int) (k : Nat), i = p.length → l = p ++ r → r.length < k → ∃ s, slices_Index_int_int.l0 k l v (l.length : Int) i = some s ∧ decide (s ≥ 0) = decide (v ∈ r) := by
  intro r
  induction r with
  | nil =>
    intro p i k hi he hk
    obtain ⟨k, rfl⟩ : ∃ m, k = m + 1 := ⟨k - 1, by simp at hk; omega⟩
    refine ⟨-1, ?_, by simp⟩
    rw [slices_Index_int_int.l0, if_neg (by rw [he, hi]; simp)]
  | cons x r ih =>
    intro p i k hi he hk
    obtain ⟨k, rfl⟩ : ∃ m, k = m + 1 := ⟨k - 1, by simp at hk; omega⟩
    have hlen : l.length = p.length + r.length + 1 := by rw [he]; simp; omega
    have hx : rd l i = x := by rw [he, hi]; simp [rd, List.getD_eq_getElem?_getD]
    rw [slices_Index_int_int.l0, if_pos (by omega), if_pos (by omega), if_pos (by omega), hx]
    by_cases h : v = x
    · exact ⟨i, by rw [if_pos h], by rw [decide_eq_true (show i ≥ 0 by omega), h]; simp⟩
    · obtain ⟨s, h1, h2⟩ := ih (p ++ [x]) (i + 1) k (by rw [hi]; simp) (by rw [he]; simp) (by simp at hk; omega)
      refine ⟨s, ?_, ?_⟩
      · rw [if_neg h, show wrap64 (i + 1) = i + 1 by unfold wrap64; omega]
        exact h1
      · rw [h2]
        simp [h]
theorem impl_ordersOf.has (l : List Int) (v : Int) (k : Nat) (hk : l.length < k ∧ l.length ≤ 1000) : slices_Contains_int_int.f k l v = some (decide (v ∈ l)) := by
  obtain ⟨s, h1, h2⟩ := impl_ordersOf.idx l v hk.2 l [] 0 k rfl rfl hk.1
  unfold slices_Contains_int_int.f slices_Index_int_int.f
  rw [h1]
  simp only [Option.bind_some]
  rw [h2]
open Go.Proofs.Yteefbjkhheghkaa.Sep in
set_option maxHeartbeats 8000000 in
set_option maxRecDepth 100000 in
theorem impl_ordersOf.ext (n : Nat) (hn : n ≤ 8) (w0 : World) (gn go gx : Nat) : ∀ (d : Nat) (list : List Int) (out : List (List Int)) (w : World) (vl vo : Value) (F : List Sep.Item) (_h : Own w0 w (impl_ordersOf.items gn go gx vl vo list out n F))
    (_hl : list.length + d = n) (_ho : out.length + 8 ^ d ≤ 1000000000),
    Calls Try.prog 67 #[vl, .pointer (some ⟨gn, 0, none⟩), .pointer (some ⟨go, 0, none⟩), .pointer (some ⟨gx, 0, none⟩)] w fun e w' => e = .returned (.tuple #[]) ∧ ∃ vo', Own w0 w' (impl_ordersOf.items gn go gx vl vo' list (out ++ pm n d list) n F) := by
  intro d
  induction d with
  | zero =>
    intro list out w vl vo F h hl ho
    obtain ⟨Al, cl, rfl⟩ := h.row_slice 0 rfl
    obtain ⟨Ao, co, rfl⟩ := h.rows_slice 2 rfl
    have HO := Aside0.mk h
    have HL := Aside0.mk hl
    have HU := Aside0.mk ho
    clear h ho
    have c0b : ((list.length : Int) == (n : Int)) = true := beq_iff_eq.mpr (by have := HL.out; omega)
    go_enter Try.func67, Try.ntmps67
    have z_1 : w.cell? ⟨gn, 0, none⟩ = some (.int .i64 ((n : Int))) := (HO.out.cell 3 rfl 0 rfl)
    go_wp2
    have HD_1_1 := Aside0.mk (HO.out.drew)
    refine start_ (n := 7) (S := fun w' => w'.cell? ⟨go, 0, none⟩ = some (.slice Ao out.length co)) (ds := [6]) #[false, false, false, false, false, false, false] (by kernel_rfl) rfl rfl ((HD_1_1.out.cell 1 rfl 0 rfl)) (fun hHeld => ?_)
    generalize w.drew = wd_1_2 at HD_1_1 hHeld ⊢
    refine pure_ (i := 2) (N := some 12) (v := ?_) (a' := ?_) #[false, false, true, false, false, false, false] rfl rfl (by kernel_rfl) (fun _ _ _ h => h) (Or.inl ⟨by rfl, ?_⟩) ?_ ?_
    rotate_left
    · intro w'
      go_simp
      with_reducible rfl
    rotate_left
    · simp only [Act.put, List.setIfInBounds_toArray, List.set_cons_zero, List.set_cons_succ, i64_w, i32_w]
      rfl
    refine take_ (i := 0) (N := some 10) (v := ?_) (a' := ?_) #[true, false, true, false, false, false, false] rfl rfl (by kernel_rfl) (fun _ _ _ h => h) (Or.inl ⟨by rfl, ?_⟩) hHeld ?_ ?_
    rotate_left
    · intro w' s0
      go_simp
      with_reducible rfl
    rotate_left
    · simp only [Act.put, List.setIfInBounds_toArray, List.set_cons_zero, List.set_cons_succ, i64_w, i32_w]
      rfl
    refine one_ (i := 1) (N := some 11) #[true, true, true, false, false, false, false] rfl rfl (by kernel_rfl) (by decide) (fun K hK => ?_)
    refine Sep.own_lit0_step (Kd.int .i64) HD_1_1.out 3 (by rfl) (N := 11) rfl (by first | (go_simp; done) | (go_simp; rfl)) ?_
    intro x_11 w_1 ho _
    have HO_1 := Aside0.mk ho
    clear ho
    refine hK.out _ _ ((HO_1.out.cell 2 rfl 0 rfl)) (fun hHeld => ?_)
    clear hK K
    refine norm_ (a' := ?_) ?_ ?_
    rotate_left
    · show Act.put _ (some 11) _ = _
      simp only [Act.put, List.setIfInBounds_toArray, List.set_cons_zero, List.set_cons_succ, i64_w, i32_w]
      rfl
    refine one_ (i := 3) (N := some 13) #[true, true, true, true, false, false, false] rfl rfl (by kernel_rfl) (by decide) (fun K hK => ?_)
    refine Sep.own_append_all_step (Value.int .i64) (0 : Int) HO_1.out 0 _ ([]) 3 rfl (by rfl) (.tmp 11) (.tmp 12) 24 (.int .i64 0) 8 rfl Try.underlying24 info3 rfl (by omega) (list) Al list.length cl rfl rfl (HO_1.out.row_reads 1 rfl).2.2 (by have := HL.out; simp; omega) ?_
    intro x_13 w_2 ho
    obtain ⟨A_13, n_13, c_13, hn_, rfl⟩ := ho.row_seal 0 rfl
    have HN_13 := Aside0.mk hn_
    clear hn_
    have HO_2 := Aside0.mk ho
    clear ho
    refine hK.out _ _ ((HO_2.out.cell 2 rfl 0 rfl)) (fun hHeld => ?_)
    clear hK K
    refine norm_ (a' := ?_) ?_ ?_
    rotate_left
    · show Act.put _ (some 13) _ = _
      simp only [Act.put, List.setIfInBounds_toArray, List.set_cons_zero, List.set_cons_succ, i64_w, i32_w]
      rfl
    refine one_ (i := 4) (N := some 14) #[true, true, true, true, true, false, false] rfl rfl (by kernel_rfl) (by decide) (fun K hK => ?_)
    refine value_ (w1 := ?_) (v := ?_) (by rfl) rfl ?_ ?_
    rotate_left 2
    · go_simp
      constructor
      · rfl
      · rfl
    have HOb14 := Aside0.mk (HO_2.out.below (below_alloc (Below.refl _ _) (.cells #[.slice A_13 n_13 c_13] 24)))
    refine hK.out _ _ ((HOb14.out.cell 2 rfl 0 rfl)) (fun hHeld => ?_)
    clear hK K
    refine norm_ (a' := ?_) ?_ ?_
    rotate_left
    · show Act.put _ (some 14) _ = _
      simp only [Act.put, List.setIfInBounds_toArray, List.set_cons_zero, List.set_cons_succ, i64_w, i32_w]
      rfl
    refine one_ (i := 5) (N := some 15) #[true, true, true, true, true, true, false] rfl rfl (by kernel_rfl) (by decide) (fun K hK => ?_)
    refine Sep.own_append_row_step (Kd.int .i64) 3 HO_2.out 3 0 (by decide) _ (out) 24 rfl _ (([]) ++ (list)) rfl (by rfl) (.tmp 10) (.tmp 14) 22 (.slice none 0 0) 24 rfl Try.underlying22 info24 rfl (by omega) rfl rfl (by have := HU.out; simp only [Nat.pow_zero] at this; omega) ?_
    intro x_15 w_4 ho
    obtain ⟨A_15, n_15, c_15, hn_, rfl⟩ := ho.rows_seal 3 rfl
    have HN_15 := Aside0.mk hn_
    clear hn_
    have HO_4 := Aside0.mk ho
    clear ho
    refine hK.out _ _ ((HO_4.out.cell 2 rfl 0 rfl)) (fun hHeld => ?_)
    clear hK K
    refine norm_ (a' := ?_) ?_ ?_
    rotate_left
    · show Act.put _ (some 15) _ = _
      simp only [Act.put, List.setIfInBounds_toArray, List.set_cons_zero, List.set_cons_succ, i64_w, i32_w]
      rfl
    refine last_ (i := 6) (N := none) #[true, true, true, true, true, true, true] rfl rfl (by kernel_rfl) (by decide) (fun K hK => ?_)
    have hbs := HO_4.out.cell 2 rfl 0 rfl
    have hbf := HO_4.out.free 2 rfl 0
    refine skip_ (w1 := ?_) (by rfl) rfl ?_ ?_
    rotate_left
    · go_simp
      rfl
    have HO_5 := Aside0.mk (HO_4.out.put1 2 rfl 0 (.slice A_15 n_15 c_15))
    clear hbs hbf
    refine hK.out _ _ ?_
    clear hK K
    refine done_ (by kernel_rfl) ?_
    go_wp2
    (try simp only [Exit.inBlock, Exit.then])
    refine bodyPost_ret (results_none rfl _ _ _) rfl ?_
    exact ⟨rfl, _, HO_5.out.tail⟩
  | succ d ih =>
    intro list out w vl vo F h hl ho
    obtain ⟨Al, cl, rfl⟩ := h.row_slice 0 rfl
    obtain ⟨Ao, co, rfl⟩ := h.rows_slice 2 rfl
    have HO := Aside0.mk h
    have HL := Aside0.mk hl
    have HU := Aside0.mk ho
    clear h ho
    have c0b : ((list.length : Int) == (n : Int)) = false := beq_eq_false_iff_ne.mpr (by have := HL.out; omega)
    have IH := Aside0.mk ih
    clear ih
    go_enter Try.func67, Try.ntmps67
    have z_1 : w.cell? ⟨gn, 0, none⟩ = some (.int .i64 ((n : Int))) := (HO.out.cell 3 rfl 0 rfl)
    go_wp2
    go_loopw [5] (fun v5 w' => ∃ (i : Int) (vo1 : Value), 0 ≤ i ∧ i ≤ (n : Int) ∧ v5 = .int .i64 i ∧ Aside0 (Own w0 w' (impl_ordersOf.items gn go gx (.slice Al list.length cl) vo1 list (out ++ pmTo n d list i.toNat) n F))) (fun v5 _ => n - (intOf v5).toNat)
    case atStart => exact ⟨0, _, Int.le_refl _, by omega, rfl, ⟨by rw [show (0 : Int).toNat = 0 from rfl, pmTo_zero, List.append_nil]; exact HO.out⟩⟩
    case round =>
      obtain ⟨i, vo1, hi0, hi1, rfl, HO1⟩ := hrel
      clear HO
      have HO := HO1
      clear HO1
      obtain ⟨Ao1, co1, rfl⟩ := HO.out.rows_slice 2 rfl
      by_cases c1 : i < (n : Int)
      · have c1b := decide_eq_true c1
        have hwi : wrap64 (i + 1) = i + 1 := by have := hn; unfold wrap64; omega
        have HS := Aside0.mk (show Sep.pmTo n d list i.toNat ++ (if i ∈ list then [] else Sep.pm n d (list ++ [i])) = Sep.pmTo n d list (i + 1).toNat from by rw [show (i + 1).toNat = i.toNat + 1 by omega, pmTo_succ, Int.toNat_of_nonneg hi0])
        by_cases c2 : i ∈ list
        · have c2b := decide_eq_true c2
          have HS2 := HS.out
          rw [if_pos c2, List.append_nil] at HS2
          have HS3 := Aside0.mk HS2
          clear HS2 HS
          have z_2 : wr.cell? ⟨gn, 0, none⟩ = some (.int .i64 ((n : Int))) := (HO.out.cell 3 rfl 0 rfl)
          go_wp2_with (first | ((with_reducible refine gate_callee (f := 68) rfl ?_); refine goesL_ (some 23) rfl rfl Try.func68 (by kernel_rfl) rfl #[.slice Al list.length cl, .int .i64 i] rfl (by (try simp only [List.map_toArray, List.map_cons, List.map_nil]); first | done | rfl) ?_; (with_reducible refine (slices_Contains_int_int.calls 100 Al cl (list) i _ wr (by exact (HO.out.row_reads 0 rfl).2.2) (by exact (HO.out.row_reads 0 rfl).2.1) (impl_ordersOf.has (list) i 100 (by have := HL.out; omega))).mono ?_); rintro e w_1 ⟨rfl, hd⟩; refine ⟨_, rfl, ?_⟩; have HO_1 := Aside0.mk (HO.out.below hd.below); clear hd))
          go_roundw
          case measure => simp only [intOf, hwi]; omega
          case rel => exact ⟨i + 1, _, by omega, by omega, by first | rfl | rw [hwi], ⟨by have ho := HO_1.out; rw [HS3.out] at ho; exact ho⟩⟩
        · have c2b := decide_eq_false c2
          have HS2 := HS.out
          rw [if_neg c2] at HS2
          have HS3 := Aside0.mk HS2
          clear HS2 HS
          have HS := HS3
          clear HS3
          have HU2 := Aside0.mk (show (out ++ Sep.pmTo n d list i.toNat).length + 8 ^ d ≤ 1000000000 from by have h1 := Sep.pmTo_length hn d list i.toNat; have h2 := HU.out; rw [Nat.pow_succ] at h2; have h3 : (i.toNat + 1) * 8 ^ d ≤ 8 * 8 ^ d := Nat.mul_le_mul_right _ (by omega); rw [Nat.add_mul, Nat.one_mul] at h3; rw [List.length_append]; omega)
          have z_2 : wr.cell? ⟨gn, 0, none⟩ = some (.int .i64 ((n : Int))) := (HO.out.cell 3 rfl 0 rfl)
          go_wp2_with (first | ((with_reducible refine gate_callee (f := 68) rfl ?_); refine goesL_ (some 23) rfl rfl Try.func68 (by kernel_rfl) rfl #[.slice Al list.length cl, .int .i64 i] rfl (by (try simp only [List.map_toArray, List.map_cons, List.map_nil]); first | done | rfl) ?_; (with_reducible refine (slices_Contains_int_int.calls 100 Al cl (list) i _ wr (by exact (HO.out.row_reads 0 rfl).2.2) (by exact (HO.out.row_reads 0 rfl).2.1) (impl_ordersOf.has (list) i 100 (by have := HL.out; omega))).mono ?_); rintro e w_1 ⟨rfl, hd⟩; refine ⟨_, rfl, ?_⟩; have HO_1 := Aside0.mk (HO.out.below hd.below); clear hd))
          have HD_6_2 := Aside0.mk (HO_1.out.drew)
          refine start_ (n := 8) (S := fun w' => w'.cell? ⟨gx, 0, none⟩ = some (.func (.func 67) #[] #[.pointer (some ⟨gn, 0, none⟩), .pointer (some ⟨go, 0, none⟩), .pointer (some ⟨gx, 0, none⟩)])) (ds := []) #[false, false, false, false, false, false, false, false] (by kernel_rfl) rfl rfl ((HD_6_2.out.cell 4 rfl 0 rfl)) (fun hHeld => ?_)
          generalize w_1.drew = wd_6_3 at HD_6_2 hHeld ⊢
          refine pure_ (i := 2) (N := some 27) (v := ?_) (a' := ?_) #[false, false, true, false, false, false, false, false] rfl rfl (by kernel_rfl) (fun _ _ _ h => h) (Or.inl ⟨by rfl, ?_⟩) ?_ ?_
          rotate_left
          · intro w'
            go_simp
            with_reducible rfl
          rotate_left
          · simp only [Act.put, List.setIfInBounds_toArray, List.set_cons_zero, List.set_cons_succ, i64_w, i32_w]
            rfl
          refine pure_ (i := 4) (N := some 29) (v := ?_) (a' := ?_) #[false, false, true, false, true, false, false, false] rfl rfl (by kernel_rfl) (fun _ _ _ h => h) (Or.inl ⟨by rfl, ?_⟩) ?_ ?_
          rotate_left
          · intro w'
            go_simp
            with_reducible rfl
          rotate_left
          · simp only [Act.put, List.setIfInBounds_toArray, List.set_cons_zero, List.set_cons_succ, i64_w, i32_w]
            rfl
          refine take_ (i := 0) (N := some 25) (v := ?_) (a' := ?_) #[true, false, true, false, true, false, false, false] rfl rfl (by kernel_rfl) (fun _ _ _ h => h) (Or.inl ⟨by rfl, ?_⟩) hHeld ?_ ?_
          rotate_left
          · intro w' s0
            go_simp
            with_reducible rfl
          rotate_left
          · simp only [Act.put, List.setIfInBounds_toArray, List.set_cons_zero, List.set_cons_succ, i64_w, i32_w]
            rfl
          refine join_ (σ := Value × Value × Value) 2 #[true, true, true, true, true, true, false, false] (fun s => [(26, s.1), (28, s.2.1), (30, s.2.2)]) (fun s w' => (w'.cell? ⟨gx, 0, none⟩ = some (.func (.func 67) #[] #[.pointer (some ⟨gn, 0, none⟩), .pointer (some ⟨go, 0, none⟩), .pointer (some ⟨gx, 0, none⟩)])) ∧ Own w0 w' (Item.row (Kd.int .i64) 3 (s.2.2) ([i]) :: Item.row (Kd.int .i64) 3 (s.2.1) (([]) ++ (list)) :: Item.row (Kd.int .i64) 3 (.slice Al list.length cl) (list) :: Item.box go 22 #[.slice Ao1 ((out ++ Sep.pmTo n d list i.toNat).length) co1] :: Item.rows (Kd.slice 3 (Kd.int .i64)) 24 (.slice Ao1 ((out ++ Sep.pmTo n d list i.toNat).length) co1) (out ++ Sep.pmTo n d list i.toNat) :: Item.box gn 3 #[.int .i64 ((n : Int))] :: Item.box gx 61 #[.func (.func 67) #[] #[.pointer (some ⟨gn, 0, none⟩), .pointer (some ⟨go, 0, none⟩), .pointer (some ⟨gx, 0, none⟩)]] :: F)) ?_ ?_
          rotate_left
          · intro hCont
            refine two_ (i := 1) (j := 5) (Ni := some 26) (Nj := some 30) #[true, true, true, false, true, false, false, false] #[true, false, true, false, true, true, false, false] rfl rfl rfl rfl (by kernel_rfl) (by decide) (by decide) (fun K hK => ?_) (fun K hK => ?_)
            · skip
              refine Sep.own_lit0_step (Kd.int .i64) HD_6_2.out 3 (by rfl) (N := 26) rfl (by first | (go_simp; done) | (go_simp; rfl)) ?_
              intro x_26 w_2 ho _
              have HO_2 := Aside0.mk ho
              clear ho
              refine hK.out _ _ ((HO_2.out.cell 5 rfl 0 rfl)) (fun hHeld => ?_)
              clear hK K
              refine norm_ (a' := ?_) ?_ ?_
              rotate_left
              · show Act.put _ (some 26) _ = _
                simp only [Act.put, List.setIfInBounds_toArray, List.set_cons_zero, List.set_cons_succ, i64_w, i32_w]
                rfl
              refine two_ (i := 3) (j := 5) (Ni := some 28) (Nj := some 30) #[true, true, true, true, true, false, false, false] #[true, true, true, false, true, true, false, false] rfl rfl rfl rfl (by kernel_rfl) (by decide) (by decide) (fun K hK => ?_) (fun K hK => ?_)
              · skip
                refine Sep.own_append_all_step (Value.int .i64) (0 : Int) HO_2.out 0 _ ([]) 3 rfl (by rfl) (.tmp 26) (.tmp 27) 24 (.int .i64 0) 8 rfl Try.underlying24 info3 rfl (by omega) (list) Al list.length cl rfl rfl (HO_2.out.row_reads 1 rfl).2.2 (by have := HL.out; simp; omega) ?_
                intro x_28 w_3 ho
                have HO_3 := Aside0.mk ho
                clear ho
                refine hK.out _ _ ((HO_3.out.cell 5 rfl 0 rfl)) (fun hHeld => ?_)
                clear hK K
                refine norm_ (a' := ?_) ?_ ?_
                rotate_left
                · show Act.put _ (some 28) _ = _
                  simp only [Act.put, List.setIfInBounds_toArray, List.set_cons_zero, List.set_cons_succ, i64_w, i32_w]
                  rfl
                refine one_ (i := 5) (N := some 30) #[true, true, true, true, true, true, false, false] rfl rfl (by kernel_rfl) (by decide) (fun K hK => ?_)
                refine Sep.own_lit1_step (Value.int .i64) (h1 := fun _ => rfl) HO_3.out 3 i (by rfl) (N := 30) rfl (by first | (go_simp; done) | (go_simp; rfl)) ?_
                intro x_30 w_4 ho _
                have HO_4 := Aside0.mk ho
                clear ho
                refine hK.out _ _ ((HO_4.out.cell 6 rfl 0 rfl)) (fun hHeld => ?_)
                clear hK K
                refine norm_ (a' := ?_) ?_ ?_
                rotate_left
                · show Act.put _ (some 30) _ = _
                  simp only [Act.put, List.setIfInBounds_toArray, List.set_cons_zero, List.set_cons_succ, i64_w, i32_w]
                  rfl
                exact norm_ (by simp only [putAll, Act.put, List.setIfInBounds_toArray, List.set_cons_zero, List.set_cons_succ]) (hCont (x_26, x_28, x_30) _ ⟨(HO_4.out.cell 6 rfl 0 rfl), (((((((HO_4.out.front 6 rfl).front 6 rfl).front 6 rfl).front 6 rfl).front 6 rfl).front 6 rfl).front 6 rfl)⟩)
              · skip
                refine Sep.own_lit1_step (Value.int .i64) (h1 := fun _ => rfl) HO_2.out 3 i (by rfl) (N := 30) rfl (by first | (go_simp; done) | (go_simp; rfl)) ?_
                intro x_30 w_3 ho _
                have HO_3 := Aside0.mk ho
                clear ho
                refine hK.out _ _ ((HO_3.out.cell 6 rfl 0 rfl)) (fun hHeld => ?_)
                clear hK K
                refine norm_ (a' := ?_) ?_ ?_
                rotate_left
                · show Act.put _ (some 30) _ = _
                  simp only [Act.put, List.setIfInBounds_toArray, List.set_cons_zero, List.set_cons_succ, i64_w, i32_w]
                  rfl
                refine one_ (i := 3) (N := some 28) #[true, true, true, true, true, true, false, false] rfl rfl (by kernel_rfl) (by decide) (fun K hK => ?_)
                refine Sep.own_append_all_step (Value.int .i64) (0 : Int) HO_3.out 1 _ ([]) 3 rfl (by rfl) (.tmp 26) (.tmp 27) 24 (.int .i64 0) 8 rfl Try.underlying24 info3 rfl (by omega) (list) Al list.length cl rfl rfl (HO_3.out.row_reads 2 rfl).2.2 (by have := HL.out; simp; omega) ?_
                intro x_28 w_4 ho
                have HO_4 := Aside0.mk ho
                clear ho
                refine hK.out _ _ ((HO_4.out.cell 6 rfl 0 rfl)) (fun hHeld => ?_)
                clear hK K
                refine norm_ (a' := ?_) ?_ ?_
                rotate_left
                · show Act.put _ (some 28) _ = _
                  simp only [Act.put, List.setIfInBounds_toArray, List.set_cons_zero, List.set_cons_succ, i64_w, i32_w]
                  rfl
                exact norm_ (by simp only [putAll, Act.put, List.setIfInBounds_toArray, List.set_cons_zero, List.set_cons_succ]) (hCont (x_26, x_28, x_30) _ ⟨(HO_4.out.cell 6 rfl 0 rfl), (((((((HO_4.out.front 6 rfl).front 6 rfl).front 6 rfl).front 6 rfl).front 6 rfl).front 6 rfl).front 6 rfl)⟩)
            · skip
              refine Sep.own_lit1_step (Value.int .i64) (h1 := fun _ => rfl) HD_6_2.out 3 i (by rfl) (N := 30) rfl (by first | (go_simp; done) | (go_simp; rfl)) ?_
              intro x_30 w_2 ho _
              have HO_2 := Aside0.mk ho
              clear ho
              refine hK.out _ _ ((HO_2.out.cell 5 rfl 0 rfl)) (fun hHeld => ?_)
              clear hK K
              refine norm_ (a' := ?_) ?_ ?_
              rotate_left
              · show Act.put _ (some 30) _ = _
                simp only [Act.put, List.setIfInBounds_toArray, List.set_cons_zero, List.set_cons_succ, i64_w, i32_w]
                rfl
              refine one_ (i := 1) (N := some 26) #[true, true, true, false, true, true, false, false] rfl rfl (by kernel_rfl) (by decide) (fun K hK => ?_)
              refine Sep.own_lit0_step (Kd.int .i64) HO_2.out 3 (by rfl) (N := 26) rfl (by first | (go_simp; done) | (go_simp; rfl)) ?_
              intro x_26 w_3 ho _
              have HO_3 := Aside0.mk ho
              clear ho
              refine hK.out _ _ ((HO_3.out.cell 6 rfl 0 rfl)) (fun hHeld => ?_)
              clear hK K
              refine norm_ (a' := ?_) ?_ ?_
              rotate_left
              · show Act.put _ (some 26) _ = _
                simp only [Act.put, List.setIfInBounds_toArray, List.set_cons_zero, List.set_cons_succ, i64_w, i32_w]
                rfl
              refine one_ (i := 3) (N := some 28) #[true, true, true, true, true, true, false, false] rfl rfl (by kernel_rfl) (by decide) (fun K hK => ?_)
              refine Sep.own_append_all_step (Value.int .i64) (0 : Int) HO_3.out 0 _ ([]) 3 rfl (by rfl) (.tmp 26) (.tmp 27) 24 (.int .i64 0) 8 rfl Try.underlying24 info3 rfl (by omega) (list) Al list.length cl rfl rfl (HO_3.out.row_reads 2 rfl).2.2 (by have := HL.out; simp; omega) ?_
              intro x_28 w_4 ho
              have HO_4 := Aside0.mk ho
              clear ho
              refine hK.out _ _ ((HO_4.out.cell 6 rfl 0 rfl)) (fun hHeld => ?_)
              clear hK K
              refine norm_ (a' := ?_) ?_ ?_
              rotate_left
              · show Act.put _ (some 28) _ = _
                simp only [Act.put, List.setIfInBounds_toArray, List.set_cons_zero, List.set_cons_succ, i64_w, i32_w]
                rfl
              exact norm_ (by simp only [putAll, Act.put, List.setIfInBounds_toArray, List.set_cons_zero, List.set_cons_succ]) (hCont (x_26, x_28, x_30) _ ⟨(HO_4.out.cell 6 rfl 0 rfl), (((((((HO_4.out.front 6 rfl).front 6 rfl).front 6 rfl).front 6 rfl).front 6 rfl).front 5 rfl).front 6 rfl)⟩)
          rintro ⟨x_26, x_28, x_30⟩ wj_4 ⟨hHeld, ho⟩
          obtain ⟨A_30, c_30, rfl⟩ := ho.row_slice 0 rfl
          have HOJ_4 := Aside0.mk ho
          clear ho
          refine norm_ (a' := ?_) ?_ ?_
          rotate_left
          · simp only [putAll, Act.put, List.setIfInBounds_toArray, List.set_cons_zero, List.set_cons_succ]
            rfl
          refine one_ (i := 6) (N := some 31) #[true, true, true, true, true, true, true, false] rfl rfl (by kernel_rfl) (by decide) (fun K hK => ?_)
          refine Sep.own_append_all_step (Value.int .i64) (0 : Int) HOJ_4.out 1 _ (([]) ++ (list)) 3 rfl (by rfl) (.tmp 28) (.tmp 30) 24 (.int .i64 0) 8 rfl Try.underlying24 info3 rfl (by omega) ([i]) A_30 1 c_30 rfl rfl (HOJ_4.out.row_reads 0 rfl).2.2 (by have := HL.out; simp; omega) ?_
          intro x_31 w_55 ho
          obtain ⟨A_31, n_31, c_31, hn_, rfl⟩ := ho.row_seal 1 rfl
          have HN_31 := Aside0.mk hn_
          clear hn_
          have HO_55 := Aside0.mk ho
          clear ho
          refine hK.out _ _ ((HO_55.out.cell 6 rfl 0 rfl)) (fun hHeld => ?_)
          clear hK K
          refine norm_ (a' := ?_) ?_ ?_
          rotate_left
          · show Act.put _ (some 31) _ = _
            simp only [Act.put, List.setIfInBounds_toArray, List.set_cons_zero, List.set_cons_succ, i64_w, i32_w]
            rfl
          refine one_ (i := 7) (N := some 32) #[true, true, true, true, true, true, true, true] rfl rfl (by kernel_rfl) (by decide) (fun K hK => ?_)
          refine Sep.goesC_ (f := 67) Try.func67 (by kernel_rfl) rfl #[.slice A_31 n_31 c_31, .pointer (some ⟨gn, 0, none⟩), .pointer (some ⟨go, 0, none⟩), .pointer (some ⟨gx, 0, none⟩)] (by rfl) rfl rfl rfl (by (try simp only [List.map_toArray, List.map_cons, List.map_nil]); first | done | rfl) ?_
          refine (IH.out (list ++ [i]) (out ++ Sep.pmTo n d list i.toNat) _ _ _ (Item.row (Kd.int .i64) 3 (.slice A_30 1 c_30) ([i]) :: Item.row (Kd.int .i64) 3 (.slice Al list.length cl) (list) :: F) (((((HO_55.out.front 6 rfl).front 6 rfl).front 6 rfl).front 6 rfl).front 5 rfl) (by have := HL.out; simp; omega) HU2.out).mono ?_
          rintro e w_56 ⟨rfl, vo2, ho⟩
          refine ⟨_, rfl, ?_⟩
          rw [show out ++ Sep.pmTo n d list i.toNat ++ Sep.pm n d (list ++ [i]) = out ++ Sep.pmTo n d list (i + 1).toNat by rw [List.append_assoc, HS.out]] at ho
          have HO_56 := Aside0.mk ho
          clear ho
          refine hK.out _ _ ((HO_56.out.cell 4 rfl 0 rfl)) (fun hHeld => ?_)
          clear hK K
          refine norm_ (a' := ?_) ?_ ?_
          rotate_left
          · show Act.put _ (some 32) _ = _
            simp only [Act.put, List.setIfInBounds_toArray, List.set_cons_zero, List.set_cons_succ, i64_w, i32_w]
            rfl
          refine done_ (by kernel_rfl) ?_
          go_wp2
          go_roundw
          case measure => simp only [intOf, hwi]; omega
          case rel => exact ⟨i + 1, _, by omega, by omega, by first | rfl | rw [hwi], ⟨(((((((HO_56.out.front 4 rfl).front 4 rfl).front 4 rfl).front 4 rfl).front 6 rfl).front 6 rfl).front 6 rfl).tail.tail⟩⟩
      · have c1b := decide_eq_false c1
        obtain rfl : i = (n : Int) := by omega
        have ho := HO.out
        rw [Int.toNat_natCast] at ho
        have HO1 := Aside0.mk ho
        clear ho
        have z_2 : wr.cell? ⟨gn, 0, none⟩ = some (.int .i64 ((n : Int))) := (HO.out.cell 3 rfl 0 rfl)
        go_wp2
        go_end0
        exact ⟨rfl, _, HO1.out⟩
open Go.Proofs.Yteefbjkhheghkaa.Sep in
set_option maxHeartbeats 8000000 in
set_option maxRecDepth 100000 in
theorem impl_ordersOf.calls (k : Nat) (a0 : Int) (r : List (List Int)) (w : World) (h : impl_ordersOf.f k a0 = some r) :
    Calls Try.prog 40 #[.int .i64 a0] w fun e w' => ∃ v0_ : Value, e = .returned (v0_) ∧ Kd.S (Kd.slice 3 (Kd.int .i64)) 24 w' w.heap.size (fun _ => True) v0_ r ∧ Below w.heap.size w w' := by
  unfold impl_ordersOf.f at h
  split at h
  · split at h
    · split at h
      · rename_i h0 h1 h2
        obtain ⟨n, rfl⟩ := Int.eq_ofNat_of_zero_le h0
        obtain rfl := Option.some.inj h
        have hn : n ≤ 8 := by omega
        rw [Int.toNat_natCast]
        clear h h0 h1 h2
        go_enter Try.func40, Try.ntmps40
        go_wp2_with (first | ((with_reducible refine gate_dst (N := 1) rfl ?_); refine box_event ?hg (N := 1) ?hd (cs := #[.int .i64 ((n : Int))]) (t := 3) ?hr ?_; (case hd => rfl); (case hg => rfl); (case hr => first | (go_simp; done) | (go_simp; rfl)); intro gn hg w_1 hbox hb; have HO_1 := Aside0.mk ((Sep.Own.nil w).add_box (T := 3) (cs := #[.int .i64 ((n : Int))]) hg hbox hb); clear hg hbox hb) | ((with_reducible refine gate_dst (N := 5) rfl ?_); refine Sep.own_lits0 (Kd.slice 3 (Kd.int .i64)) HO_1.out 24 ?hg (N := 5) ?hd ?hr ?_; (case hd => rfl); (case hg => rfl); (case hr => first | (go_simp; done) | (go_simp; rfl)); intro x_5 w_2 ho _; obtain ⟨A_5, n_5, c_5, hn_, rfl⟩ := ho.rows_seal 0 rfl; have HN_5 := Aside0.mk hn_; clear hn_; have HO_2 := Aside0.mk ho; clear ho) | ((with_reducible refine gate_dst (N := 3) rfl ?_); refine box_event ?hg (N := 3) ?hd (cs := #[.slice none 0 0]) (t := 22) ?hr ?_; (case hd => rfl); (case hg => rfl); (case hr => first | (go_simp; done) | (go_simp; rfl)); intro go hg w_3 hbox hb; have HO_3 := Aside0.mk (HO_2.out.add_box (T := 22) (cs := #[.slice none 0 0]) hg hbox hb); clear hg hbox hb) | ((with_reducible refine gate_store (t := 22) (p := 3) (v := .tmp 5) rfl ?_); refine Sep.own_store HO_3.out 0 go 22 _ #[.slice A_5 n_5 c_5] rfl rfl rfl 22 (.tmp 3) (.tmp 5) rfl rfl (.slice A_5 n_5 c_5) rfl rfl rfl (by kernel_rfl) (by simp [Value.oneCell']) ?_; intro w_4 ho; have HO_4 := Aside0.mk ho; clear ho) | ((with_reducible refine gate_dst (N := 4) rfl ?_); refine box_event ?hg (N := 4) ?hd (cs := #[.nilFunc]) (t := 61) ?hr ?_; (case hd => rfl); (case hg => rfl); (case hr => first | (go_simp; done) | (go_simp; rfl)); intro gx hg w_5 hbox hb; have HO_5 := Aside0.mk (HO_4.out.add_box (T := 61) (cs := #[.nilFunc]) hg hbox hb); clear hg hbox hb) | ((with_reducible refine gate_store (t := 61) (p := 4) (v := .tmp 6) rfl ?_); refine Sep.own_store HO_5.out 0 gx 61 _ #[.func (.func 67) #[] #[.pointer (some ⟨gn, 0, none⟩), .pointer (some ⟨go, 0, none⟩), .pointer (some ⟨gx, 0, none⟩)]] rfl rfl rfl 61 (.tmp 4) (.tmp 6) rfl rfl (.func (.func 67) #[] #[.pointer (some ⟨gn, 0, none⟩), .pointer (some ⟨go, 0, none⟩), .pointer (some ⟨gx, 0, none⟩)]) rfl rfl rfl (by kernel_rfl) (by simp [Value.oneCell']) ?_; intro w_6 ho; have HO_6 := Aside0.mk ho; clear ho; have z_1 : w_6.cell? ⟨gx, 0, none⟩ = some (.func (.func 67) #[] #[.pointer (some ⟨gn, 0, none⟩), .pointer (some ⟨go, 0, none⟩), .pointer (some ⟨gx, 0, none⟩)]) := (HO_6.out.cell 0 rfl 0 rfl)) | ((with_reducible refine gate_dst (N := 8) rfl ?_); refine Sep.goesCL_ (some 8) rfl rfl (f := 67) (fn := Try.f67) Try.func67 (by kernel_rfl) rfl #[.slice none 0 0, .pointer (some ⟨gn, 0, none⟩), .pointer (some ⟨go, 0, none⟩), .pointer (some ⟨gx, 0, none⟩)] rfl rfl (by (try simp only [List.map_toArray, List.map_cons, List.map_nil]); first | done | rfl) ?_; refine (impl_ordersOf.ext n hn w gn go gx n [] [] _ _ _ [] ((((((HO_6.out.nilrow (Kd.int .i64) 3).front 1 rfl).front 4 rfl).front 4 rfl).front 4 rfl).front 4 rfl) (by simp) (by have := Nat.pow_le_pow_right (show 0 < 8 by decide) hn; simp at this ⊢; omega)).mono ?_; rintro e w_7 ⟨rfl, vo2, ho⟩; refine ⟨_, rfl, ?_⟩; have HO_7 := Aside0.mk ho; clear ho; have z_2 : w_7.cell? ⟨go, 0, none⟩ = some (vo2) := (HO_7.out.cell 1 rfl 0 rfl)))
        go_ret
        obtain ⟨P_, hP⟩ := HO_7.out.get 2 rfl
        exact ⟨_, rfl, Kd.S_mono hP (fun _ _ => trivial), HO_7.out.base⟩
      · cases h
    · cases h
  · cases h

end Go.Proofs.Yteefbjkhheghkaa.QFnExactFewestCrossings
