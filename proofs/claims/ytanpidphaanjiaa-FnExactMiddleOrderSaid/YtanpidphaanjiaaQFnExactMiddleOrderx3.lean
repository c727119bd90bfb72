/- The functions that the law FnExactMiddleOrder uses: each Go function as a Lean function, and the proof that the Go code comes to its answers (part 3). Written by wip/gen/own.py out of what print.sh printed for this seat, changed by that program where the printed text fell in Lean. Conditions: those of each theorem. -/
import Derived.Test.YtanpidphaanjiaaQFnExactMiddleOrderx0
import Derived.Test.YtanpidphaanjiaaQFnExactMiddleOrderx1
import Derived.Test.YtanpidphaanjiaaQFnExactMiddleOrderx2
namespace Go.Proofs.Ytanpidphaanjiaa.QFnExactMiddleOrder
open Go.RowKit Go.Proofs.YtanpidphaanjiaaW.PrintWords Go.Proofs.YtanpidphaanjiaaW.PrintLast Go.Proofs.YtanpidphaanjiaaW.PrintMore
attribute [local go_sem] max2_int min2_int max_two min_two max_three min_three max_four min_four   -- for this text's walks alone
set_option linter.unusedVariables false
set_option linter.unusedSimpArgs false

/-! ### spec_plOrder: function 17 -/
def spec_plOrder.l0 : Nat → List Int → List Int → Int → Int → Option (List Int)
  | 0, _, _, _, _ => none
  | k + 1, x3, x9, x10, x11 => if x11 < x10 then (if 0 ≤ x11 then (if x11 < (x9.length : Int) then (if 0 ≤ (rd x9 x11) then (if (rd x9 x11) < (x3.length : Int) then (spec_plOrder.l0 k (x3.set ((rd x9 x11) : Int).toNat x11) x9 x10 (wrap64 (x11 + 1))) else (none)) else (none)) else (none)) else (none)) else (some x3)
def spec_plOrder.f (k : Nat) (l0 : List Int) : Option (List Int) := if 0 ≤ (l0.length : Int) then (if ((l0.length : Int) : Int).toNat ≤ 35184372088832 then (spec_plOrder.l0 k (List.replicate ((l0.length : Int) : Int).toNat 0) l0 (l0.length : Int) 0) else (none)) else (none)
theorem spec_plOrder.mono_l : ∀ k, (∀ y0 y1 y2 y3, LeO (spec_plOrder.l0 k y0 y1 y2 y3) (spec_plOrder.l0 (k + 1) y0 y1 y2 y3))
  | 0 => fun _ _ _ _ r h => by simp [spec_plOrder.l0] at h
  | k + 1 => by
    have ih0 := spec_plOrder.mono_l k
    · intro y0 y1 y2 y3
      unfold spec_plOrder.l0
      repeat' first
      | (with_reducible exact ih0 _ _ _ _)
      | (with_reducible exact LeO.refl _)
      | (with_reducible exact LeO.none _)
      | (with_reducible refine LeO.ite ?_ ?_)
      | (with_reducible refine LeO.bind ?_ (fun _ => ?_))
      | exact ih0 _ _ _ _
      | exact LeO.none _
      | refine LeO.ite ?_ ?_
      | refine LeO.bind ?_ (fun _ => ?_)
theorem spec_plOrder.mono : ∀ a0 k, LeO (spec_plOrder.f k a0) (spec_plOrder.f (k + 1) a0) := by
  intro a0 k
  have ih0 := spec_plOrder.mono_l k
  unfold spec_plOrder.f
  repeat' first
      | (with_reducible exact ih0 _ _ _ _)
      | (with_reducible exact LeO.refl _)
      | (with_reducible exact LeO.none _)
      | (with_reducible refine LeO.ite ?_ ?_)
      | (with_reducible refine LeO.bind ?_ (fun _ => ?_))
      | exact ih0 _ _ _ _
      | exact LeO.none _
      | refine LeO.ite ?_ ?_
      | refine LeO.bind ?_ (fun _ => ?_)
set_option maxHeartbeats 8000000 in
set_option maxRecDepth 100000 in
theorem spec_plOrder.calls (k : Nat) (A0 : Option Addr) (c0 : Nat) (l0 : List Int) (r : List Int) (w : World) (hr0 : Kd.C (Kd.int .i64) w A0 l0.length l0) (hc0 : l0.length ≤ c0) (h : spec_plOrder.f k l0 = some r) :
    Calls Try.prog 17 #[.slice A0 l0.length c0] w fun e w' => ∃ v0_ : Value, e = .returned (v0_) ∧ Kd.R (Kd.int .i64) 3 w' w.heap.size (fun _ => True) v0_ r ∧ Below w.heap.size w w' := by
  have HR0 := Aside0.mk hr0
  have HC0 := Aside0.mk hc0
  clear hr0 hc0
  have HB := Aside0.mk (Below.refl w.heap.size w)
  have H : (if 0 ≤ (l0.length : Int) then (if ((l0.length : Int) : Int).toNat ≤ 35184372088832 then (spec_plOrder.l0 k (List.replicate ((l0.length : Int) : Int).toNat 0) l0 (l0.length : Int) 0) else (none)) else (none)) = some r := h
  clear h
  by_cases c2 : 0 ≤ (l0.length : Int)
  · rw [if_pos c2] at H
    have c2b0 := eq_true c2
    have c2b1 : decide (0 ≤ (l0.length : Int)) = true := decide_eq_true c2
    clear c2
    by_cases c3 : ((l0.length : Int) : Int).toNat ≤ 35184372088832
    · rw [if_pos c3] at H
      have c3b0 := eq_true c3
      have c3b1 : decide (((l0.length : Int) : Int).toNat ≤ 35184372088832) = true := decide_eq_true c3
      clear c3
      obtain ⟨y115, hy115⟩ : ∃ y_ : List Int, y_ = (List.replicate ((l0.length : Int) : Int).toNat 0) := ⟨_, rfl⟩
      replace H : (spec_plOrder.l0 k y115 l0 (l0.length : Int) 0) = some r := by first | (rw [hy115]; with_reducible exact H) | (have H2_ := (Option.bind_some _ _).symm.trans H; rw [hy115]; with_reducible exact H2_) | (have H2_ := (Option.bind_some _ _).symm.trans H; with_reducible exact H2_) | with_reducible exact H | (rw [hy115]; exact H) | exact H
      have Ny115 := Aside0.mk hy115
      clear hy115
      have H' := Aside0.mk H
      clear H
      go_enter Try.func17, Try.ntmps17
      go_wp2_with (first | ((with_reducible refine gate_dst (N := 8) rfl ?_); refine Kd.R_make (Kd.int .i64) _ 3 rfl (N := 8) rfl 24 _ _ rfl (l0.length : Int) rfl rfl Try.underlying24 (.int .i64 0) 8 info3 rfl (by decide) (by omega) 0 (ok := fun _ => True) (okp := fun _ => True) rfl (fun _ hk => hk) trivial (of_decide_eq_true (by first | (with_reducible assumption) | assumption)) (Nat.le_trans (Nat.mul_le_mul_right _ (of_decide_eq_true (by first | (with_reducible assumption) | assumption) : (l0.length : Int).toNat ≤ 35184372088832)) (by omega)) (Below.refl _ _) (Nat.le_refl _) ?_; intro v116 w4 ho5 hb hg_ hnew_; clear hg_ hnew_; (first | rw [← Ny115.out] at ho5 | (simp only [Int.reduceToNat] at ho5; rw [← Ny115.out] at ho5)); have n0_ := Aside0.mk (Kd.R_lower ho5 (below_size (by repeat (first | (with_reducible first | exact HB.out | apply below_alloc | apply pw_below_drewN | apply below_drew1) | exact HB.out)))); have n1_ := Aside0.mk (below_step (by repeat (first | (with_reducible first | exact HB.out | apply below_alloc | apply pw_below_drewN | apply below_drew1) | exact HB.out)) hb); clear HB; have HO117 := n0_; have HB := n1_; clear n0_ n1_; clear hb ho5))
      go_loopg [11] k (fun kq v11 w' => ∃ (x3_1 : List Int) (x11_1 : Int), v11 = .int .i64 x11_1 ∧ Aside0 (spec_plOrder.l0 kq x3_1 l0 (l0.length : Int) x11_1 = some r) ∧ Aside0 (kq ≤ k) ∧ Aside0 (Kd.R (Kd.int .i64) 3 w' w.heap.size (fun _ => True) v116 x3_1) ∧ Aside0 (Below w.heap.size w w'))
      case atStart => exact ⟨(y115), (0), (by first | rfl | (simp; done) | (simp [*]; done)), H', ⟨Nat.le_refl _⟩, ⟨by (with_reducible repeat (first | apply Kd.R_alloc | apply Kd.R_drewN | apply Kd.R_drew)); exact HO117.out⟩, ⟨by repeat (first | (with_reducible first | exact HB.out | apply below_alloc | apply pw_below_drewN | apply below_drew1) | exact HB.out)⟩⟩
      case round =>
        clear H'
        try clear c1
        try clear c2
        try clear c2b0
        try clear c2b1
        try clear p2
        try clear c3
        try clear c3b0
        try clear c3b1
        obtain ⟨x3_1, x11_1, rfl, HA, HK1, HO_3, HB⟩ := hrel
        cases gk with
        | zero => exact absurd HA.out (by simp [spec_plOrder.l0])
        | succ k1 =>
          have H := HA.out
          clear HA
          simp only [spec_plOrder.l0] at H
          by_cases c6 : x11_1 < (l0.length : Int)
          · rw [if_pos c6] at H
            have c6b0 : decide (x11_1 < (l0.length : Int)) = true := decide_eq_true c6
            clear c6
            by_cases c7 : 0 ≤ x11_1
            · rw [if_pos c7] at H
              have c7b0 : decide (0 ≤ x11_1) = true := decide_eq_true c7
              clear c7
              by_cases c8 : x11_1 < (l0.length : Int)
              · rw [if_pos c8] at H
                have c8b0 : decide (x11_1 < (l0.length : Int)) = true := decide_eq_true c8
                clear c8
                by_cases c9 : 0 ≤ (rd l0 x11_1)
                · rw [if_pos c9] at H
                  have c9b0 : decide (0 ≤ (rd l0 x11_1)) = true := decide_eq_true c9
                  clear c9
                  by_cases c10 : (rd l0 x11_1) < (x3_1.length : Int)
                  · rw [if_pos c10] at H
                    have c10b0 : decide ((rd l0 x11_1) < (x3_1.length : Int)) = true := decide_eq_true c10
                    clear c10
                    obtain ⟨y119, hy119⟩ : ∃ y_ : List Int, y_ = (x3_1.set ((rd l0 x11_1) : Int).toNat x11_1) := ⟨_, rfl⟩
                    replace H : (spec_plOrder.l0 k1 y119 l0 (l0.length : Int) (wrap64 (x11_1 + 1))) = some r := by first | (rw [hy119]; with_reducible exact H) | (have H2_ := (Option.bind_some _ _).symm.trans H; rw [hy119]; with_reducible exact H2_) | (have H2_ := (Option.bind_some _ _).symm.trans H; with_reducible exact H2_) | with_reducible exact H | (rw [hy119]; exact H) | exact H
                    have Ny119 := Aside0.mk hy119
                    clear hy119
                    have H' := Aside0.mk H
                    clear H
                    have p118 : 0 ≤ (x11_1 : Int) := of_decide_eq_true (by first | (with_reducible assumption) | assumption)
                    have q118 : x11_1 < (l0.length : Int) := of_decide_eq_true (by first | (with_reducible assumption) | assumption)
                    obtain ⟨ad118, e118, hx118_0⟩ := Kd.at_int HR0.out x11_1 p118 q118
                    cases e118
                    (try (replace hx118_0 := (HB.out.cell (World.block_lt_of_cell? w _ hx118_0)).trans hx118_0))
                    replace p118 := eq_true p118
                    replace q118 := eq_true q118
                    have p11 : 0 ≤ ((rd l0 x11_1) : Int) := of_decide_eq_true (by first | (with_reducible assumption) | assumption)
                    have q11 : ((rd l0 x11_1) : Int) < ((x3_1.length : Int) : Int) := of_decide_eq_true (by first | (with_reducible assumption) | assumption)
                    obtain ⟨go11, co11, eo11, gb11, gl11, cl11, HG11⟩ := Kd.R_form HO_3.out (by omega)
                    (first | cases eo11 | (injection eo11 with ea_ en_ ec_; (first | subst ea_ | (injection ea_ with ea_; subst ea_)); subst ec_; clear en_))
                    have GB11 := Aside0.mk gb11
                    have GG11 := Aside0.mk HG11
                    clear gb11 gl11 HG11
                    obtain ⟨hx11_0, hf11_0⟩ := Kd.R_celln 0 HO_3.out ((rd l0 x11_1) : Int) p11 q11
                    replace p11 := eq_true p11
                    replace q11 := eq_true q11
                    have HP12 := Kd.R_putg HO_3.out ((rd l0 x11_1) : Int) x11_1
                    go_wp2_with (first | ((with_reducible refine gate_store (t := 3) (p := 19) rfl ?_); refine store_event (t := 3) (p := 19) (v := ?vo_w13) (w1 := (wr.setCell ⟨go11, ((rd l0 x11_1) : Int).toNat, none⟩ (.int .i64 x11_1))) ?hg ?ho ?hn ?hr ?_; (case ho => rfl); (case hg => rfl); (case hn => rfl); (case hr => first | (go_simp; done) | (go_simp; rfl)); intro w13 hw; have hg : wr.grownBy w13 (some go11) := (by rw [hw]; exact HP12.2); have hp_ : Kd.R (Kd.int .i64) 3 w13 w.heap.size (fun _ => True) (.slice (some ⟨go11, 0, none⟩) x3_1.length co11) y119 := (by rw [hw, Ny119.out]; exact HP12.1); clear HP12; have n0_ := Aside0.mk (hp_); have n1_ := Aside0.mk ((by rw [hw]; exact below_set (HB.out) GB11.out : Below w.heap.size w w13)); clear HO_3; clear HB; have HO_3 := n0_; have HB := n1_; clear n0_ n1_; clear hg hw hp_))
                    go_roundg k1
                    case measure => have := HK1.out; omega
                    case rel => exact ⟨(y119), (wrap64 (x11_1 + 1)), (by first | rfl | (simp; done) | (simp [*]; done)), H', ⟨by have := HK1.out; omega⟩, ⟨by (with_reducible repeat (first | apply Kd.R_alloc | apply Kd.R_drewN | apply Kd.R_drew)); exact HO_3.out⟩, ⟨by repeat (first | (with_reducible first | exact HB.out | apply below_alloc | apply pw_below_drewN | apply below_drew1) | exact HB.out)⟩⟩
                  · rw [if_neg c10] at H
                    exact absurd H (by simp)
                · rw [if_neg c9] at H
                  exact absurd H (by simp)
              · rw [if_neg c8] at H
                exact absurd H (by simp)
            · rw [if_neg c7] at H
              exact absurd H (by simp)
          · rw [if_neg c6] at H
            have c6b0 : decide (x11_1 < (l0.length : Int)) = false := decide_eq_false c6
            clear c6
            obtain rfl := Option.some.inj H
            go_wp2
            go_ret
            exact ⟨_, by first | rfl | (simp [errW_none, errW_some] <;> rfl) | (simp [*, errW_none, errW_some] <;> rfl), by (with_reducible repeat (first | apply Kd.R_alloc | apply Kd.R_drewN | apply Kd.R_drew)); exact HO_3.out, by repeat (first | (with_reducible first | exact HB.out | apply below_alloc | apply pw_below_drewN | apply below_drew1) | exact HB.out)⟩
    · rw [if_neg c3] at H
      exact absurd H (by simp)
  · rw [if_neg c2] at H
    exact absurd H (by simp)

/-! ### spec_MiddleOrder: function 5 -/
def spec_MiddleOrder.f (k : Nat) (l0 : List (List Int)) (a1 : Int) : Option (List Int × Bool) := (spec_plWires.f k l0 a1).bind fun t => if t = true then (if l0.length ≤ 30 ∧ 1 ≤ a1 ∧ a1 ≤ 7 ∧ (∀ x ∈ l0, x.length = 2) then ((spec_plOrder.f k (mdSort (mdMidS l0) (Sep.iota a1.toNat) [])).bind fun r => some (r, true)) else none) else some ([], false)
theorem spec_MiddleOrder.mono : ∀ a0 a1 k, LeO (spec_MiddleOrder.f k a0 a1) (spec_MiddleOrder.f (k + 1) a0 a1) := fun a0 a1 k => LeO.bind (spec_plWires.mono a0 a1 k) (fun _ => LeO.ite (LeO.ite (LeO.bind (spec_plOrder.mono _ k) (fun _ => LeO.refl _)) (LeO.refl _)) (LeO.refl _))
open Go.Proofs.Ytanpidphaanjiaa.Sep in
set_option maxHeartbeats 16000000 in
set_option maxRecDepth 100000 in
theorem spec_MiddleOrder.calls (k : Nat) (A0 : Option Addr) (c0 : Nat) (l0 : List (List Int)) (a1 : Int) (r1 : List Int) (r2 : Bool) (w : World) (hr0 : Kd.C (Kd.slice 3 (Kd.int .i64)) w A0 l0.length l0) (hc0 : l0.length ≤ c0) (h : spec_MiddleOrder.f k l0 a1 = some (r1, r2)) :
    Calls Try.prog 5 #[.slice A0 l0.length c0, .int .i64 a1] w fun e w' => ∃ v0_ : Value, e = .returned (.tuple #[v0_, .bool r2]) ∧ Kd.R (Kd.int .i64) 3 w' w.heap.size (fun _ => True) v0_ r1 ∧ Below w.heap.size w w' := by
  have HR := Aside0.mk hr0
  have HC0 := Aside0.mk hc0
  clear hr0 hc0
  unfold spec_MiddleOrder.f at h
  obtain ⟨t, hA, h1⟩ := Option.bind_eq_some_iff.mp h
  clear h
  have HA := Aside0.mk hA
  clear hA
  cases t with
  | false =>
    rw [if_neg (by decide)] at h1
    have h2 : (([] : List Int), false) = (r1, r2) := Option.some.inj h1
    clear h1
    injection h2 with e1 e2
    subst e1
    subst e2
    go_enter Try.func5, Try.ntmps5
    go_wp2_with (first | ((with_reducible refine gate_callee (f := 14) rfl ?_); refine goesL_ (some 11) rfl rfl Try.func14 (by kernel_rfl) rfl #[.slice A0 l0.length c0, .int .i64 a1] rfl (by (try simp only [List.map_toArray, List.map_cons, List.map_nil]); first | done | rfl) ?_; (with_reducible refine (spec_plWires.calls k _ _ l0 a1 false _ HR.out HC0.out HA.out).mono ?_); rintro e w_1 ⟨rfl, hd⟩; refine ⟨_, rfl, ?_⟩; have HO_1 := Aside0.mk ((Sep.Own.nil w).below hd.below); clear hd))
    go_ret2
    exact ⟨_, rfl, Kd.R_nil _ _ _ _ _, HO_1.out.base⟩
  | true =>
    rw [if_pos rfl] at h1
    split at h1
    · rename_i hcc
      obtain ⟨hl, hm1, hm7, hg⟩ := hcc
      obtain ⟨n, rfl⟩ := Int.eq_ofNat_of_zero_le (show 0 ≤ a1 by omega)
      rw [Int.toNat_natCast] at h1
      obtain ⟨ro, hP, h2⟩ := Option.bind_eq_some_iff.mp h1
      clear h1
      have h3 := Option.some.inj h2
      clear h2
      injection h3 with e1 e2
      subst e1
      subst e2
      have HPO := Aside0.mk hP
      have HL := Aside0.mk hl
      have HN := Aside0.mk (show 1 ≤ n ∧ n ≤ 7 by omega)
      have HG := Aside0.mk hg
      clear hP hl hm1 hm7 hg
      obtain ⟨i0, hi0, _, hsz, _⟩ := info_parts info3
      have HIN := Aside0.mk hi0
      have HSZ := Aside0.mk hsz
      clear hi0 hsz
      have HMD := Aside0.mk (show ∀ p : Int, spec_plMiddle.f k l0 p = some (mdMidS l0 p) from fun p => by unfold spec_plMiddle.f; rw [if_pos ⟨by have := HL.out; omega, HG.out⟩])
      go_enter Try.func5, Try.ntmps5
      go_wp2_with (first | ((with_reducible refine gate_callee (f := 14) rfl ?_); refine goesL_ (some 11) rfl rfl Try.func14 (by kernel_rfl) rfl #[.slice A0 l0.length c0, .int .i64 ((n : Int))] rfl (by (try simp only [List.map_toArray, List.map_cons, List.map_nil]); first | done | rfl) ?_; (with_reducible refine (spec_plWires.calls k _ _ l0 (n : Int) true _ HR.out HC0.out HA.out).mono ?_); rintro e w_1 ⟨rfl, hd⟩; refine ⟨_, rfl, ?_⟩; have HO_1 := Aside0.mk ((Sep.Own.nil w).below hd.below); clear hd))
      (try simp only [Act.put, List.setIfInBounds_toArray, List.set_cons_zero, List.set_cons_succ])
      go_loopw [6, 7] (fun v6 v7 wr => ∃ (i : Int) (o : List Int), 0 ≤ i ∧ i ≤ (n : Int) ∧ v7 = .int .i64 i ∧ Aside0 (mdSort (mdMidS l0) ((Sep.iota n).drop i.toNat) o = mdSort (mdMidS l0) (Sep.iota n) []) ∧ Aside0 ((o.length : Int) = i) ∧ Aside0 (Own w wr [Item.row (Kd.int .i64) 3 (v6) (o)])) (fun _ v7 _ => n - (intOf v7).toNat)
      case atStart => exact ⟨0, [], Int.le_refl _, by omega, rfl, ⟨rfl⟩, ⟨rfl⟩, ⟨HO_1.out.nilrow (Kd.int .i64) 3⟩⟩
      case round =>
        clear HO_1
        obtain ⟨i, o, hi0, hi2, rfl, HJ, HOL, HO⟩ := hrel
        obtain ⟨Ao, co, rfl⟩ := HO.out.row_slice 0 rfl
        by_cases hi1 : i < (n : Int)
        · have c1b := decide_eq_true hi1
          have hwi : wrap64 (i + 1) = i + 1 := by have := HN.out; unfold wrap64; omega
          have hjd := HJ.out
          rw [md_iota n i hi0 hi1, mdSort] at hjd
          have HJ2 := Aside0.mk hjd
          clear hjd
          go_wp2
          go_loopw [8] (fun v8 wr => ∃ (q : Int), 0 ≤ q ∧ q ≤ (o.length : Int) ∧ v8 = .int .i64 q ∧ Aside0 (mdK (mdMidS l0) o (mdMidS l0 i) q.toNat = mdK (mdMidS l0) o (mdMidS l0 i) o.length) ∧ Aside0 (Own w wr [Item.row (Kd.int .i64) 3 (.slice Ao o.length co) (o)])) (fun v8 _ => (intOf v8).toNat)
          case atStart => exact ⟨(o.length : Int), by omega, Int.le_refl _, rfl, ⟨rfl⟩, HO⟩
          case round =>
            clear HO
            obtain ⟨q, hq0, hq1, rfl, HQ, HO⟩ := hrel
            have hol := HOL.out
            have hnn := HN.out
            by_cases c3 : q > 0
            · have c3b := decide_eq_true c3
              obtain ⟨qp, hqp⟩ : ∃ qp : Int, qp = q - 1 := ⟨_, rfl⟩
              have hwq : wrap64 (q - 1) = qp := by unfold wrap64; omega
              have hst := mdK_step (mdMidS l0) o (mdMidS l0 i) q (by omega)
              rw [← hqp] at hst
              have hqp0 : 0 ≤ qp ∧ qp < (o.length : Int) := by omega
              have HQP := Aside0.mk hqp0
              have HQ1 := Aside0.mk (show qp.toNat < q.toNat by omega)
              have HQ2 := Aside0.mk (show qp ≤ (o.length : Int) by omega)
              have p2 : (0 ≤ qp) = True := eq_true hqp0.1
              have q2 : (qp < (o.length : Int)) = True := eq_true hqp0.2
              obtain ⟨gq, cq, hsv⟩ := Sep.own_row_form HO.out 0 rfl (by omega)
              injection hsv with ha hb hc
              subst ha
              subst hc
              obtain ⟨z, hz⟩ : ∃ z, rd o qp = z := ⟨_, rfl⟩
              rw [hz] at hst
              have HZ := Aside0.mk hz
              obtain ⟨mz, hmz⟩ : ∃ m, mdMidS l0 z = m := ⟨_, rfl⟩
              obtain ⟨mi, hmi⟩ : ∃ m, mdMidS l0 i = m := ⟨_, rfl⟩
              rw [hmz, hmi] at hst
              have HMZ := Aside0.mk (show spec_plMiddle.f k l0 z = some mz by rw [HMD.out, hmz])
              have HMI := Aside0.mk (show spec_plMiddle.f k l0 i = some mi by rw [HMD.out, hmi])
              have HMI2 := Aside0.mk hmi
              clear hb hz hqp hqp0 hol hnn hmz hmi
              by_cases c4 : mz > mi
              · have c4b := decide_eq_true c4
                rw [if_pos c4] at hst
                have HQ3 := Aside0.mk (show mdK (mdMidS l0) o (mdMidS l0 i) qp.toNat = mdK (mdMidS l0) o (mdMidS l0 i) o.length from by rw [HMI2.out, ← hst, ← HMI2.out]; exact HQ.out)
                clear hst
                have z_1 : wr.cell? ⟨gq, qp.toNat, none⟩ = some (.int .i64 z) := (by have e := (Sep.own_row_cell (0 : Int) HO.out 0 rfl qp HQP.out.1 HQP.out.2).1; rw [show rdOf 0 o qp = z from HZ.out] at e; exact e)
                go_wp2_with (first | (go_at_call 15; (with_reducible refine (spec_plMiddle.calls k A0 c0 l0 z mz _ (Kd.C_below HR.out HO.out.base) HC0.out HMZ.out).mono ?_); rintro e w_1 ⟨rfl, hb⟩; have HO_1 := Aside0.mk (HO.out.below hb); clear hb) | (go_at_call 15; (with_reducible refine (spec_plMiddle.calls k A0 c0 l0 i mi _ (Kd.C_below HR.out HO_1.out.base) HC0.out HMI.out).mono ?_); rintro e w_2 ⟨rfl, hb⟩; have HO_2 := Aside0.mk (HO_1.out.below hb); clear hb))
                go_roundw
                case measure => have := HQ1.out; simp only [intOf]; omega
                case rel => exact ⟨qp, HQP.out.1, HQ2.out, by first | rfl | rw [hwq], HQ3, HO_2⟩
              · have c4b := decide_eq_false c4
                rw [if_neg c4] at hst
                have HQ3 := Aside0.mk (show mdK (mdMidS l0) o (mdMidS l0 i) o.length = q.toNat from by rw [← HQ.out, HMI2.out]; exact hst)
                clear hst
                have HOC := Aside0.mk (HO.out.row_reads 0 rfl).2.1
                have HQB := Aside0.mk (show q.toNat ≤ o.length by omega)
                have HTL := Aside0.mk (show (o.take q.toNat).length = q.toNat by rw [List.length_take]; omega)
                obtain ⟨ht1, ht2, ht3⟩ := print_take_of (P := Try.prog) (Value.int .i64) (0 : Int) 24 3 .i64 Try.underlying24 HIN.out HSZ.out (some ⟨gq, 0, none⟩) co o q hq0 (by omega) HOC.out
                obtain ⟨Ad, hd1, hd2, hd3⟩ := print_drop_of (P := Try.prog) (Value.int .i64) (0 : Int) 24 3 .i64 Try.underlying24 HIN.out HSZ.out (some ⟨gq, 0, none⟩) co o q hq0 (by omega) HOC.out
                have HT1 := Aside0.mk (show ∀ w1 : World, Kd.C (Kd.int .i64) w1 (some ⟨gq, 0, none⟩) o.length o → Kd.C (Kd.int .i64) w1 (some ⟨gq, 0, none⟩) q.toNat (o.take q.toNat) from fun w1 h => by have e := Kd.C_of_reads (h1 := fun _ => rfl) (ht2 w1 (Kd.reads_of_C h)); rw [HTL.out] at e; exact e)
                have HT2 := Aside0.mk (show ∀ w1 : World, Kd.C (Kd.int .i64) w1 (some ⟨gq, 0, none⟩) o.length o → Kd.C (Kd.int .i64) w1 Ad (o.length - q.toNat) (o.drop q.toNat) from fun w1 h => by have e := Kd.C_of_reads (h1 := fun _ => rfl) (hd2 w1 (Kd.reads_of_C h)); rw [List.length_drop] at e; exact e)
                have HOWN := Aside0.mk (show spec_l1Own.f (o.take q.toNat) = some (o.take q.toNat) from by unfold spec_l1Own.f; simp only [Option.bind_some, List.length_nil, Nat.zero_add, List.nil_append]; rw [if_pos (by rw [List.length_take]; have := HOL.out; have := HN.out; omega)])
                have HINS := Aside0.mk (show mdIns (mdMidS l0) o i = o.take q.toNat ++ [i] ++ o.drop q.toNat from by unfold mdIns; rw [HQ3.out])
                have HLL := Aside0.mk (show o.length ≤ 1000 by have := HOL.out; have := HN.out; omega)
                clear ht2 ht3 hd2 hd3
                (try clear hol hnn)
                have z_1 : wr.cell? ⟨gq, qp.toNat, none⟩ = some (.int .i64 z) := (by have e := (Sep.own_row_cell (0 : Int) HO.out 0 rfl qp HQP.out.1 HQP.out.2).1; rw [show rdOf 0 o qp = z from HZ.out] at e; exact e)
                go_wp2_with (first | (go_at_call 15; (with_reducible refine (spec_plMiddle.calls k A0 c0 l0 z mz _ (Kd.C_below HR.out HO.out.base) HC0.out HMZ.out).mono ?_); rintro e w_1 ⟨rfl, hb⟩; have HO_1 := Aside0.mk (HO.out.below hb); clear hb) | (go_at_call 15; (with_reducible refine (spec_plMiddle.calls k A0 c0 l0 i mi _ (Kd.C_below HR.out HO_1.out.base) HC0.out HMI.out).mono ?_); rintro e w_2 ⟨rfl, hb⟩; have HO_2 := Aside0.mk (HO_1.out.below hb); clear hb))
                have HD_10_1 := Aside0.mk (HO_2.out.drew)
                refine start_ (n := 12) (S := fun w' => True) (ds := []) #[false, false, false, false, false, false, false, false, false, false, false, false] (by kernel_rfl) rfl rfl trivial (fun hHeld => ?_)
                generalize w_2.drew = wd_10_2 at HD_10_1 ⊢
                refine pure_ (i := 0) (N := some 37) (v := ?_) (a' := ?_) #[true, false, false, false, false, false, false, false, false, false, false, false] rfl rfl (by kernel_rfl) (fun _ _ _ h => h) (Or.inl ⟨by rfl, ?_⟩) ?_ ?_
                rotate_left
                · intro w'
                  go_simp
                  with_reducible rfl
                rotate_left
                · simp only [Act.put, List.setIfInBounds_toArray, List.set_cons_zero, List.set_cons_succ, i64_w, i32_w]
                  rfl
                refine pure_ (i := 1) (N := some 38) (v := ?_) (a' := ?_) #[true, true, false, false, false, false, false, false, false, false, false, false] rfl rfl (by kernel_rfl) (fun _ _ _ h => h) (Or.inl ⟨by rfl, ?_⟩) ?_ ?_
                rotate_left
                · intro w'
                  go_simp
                  with_reducible rfl
                rotate_left
                · simp only [Act.put, List.setIfInBounds_toArray, List.set_cons_zero, List.set_cons_succ, i64_w, i32_w]
                  rfl
                refine pure_ (i := 2) (N := some 39) (v := ?_) (a' := ?_) #[true, true, true, false, false, false, false, false, false, false, false, false] rfl rfl (by kernel_rfl) (fun _ _ _ h => h) (Or.inl ⟨by rfl, ?_⟩) ?_ ?_
                rotate_left
                · intro w'
                  go_simp
                  with_reducible rfl
                rotate_left
                · simp only [Act.put, List.setIfInBounds_toArray, List.set_cons_zero, List.set_cons_succ, i64_w, i32_w]
                  rfl
                refine pure_ (i := 4) (N := some 41) (v := ?_) (a' := ?_) #[true, true, true, false, true, false, false, false, false, false, false, false] rfl rfl (by kernel_rfl) (fun _ _ _ h => h) (Or.inl ⟨by rfl, ?_⟩) ?_ ?_
                rotate_left
                · intro w'
                  go_simp
                  with_reducible rfl
                rotate_left
                · simp only [Act.put, List.setIfInBounds_toArray, List.set_cons_zero, List.set_cons_succ, i64_w, i32_w]
                  rfl
                refine pure_ (i := 7) (N := some 44) (v := ?_) (a' := ?_) #[true, true, true, false, true, false, false, true, false, false, false, false] rfl rfl (by kernel_rfl) (fun _ _ _ h => h) (Or.inl ⟨by rfl, ?_⟩) ?_ ?_
                rotate_left
                · intro w'
                  go_simp
                  with_reducible rfl
                rotate_left
                · simp only [Act.put, List.setIfInBounds_toArray, List.set_cons_zero, List.set_cons_succ, i64_w, i32_w]
                  rfl
                refine pure_ (i := 8) (N := some 45) (v := ?_) (a' := ?_) #[true, true, true, false, true, false, false, true, true, false, false, false] rfl rfl (by kernel_rfl) (fun _ _ _ h => h) (Or.inl ⟨by rfl, ?_⟩) ?_ ?_
                rotate_left
                · intro w'
                  go_simp
                  with_reducible rfl
                rotate_left
                · simp only [Act.put, List.setIfInBounds_toArray, List.set_cons_zero, List.set_cons_succ, i64_w, i32_w]
                  rfl
                refine pure_ (i := 9) (N := some 46) (v := ?_) (a' := ?_) #[true, true, true, false, true, false, false, true, true, true, false, false] rfl rfl (by kernel_rfl) (fun _ _ _ h => h) (Or.inl ⟨by rfl, ?_⟩) ?_ ?_
                rotate_left
                · intro w'
                  go_simp
                  with_reducible rfl
                rotate_left
                · simp only [Act.put, List.setIfInBounds_toArray, List.set_cons_zero, List.set_cons_succ, i64_w, i32_w]
                  rfl
                refine join_ (σ := Value × Value) 3 #[true, true, true, true, true, true, false, true, true, true, false, false] (fun s => [(40, s.1), (42, s.2)]) (fun s w' => Own w w' [Item.row (Kd.int .i64) 3 (s.2) ([i]), Item.row (Kd.int .i64) 3 (s.1) ((o.take q.toNat)), Item.row (Kd.int .i64) 3 (.slice ((some ⟨gq, 0, none⟩)) o.length co) (o)]) ?_ ?_
                rotate_left
                · intro hCont
                  refine two_ (i := 3) (j := 5) (Ni := some 40) (Nj := some 42) #[true, true, true, true, true, false, false, true, true, true, false, false] #[true, true, true, false, true, true, false, true, true, true, false, false] rfl rfl rfl rfl (by kernel_rfl) (by decide) (by decide) (fun K hK => ?_) (fun K hK => ?_)
                  · skip
                    refine goes_ Try.func16 (by kernel_rfl) rfl #[.slice ((some ⟨gq, 0, none⟩)) q.toNat co] (by rfl) rfl rfl (by simp only [List.map_toArray, List.map_cons, List.map_nil]; rfl) ?_
                    have hc_ := spec_l1Own.calls ((some ⟨gq, 0, none⟩)) co (o.take q.toNat) (o.take q.toNat) _ (by rw [HTL.out]; exact HT1.out _ (HD_10_1.out.row_reads 0 rfl).2.2) (by rw [HTL.out]; have := HOC.out; have := HQB.out; omega) HOWN.out
                    rw [HTL.out] at hc_
                    refine hc_.mono ?_
                    rintro e w_3 ⟨x_40, rfl, hR, hb⟩
                    refine ⟨_, rfl, ?_⟩
                    have HO_3 := Aside0.mk (HD_10_1.out.add_row hR hb)
                    clear hR hb hc_
                    refine hK.out _ _ trivial (fun hHeld => ?_)
                    clear hK K
                    refine norm_ (a' := ?_) ?_ ?_
                    rotate_left
                    · show Act.put _ (some 40) _ = _
                      simp only [Act.put, List.setIfInBounds_toArray, List.set_cons_zero, List.set_cons_succ, i64_w, i32_w]
                      rfl
                    refine one_ (i := 5) (N := some 42) #[true, true, true, true, true, true, false, true, true, true, false, false] rfl rfl (by kernel_rfl) (by decide) (fun K hK => ?_)
                    refine Sep.own_lit1_step (Value.int .i64) (h1 := fun _ => rfl) HO_3.out 3 i (by rfl) (N := 42) rfl (by first | (go_simp; done) | (go_simp; rfl)) ?_
                    intro x_42 w_4 ho _
                    have HO_4 := Aside0.mk ho
                    clear ho
                    refine hK.out _ _ trivial (fun hHeld => ?_)
                    clear hK K
                    refine norm_ (a' := ?_) ?_ ?_
                    rotate_left
                    · show Act.put _ (some 42) _ = _
                      simp only [Act.put, List.setIfInBounds_toArray, List.set_cons_zero, List.set_cons_succ, i64_w, i32_w]
                      rfl
                    exact norm_ (by simp only [putAll, Act.put, List.setIfInBounds_toArray, List.set_cons_zero, List.set_cons_succ]) (hCont (x_40, x_42) _ (((HO_4.out.front 2 rfl).front 2 rfl).front 2 rfl))
                  · skip
                    refine Sep.own_lit1_step (Value.int .i64) (h1 := fun _ => rfl) HD_10_1.out 3 i (by rfl) (N := 42) rfl (by first | (go_simp; done) | (go_simp; rfl)) ?_
                    intro x_42 w_3 ho _
                    have HO_3 := Aside0.mk ho
                    clear ho
                    refine hK.out _ _ trivial (fun hHeld => ?_)
                    clear hK K
                    refine norm_ (a' := ?_) ?_ ?_
                    rotate_left
                    · show Act.put _ (some 42) _ = _
                      simp only [Act.put, List.setIfInBounds_toArray, List.set_cons_zero, List.set_cons_succ, i64_w, i32_w]
                      rfl
                    refine one_ (i := 3) (N := some 40) #[true, true, true, true, true, true, false, true, true, true, false, false] rfl rfl (by kernel_rfl) (by decide) (fun K hK => ?_)
                    refine goes_ Try.func16 (by kernel_rfl) rfl #[.slice ((some ⟨gq, 0, none⟩)) q.toNat co] (by rfl) rfl rfl (by simp only [List.map_toArray, List.map_cons, List.map_nil]; rfl) ?_
                    have hc_ := spec_l1Own.calls ((some ⟨gq, 0, none⟩)) co (o.take q.toNat) (o.take q.toNat) _ (by rw [HTL.out]; exact HT1.out _ (HO_3.out.row_reads 1 rfl).2.2) (by rw [HTL.out]; have := HOC.out; have := HQB.out; omega) HOWN.out
                    rw [HTL.out] at hc_
                    refine hc_.mono ?_
                    rintro e w_4 ⟨x_40, rfl, hR, hb⟩
                    refine ⟨_, rfl, ?_⟩
                    have HO_4 := Aside0.mk (HO_3.out.add_row hR hb)
                    clear hR hb hc_
                    refine hK.out _ _ trivial (fun hHeld => ?_)
                    clear hK K
                    refine norm_ (a' := ?_) ?_ ?_
                    rotate_left
                    · show Act.put _ (some 40) _ = _
                      simp only [Act.put, List.setIfInBounds_toArray, List.set_cons_zero, List.set_cons_succ, i64_w, i32_w]
                      rfl
                    exact norm_ (by simp only [putAll, Act.put, List.setIfInBounds_toArray, List.set_cons_zero, List.set_cons_succ]) (hCont (x_40, x_42) _ (((HO_4.out.front 2 rfl).front 1 rfl).front 2 rfl))
                rintro ⟨x_40, x_42⟩ wj_3 ho
                have hHeld := trivial
                obtain ⟨A_42, c_42, rfl⟩ := ho.row_slice 0 rfl
                have HOJ_3 := Aside0.mk ho
                clear ho
                refine norm_ (a' := ?_) ?_ ?_
                rotate_left
                · simp only [putAll, Act.put, List.setIfInBounds_toArray, List.set_cons_zero, List.set_cons_succ]
                  rfl
                refine one_ (i := 6) (N := some 43) #[true, true, true, true, true, true, true, true, true, true, false, false] rfl rfl (by kernel_rfl) (by decide) (fun K hK => ?_)
                refine Sep.own_append_all_step (Value.int .i64) (0 : Int) HOJ_3.out 1 _ ((o.take q.toNat)) 3 rfl (by rfl) (.tmp 40) (.tmp 42) 24 (.int .i64 0) 8 rfl Try.underlying24 info3 rfl (by omega) ([i]) A_42 1 c_42 rfl rfl (HOJ_3.out.row_reads 0 rfl).2.2 (by have := HTL.out; have := HQB.out; have := HLL.out; omega) ?_
                intro x_43 w_55 ho
                have HO_55 := Aside0.mk ho
                clear ho
                refine hK.out _ _ trivial (fun hHeld => ?_)
                clear hK K
                refine norm_ (a' := ?_) ?_ ?_
                rotate_left
                · show Act.put _ (some 43) _ = _
                  simp only [Act.put, List.setIfInBounds_toArray, List.set_cons_zero, List.set_cons_succ, i64_w, i32_w]
                  rfl
                refine one_ (i := 10) (N := some 47) #[true, true, true, true, true, true, true, true, true, true, true, false] rfl rfl (by kernel_rfl) (by decide) (fun K hK => ?_)
                refine Sep.own_append_all_step (Value.int .i64) (0 : Int) HO_55.out 1 _ (((o.take q.toNat)) ++ ([i])) 3 rfl (by rfl) (.tmp 43) (.tmp 46) 24 (.int .i64 0) 8 rfl Try.underlying24 info3 rfl (by omega) (o.drop q.toNat) Ad ((o.length - q.toNat)) ((co - q.toNat)) rfl rfl (HT2.out _ (HO_55.out.row_reads 2 rfl).2.2) (by have := HTL.out; have := HQB.out; have := HLL.out; simp only [List.length_append, List.length_singleton]; omega) ?_
                intro x_47 w_56 ho
                have HO_56 := Aside0.mk ho
                clear ho
                refine hK.out _ _ trivial (fun hHeld => ?_)
                clear hK K
                refine norm_ (a' := ?_) ?_ ?_
                rotate_left
                · show Act.put _ (some 47) _ = _
                  simp only [Act.put, List.setIfInBounds_toArray, List.set_cons_zero, List.set_cons_succ, i64_w, i32_w]
                  rfl
                refine pure_ (i := 11) (N := some 6) (v := ?_) (a' := ?_) #[true, true, true, true, true, true, true, true, true, true, true, true] rfl rfl (by kernel_rfl) (fun _ _ _ h => h) (Or.inl ⟨by rfl, ?_⟩) ?_ ?_
                rotate_left
                · intro w'
                  go_simp
                  with_reducible rfl
                rotate_left
                · simp only [Act.put, List.setIfInBounds_toArray, List.set_cons_zero, List.set_cons_succ, i64_w, i32_w]
                  rfl
                refine done_ (by kernel_rfl) ?_
                go_wp2
                go_roundw
                case measure => simp only [intOf, hwi]; omega
                case rel => exact ⟨i + 1, mdIns (mdMidS l0) o i, by omega, by omega, by first | rfl | rw [hwi], HJ2, ⟨by rw [mdIns_length]; have := HOL.out; omega⟩, ⟨by rw [HINS.out]; exact (((HO_56.out.front 1 rfl).front 2 rfl).front 2 rfl).tail.tail⟩⟩
            · have c3b := decide_eq_false c3
              have HQ3 := Aside0.mk (show mdK (mdMidS l0) o (mdMidS l0 i) o.length = q.toNat by have e := HQ.out; rw [show q.toNat = 0 by omega] at e ⊢; rw [← e, mdK])
              have HOC := Aside0.mk (HO.out.row_reads 0 rfl).2.1
              have HQB := Aside0.mk (show q.toNat ≤ o.length by omega)
              have HTL := Aside0.mk (show (o.take q.toNat).length = q.toNat by rw [List.length_take]; omega)
              obtain ⟨ht1, ht2, ht3⟩ := print_take_of (P := Try.prog) (Value.int .i64) (0 : Int) 24 3 .i64 Try.underlying24 HIN.out HSZ.out Ao co o q hq0 (by omega) HOC.out
              obtain ⟨Ad, hd1, hd2, hd3⟩ := print_drop_of (P := Try.prog) (Value.int .i64) (0 : Int) 24 3 .i64 Try.underlying24 HIN.out HSZ.out Ao co o q hq0 (by omega) HOC.out
              have HT1 := Aside0.mk (show ∀ w1 : World, Kd.C (Kd.int .i64) w1 Ao o.length o → Kd.C (Kd.int .i64) w1 Ao q.toNat (o.take q.toNat) from fun w1 h => by have e := Kd.C_of_reads (h1 := fun _ => rfl) (ht2 w1 (Kd.reads_of_C h)); rw [HTL.out] at e; exact e)
              have HT2 := Aside0.mk (show ∀ w1 : World, Kd.C (Kd.int .i64) w1 Ao o.length o → Kd.C (Kd.int .i64) w1 Ad (o.length - q.toNat) (o.drop q.toNat) from fun w1 h => by have e := Kd.C_of_reads (h1 := fun _ => rfl) (hd2 w1 (Kd.reads_of_C h)); rw [List.length_drop] at e; exact e)
              have HOWN := Aside0.mk (show spec_l1Own.f (o.take q.toNat) = some (o.take q.toNat) from by unfold spec_l1Own.f; simp only [Option.bind_some, List.length_nil, Nat.zero_add, List.nil_append]; rw [if_pos (by rw [List.length_take]; have := HOL.out; have := HN.out; omega)])
              have HINS := Aside0.mk (show mdIns (mdMidS l0) o i = o.take q.toNat ++ [i] ++ o.drop q.toNat from by unfold mdIns; rw [HQ3.out])
              have HLL := Aside0.mk (show o.length ≤ 1000 by have := HOL.out; have := HN.out; omega)
              clear ht2 ht3 hd2 hd3
              (try clear hol hnn)
              go_wp2
              have HD_10_0 := Aside0.mk (HO.out.drew)
              refine start_ (n := 12) (S := fun w' => True) (ds := []) #[false, false, false, false, false, false, false, false, false, false, false, false] (by kernel_rfl) rfl rfl trivial (fun hHeld => ?_)
              generalize wr.drew = wd_10_1 at HD_10_0 ⊢
              refine pure_ (i := 0) (N := some 37) (v := ?_) (a' := ?_) #[true, false, false, false, false, false, false, false, false, false, false, false] rfl rfl (by kernel_rfl) (fun _ _ _ h => h) (Or.inl ⟨by rfl, ?_⟩) ?_ ?_
              rotate_left
              · intro w'
                go_simp
                with_reducible rfl
              rotate_left
              · simp only [Act.put, List.setIfInBounds_toArray, List.set_cons_zero, List.set_cons_succ, i64_w, i32_w]
                rfl
              refine pure_ (i := 1) (N := some 38) (v := ?_) (a' := ?_) #[true, true, false, false, false, false, false, false, false, false, false, false] rfl rfl (by kernel_rfl) (fun _ _ _ h => h) (Or.inl ⟨by rfl, ?_⟩) ?_ ?_
              rotate_left
              · intro w'
                go_simp
                with_reducible rfl
              rotate_left
              · simp only [Act.put, List.setIfInBounds_toArray, List.set_cons_zero, List.set_cons_succ, i64_w, i32_w]
                rfl
              refine pure_ (i := 2) (N := some 39) (v := ?_) (a' := ?_) #[true, true, true, false, false, false, false, false, false, false, false, false] rfl rfl (by kernel_rfl) (fun _ _ _ h => h) (Or.inl ⟨by rfl, ?_⟩) ?_ ?_
              rotate_left
              · intro w'
                go_simp
                with_reducible rfl
              rotate_left
              · simp only [Act.put, List.setIfInBounds_toArray, List.set_cons_zero, List.set_cons_succ, i64_w, i32_w]
                rfl
              refine pure_ (i := 4) (N := some 41) (v := ?_) (a' := ?_) #[true, true, true, false, true, false, false, false, false, false, false, false] rfl rfl (by kernel_rfl) (fun _ _ _ h => h) (Or.inl ⟨by rfl, ?_⟩) ?_ ?_
              rotate_left
              · intro w'
                go_simp
                with_reducible rfl
              rotate_left
              · simp only [Act.put, List.setIfInBounds_toArray, List.set_cons_zero, List.set_cons_succ, i64_w, i32_w]
                rfl
              refine pure_ (i := 7) (N := some 44) (v := ?_) (a' := ?_) #[true, true, true, false, true, false, false, true, false, false, false, false] rfl rfl (by kernel_rfl) (fun _ _ _ h => h) (Or.inl ⟨by rfl, ?_⟩) ?_ ?_
              rotate_left
              · intro w'
                go_simp
                with_reducible rfl
              rotate_left
              · simp only [Act.put, List.setIfInBounds_toArray, List.set_cons_zero, List.set_cons_succ, i64_w, i32_w]
                rfl
              refine pure_ (i := 8) (N := some 45) (v := ?_) (a' := ?_) #[true, true, true, false, true, false, false, true, true, false, false, false] rfl rfl (by kernel_rfl) (fun _ _ _ h => h) (Or.inl ⟨by rfl, ?_⟩) ?_ ?_
              rotate_left
              · intro w'
                go_simp
                with_reducible rfl
              rotate_left
              · simp only [Act.put, List.setIfInBounds_toArray, List.set_cons_zero, List.set_cons_succ, i64_w, i32_w]
                rfl
              refine pure_ (i := 9) (N := some 46) (v := ?_) (a' := ?_) #[true, true, true, false, true, false, false, true, true, true, false, false] rfl rfl (by kernel_rfl) (fun _ _ _ h => h) (Or.inl ⟨by rfl, ?_⟩) ?_ ?_
              rotate_left
              · intro w'
                go_simp
                with_reducible rfl
              rotate_left
              · simp only [Act.put, List.setIfInBounds_toArray, List.set_cons_zero, List.set_cons_succ, i64_w, i32_w]
                rfl
              refine join_ (σ := Value × Value) 3 #[true, true, true, true, true, true, false, true, true, true, false, false] (fun s => [(40, s.1), (42, s.2)]) (fun s w' => Own w w' [Item.row (Kd.int .i64) 3 (s.2) ([i]), Item.row (Kd.int .i64) 3 (s.1) ((o.take q.toNat)), Item.row (Kd.int .i64) 3 (.slice Ao o.length co) (o)]) ?_ ?_
              rotate_left
              · intro hCont
                refine two_ (i := 3) (j := 5) (Ni := some 40) (Nj := some 42) #[true, true, true, true, true, false, false, true, true, true, false, false] #[true, true, true, false, true, true, false, true, true, true, false, false] rfl rfl rfl rfl (by kernel_rfl) (by decide) (by decide) (fun K hK => ?_) (fun K hK => ?_)
                · skip
                  refine goes_ Try.func16 (by kernel_rfl) rfl #[.slice Ao q.toNat co] (by rfl) rfl rfl (by simp only [List.map_toArray, List.map_cons, List.map_nil]; rfl) ?_
                  have hc_ := spec_l1Own.calls Ao co (o.take q.toNat) (o.take q.toNat) _ (by rw [HTL.out]; exact HT1.out _ (HD_10_0.out.row_reads 0 rfl).2.2) (by rw [HTL.out]; have := HOC.out; have := HQB.out; omega) HOWN.out
                  rw [HTL.out] at hc_
                  refine hc_.mono ?_
                  rintro e w_1 ⟨x_40, rfl, hR, hb⟩
                  refine ⟨_, rfl, ?_⟩
                  have HO_1 := Aside0.mk (HD_10_0.out.add_row hR hb)
                  clear hR hb hc_
                  refine hK.out _ _ trivial (fun hHeld => ?_)
                  clear hK K
                  refine norm_ (a' := ?_) ?_ ?_
                  rotate_left
                  · show Act.put _ (some 40) _ = _
                    simp only [Act.put, List.setIfInBounds_toArray, List.set_cons_zero, List.set_cons_succ, i64_w, i32_w]
                    rfl
                  refine one_ (i := 5) (N := some 42) #[true, true, true, true, true, true, false, true, true, true, false, false] rfl rfl (by kernel_rfl) (by decide) (fun K hK => ?_)
                  refine Sep.own_lit1_step (Value.int .i64) (h1 := fun _ => rfl) HO_1.out 3 i (by rfl) (N := 42) rfl (by first | (go_simp; done) | (go_simp; rfl)) ?_
                  intro x_42 w_2 ho _
                  have HO_2 := Aside0.mk ho
                  clear ho
                  refine hK.out _ _ trivial (fun hHeld => ?_)
                  clear hK K
                  refine norm_ (a' := ?_) ?_ ?_
                  rotate_left
                  · show Act.put _ (some 42) _ = _
                    simp only [Act.put, List.setIfInBounds_toArray, List.set_cons_zero, List.set_cons_succ, i64_w, i32_w]
                    rfl
                  exact norm_ (by simp only [putAll, Act.put, List.setIfInBounds_toArray, List.set_cons_zero, List.set_cons_succ]) (hCont (x_40, x_42) _ (((HO_2.out.front 2 rfl).front 2 rfl).front 2 rfl))
                · skip
                  refine Sep.own_lit1_step (Value.int .i64) (h1 := fun _ => rfl) HD_10_0.out 3 i (by rfl) (N := 42) rfl (by first | (go_simp; done) | (go_simp; rfl)) ?_
                  intro x_42 w_1 ho _
                  have HO_1 := Aside0.mk ho
                  clear ho
                  refine hK.out _ _ trivial (fun hHeld => ?_)
                  clear hK K
                  refine norm_ (a' := ?_) ?_ ?_
                  rotate_left
                  · show Act.put _ (some 42) _ = _
                    simp only [Act.put, List.setIfInBounds_toArray, List.set_cons_zero, List.set_cons_succ, i64_w, i32_w]
                    rfl
                  refine one_ (i := 3) (N := some 40) #[true, true, true, true, true, true, false, true, true, true, false, false] rfl rfl (by kernel_rfl) (by decide) (fun K hK => ?_)
                  refine goes_ Try.func16 (by kernel_rfl) rfl #[.slice Ao q.toNat co] (by rfl) rfl rfl (by simp only [List.map_toArray, List.map_cons, List.map_nil]; rfl) ?_
                  have hc_ := spec_l1Own.calls Ao co (o.take q.toNat) (o.take q.toNat) _ (by rw [HTL.out]; exact HT1.out _ (HO_1.out.row_reads 1 rfl).2.2) (by rw [HTL.out]; have := HOC.out; have := HQB.out; omega) HOWN.out
                  rw [HTL.out] at hc_
                  refine hc_.mono ?_
                  rintro e w_2 ⟨x_40, rfl, hR, hb⟩
                  refine ⟨_, rfl, ?_⟩
                  have HO_2 := Aside0.mk (HO_1.out.add_row hR hb)
                  clear hR hb hc_
                  refine hK.out _ _ trivial (fun hHeld => ?_)
                  clear hK K
                  refine norm_ (a' := ?_) ?_ ?_
                  rotate_left
                  · show Act.put _ (some 40) _ = _
                    simp only [Act.put, List.setIfInBounds_toArray, List.set_cons_zero, List.set_cons_succ, i64_w, i32_w]
                    rfl
                  exact norm_ (by simp only [putAll, Act.put, List.setIfInBounds_toArray, List.set_cons_zero, List.set_cons_succ]) (hCont (x_40, x_42) _ (((HO_2.out.front 2 rfl).front 1 rfl).front 2 rfl))
              rintro ⟨x_40, x_42⟩ wj_2 ho
              have hHeld := trivial
              obtain ⟨A_42, c_42, rfl⟩ := ho.row_slice 0 rfl
              have HOJ_2 := Aside0.mk ho
              clear ho
              refine norm_ (a' := ?_) ?_ ?_
              rotate_left
              · simp only [putAll, Act.put, List.setIfInBounds_toArray, List.set_cons_zero, List.set_cons_succ]
                rfl
              refine one_ (i := 6) (N := some 43) #[true, true, true, true, true, true, true, true, true, true, false, false] rfl rfl (by kernel_rfl) (by decide) (fun K hK => ?_)
              refine Sep.own_append_all_step (Value.int .i64) (0 : Int) HOJ_2.out 1 _ ((o.take q.toNat)) 3 rfl (by rfl) (.tmp 40) (.tmp 42) 24 (.int .i64 0) 8 rfl Try.underlying24 info3 rfl (by omega) ([i]) A_42 1 c_42 rfl rfl (HOJ_2.out.row_reads 0 rfl).2.2 (by have := HTL.out; have := HQB.out; have := HLL.out; omega) ?_
              intro x_43 w_53 ho
              have HO_53 := Aside0.mk ho
              clear ho
              refine hK.out _ _ trivial (fun hHeld => ?_)
              clear hK K
              refine norm_ (a' := ?_) ?_ ?_
              rotate_left
              · show Act.put _ (some 43) _ = _
                simp only [Act.put, List.setIfInBounds_toArray, List.set_cons_zero, List.set_cons_succ, i64_w, i32_w]
                rfl
              refine one_ (i := 10) (N := some 47) #[true, true, true, true, true, true, true, true, true, true, true, false] rfl rfl (by kernel_rfl) (by decide) (fun K hK => ?_)
              refine Sep.own_append_all_step (Value.int .i64) (0 : Int) HO_53.out 1 _ (((o.take q.toNat)) ++ ([i])) 3 rfl (by rfl) (.tmp 43) (.tmp 46) 24 (.int .i64 0) 8 rfl Try.underlying24 info3 rfl (by omega) (o.drop q.toNat) Ad ((o.length - q.toNat)) ((co - q.toNat)) rfl rfl (HT2.out _ (HO_53.out.row_reads 2 rfl).2.2) (by have := HTL.out; have := HQB.out; have := HLL.out; simp only [List.length_append, List.length_singleton]; omega) ?_
              intro x_47 w_54 ho
              have HO_54 := Aside0.mk ho
              clear ho
              refine hK.out _ _ trivial (fun hHeld => ?_)
              clear hK K
              refine norm_ (a' := ?_) ?_ ?_
              rotate_left
              · show Act.put _ (some 47) _ = _
                simp only [Act.put, List.setIfInBounds_toArray, List.set_cons_zero, List.set_cons_succ, i64_w, i32_w]
                rfl
              refine pure_ (i := 11) (N := some 6) (v := ?_) (a' := ?_) #[true, true, true, true, true, true, true, true, true, true, true, true] rfl rfl (by kernel_rfl) (fun _ _ _ h => h) (Or.inl ⟨by rfl, ?_⟩) ?_ ?_
              rotate_left
              · intro w'
                go_simp
                with_reducible rfl
              rotate_left
              · simp only [Act.put, List.setIfInBounds_toArray, List.set_cons_zero, List.set_cons_succ, i64_w, i32_w]
                rfl
              refine done_ (by kernel_rfl) ?_
              go_wp2
              go_roundw
              case measure => simp only [intOf, hwi]; omega
              case rel => exact ⟨i + 1, mdIns (mdMidS l0) o i, by omega, by omega, by first | rfl | rw [hwi], HJ2, ⟨by rw [mdIns_length]; have := HOL.out; omega⟩, ⟨by rw [HINS.out]; exact (((HO_54.out.front 1 rfl).front 2 rfl).front 2 rfl).tail.tail⟩⟩
        · have c1b := decide_eq_false hi1
          obtain rfl : i = (n : Int) := by omega
          have hjd := HJ.out
          rw [Int.toNat_natCast, md_iota_end, mdSort] at hjd
          have hP := HPO.out
          rw [← hjd] at hP
          have HP2 := Aside0.mk hP
          clear hP hjd
          go_wp2_with (first | ((with_reducible refine gate_callee (f := 17) rfl ?_); refine goesL_ (some 49) rfl rfl Try.func17 (by kernel_rfl) rfl #[.slice Ao o.length co] rfl (by (try simp only [List.map_toArray, List.map_cons, List.map_nil]); first | done | rfl) ?_; refine (spec_plOrder.calls k Ao co o ro _ (HO.out.row_reads 0 rfl).2.2 (HO.out.row_reads 0 rfl).2.1 HP2.out).mono ?_; rintro e w_1 ⟨x_49, rfl, hR, hb⟩; refine ⟨_, rfl, ?_⟩; have HO_1 := Aside0.mk (HO.out.add_row hR hb); clear hR hb))
          go_ret2
          obtain ⟨P_, hP_⟩ := HO_1.out.get 0 rfl
          exact ⟨_, rfl, Kd.R_mono hP_ (fun _ _ => trivial), HO_1.out.base⟩
    · cases h1

/-! ### laws_toIntS: function 18 -/
def laws_toIntS.l0 : Nat → List Int → List Int → Int → Option (List Int)
  | 0, _, _, _ => none
  | k + 1, x0, x3, x4 => if x4 < (x0.length : Int) then (if 0 ≤ x4 then (if x4 < (x3.length : Int) then (laws_toIntS.l0 k x0 (x3.set (x4 : Int).toNat (rd x0 x4)) (wrap64 (x4 + 1))) else (none)) else (none)) else (some x3)
def laws_toIntS.f (k : Nat) (l0 : List Int) : Option (List Int) := if 0 ≤ (l0.length : Int) then (if ((l0.length : Int) : Int).toNat ≤ 35184372088832 then (laws_toIntS.l0 k l0 (List.replicate ((l0.length : Int) : Int).toNat 0) 0) else (none)) else (none)
theorem laws_toIntS.mono_l : ∀ k, (∀ y0 y1 y2, LeO (laws_toIntS.l0 k y0 y1 y2) (laws_toIntS.l0 (k + 1) y0 y1 y2))
  | 0 => fun _ _ _ r h => by simp [laws_toIntS.l0] at h
  | k + 1 => by
    have ih0 := laws_toIntS.mono_l k
    · intro y0 y1 y2
      unfold laws_toIntS.l0
      repeat' first
      | (with_reducible exact ih0 _ _ _)
      | (with_reducible exact LeO.refl _)
      | (with_reducible exact LeO.none _)
      | (with_reducible refine LeO.ite ?_ ?_)
      | (with_reducible refine LeO.bind ?_ (fun _ => ?_))
      | exact ih0 _ _ _
      | exact LeO.none _
      | refine LeO.ite ?_ ?_
      | refine LeO.bind ?_ (fun _ => ?_)
theorem laws_toIntS.mono : ∀ a0 k, LeO (laws_toIntS.f k a0) (laws_toIntS.f (k + 1) a0) := by
  intro a0 k
  have ih0 := laws_toIntS.mono_l k
  unfold laws_toIntS.f
  repeat' first
      | (with_reducible exact ih0 _ _ _)
      | (with_reducible exact LeO.refl _)
      | (with_reducible exact LeO.none _)
      | (with_reducible refine LeO.ite ?_ ?_)
      | (with_reducible refine LeO.bind ?_ (fun _ => ?_))
      | exact ih0 _ _ _
      | exact LeO.none _
      | refine LeO.ite ?_ ?_
      | refine LeO.bind ?_ (fun _ => ?_)
set_option maxHeartbeats 8000000 in
set_option maxRecDepth 100000 in
theorem laws_toIntS.calls (k : Nat) (A0 : Option Addr) (c0 : Nat) (l0 : List Int) (r : List Int) (w : World) (hr0 : Kd.C (Kd.int .i64) w A0 l0.length l0) (hc0 : l0.length ≤ c0) (h : laws_toIntS.f k l0 = some r) :
    Calls Try.prog 18 #[.slice A0 l0.length c0] w fun e w' => ∃ v0_ : Value, e = .returned (v0_) ∧ Kd.R (Kd.int .i64) 3 w' w.heap.size (fun _ => True) v0_ r ∧ Below w.heap.size w w' := by
  have HR0 := Aside0.mk hr0
  have HC0 := Aside0.mk hc0
  clear hr0 hc0
  have HB := Aside0.mk (Below.refl w.heap.size w)
  have H : (if 0 ≤ (l0.length : Int) then (if ((l0.length : Int) : Int).toNat ≤ 35184372088832 then (laws_toIntS.l0 k l0 (List.replicate ((l0.length : Int) : Int).toNat 0) 0) else (none)) else (none)) = some r := h
  clear h
  by_cases c2 : 0 ≤ (l0.length : Int)
  · rw [if_pos c2] at H
    have c2b0 := eq_true c2
    have c2b1 : decide (0 ≤ (l0.length : Int)) = true := decide_eq_true c2
    clear c2
    by_cases c3 : ((l0.length : Int) : Int).toNat ≤ 35184372088832
    · rw [if_pos c3] at H
      have c3b0 := eq_true c3
      have c3b1 : decide (((l0.length : Int) : Int).toNat ≤ 35184372088832) = true := decide_eq_true c3
      clear c3
      obtain ⟨y120, hy120⟩ : ∃ y_ : List Int, y_ = (List.replicate ((l0.length : Int) : Int).toNat 0) := ⟨_, rfl⟩
      replace H : (laws_toIntS.l0 k l0 y120 0) = some r := by first | (rw [hy120]; with_reducible exact H) | (have H2_ := (Option.bind_some _ _).symm.trans H; rw [hy120]; with_reducible exact H2_) | (have H2_ := (Option.bind_some _ _).symm.trans H; with_reducible exact H2_) | with_reducible exact H | (rw [hy120]; exact H) | exact H
      have Ny120 := Aside0.mk hy120
      clear hy120
      have H' := Aside0.mk H
      clear H
      go_enter Try.func18, Try.ntmps18
      go_wp2_with (first | ((with_reducible refine gate_dst (N := 7) rfl ?_); refine Kd.R_make (Kd.int .i64) _ 3 rfl (N := 7) rfl 24 _ _ rfl (l0.length : Int) rfl rfl Try.underlying24 (.int .i64 0) 8 info3 rfl (by decide) (by omega) 0 (ok := fun _ => True) (okp := fun _ => True) rfl (fun _ hk => hk) trivial (of_decide_eq_true (by first | (with_reducible assumption) | assumption)) (Nat.le_trans (Nat.mul_le_mul_right _ (of_decide_eq_true (by first | (with_reducible assumption) | assumption) : (l0.length : Int).toNat ≤ 35184372088832)) (by omega)) (Below.refl _ _) (Nat.le_refl _) ?_; intro v121 w4 ho5 hb hg_ hnew_; clear hg_ hnew_; (first | rw [← Ny120.out] at ho5 | (simp only [Int.reduceToNat] at ho5; rw [← Ny120.out] at ho5)); have n0_ := Aside0.mk (Kd.R_lower ho5 (below_size (by repeat (first | (with_reducible first | exact HB.out | apply below_alloc | apply pw_below_drewN | apply below_drew1) | exact HB.out)))); have n1_ := Aside0.mk (below_step (by repeat (first | (with_reducible first | exact HB.out | apply below_alloc | apply pw_below_drewN | apply below_drew1) | exact HB.out)) hb); clear HB; have HO122 := n0_; have HB := n1_; clear n0_ n1_; clear hb ho5))
      go_loopg [4] k (fun kq v4 w' => ∃ (x3_1 : List Int) (x4_1 : Int), v4 = .int .i64 x4_1 ∧ Aside0 (laws_toIntS.l0 kq l0 x3_1 x4_1 = some r) ∧ Aside0 (kq ≤ k) ∧ Aside0 (Kd.R (Kd.int .i64) 3 w' w.heap.size (fun _ => True) v121 x3_1) ∧ Aside0 (Below w.heap.size w w'))
      case atStart => exact ⟨(y120), (0), (by first | rfl | (simp; done) | (simp [*]; done)), H', ⟨Nat.le_refl _⟩, ⟨by (with_reducible repeat (first | apply Kd.R_alloc | apply Kd.R_drewN | apply Kd.R_drew)); exact HO122.out⟩, ⟨by repeat (first | (with_reducible first | exact HB.out | apply below_alloc | apply pw_below_drewN | apply below_drew1) | exact HB.out)⟩⟩
      case round =>
        clear H'
        try clear c1
        try clear c2
        try clear c2b0
        try clear c2b1
        try clear p2
        try clear c3
        try clear c3b0
        try clear c3b1
        obtain ⟨x3_1, x4_1, rfl, HA, HK1, HO_3, HB⟩ := hrel
        cases gk with
        | zero => exact absurd HA.out (by simp [laws_toIntS.l0])
        | succ k1 =>
          have H := HA.out
          clear HA
          simp only [laws_toIntS.l0] at H
          by_cases c6 : x4_1 < (l0.length : Int)
          · rw [if_pos c6] at H
            have c6b0 : decide (x4_1 < (l0.length : Int)) = true := decide_eq_true c6
            clear c6
            by_cases c7 : 0 ≤ x4_1
            · rw [if_pos c7] at H
              have c7b0 : decide (0 ≤ x4_1) = true := decide_eq_true c7
              clear c7
              by_cases c8 : x4_1 < (x3_1.length : Int)
              · rw [if_pos c8] at H
                have c8b0 : decide (x4_1 < (x3_1.length : Int)) = true := decide_eq_true c8
                clear c8
                obtain ⟨y124, hy124⟩ : ∃ y_ : List Int, y_ = (x3_1.set (x4_1 : Int).toNat (rd l0 x4_1)) := ⟨_, rfl⟩
                replace H : (laws_toIntS.l0 k1 l0 y124 (wrap64 (x4_1 + 1))) = some r := by first | (rw [hy124]; with_reducible exact H) | (have H2_ := (Option.bind_some _ _).symm.trans H; rw [hy124]; with_reducible exact H2_) | (have H2_ := (Option.bind_some _ _).symm.trans H; with_reducible exact H2_) | with_reducible exact H | (rw [hy124]; exact H) | exact H
                have Ny124 := Aside0.mk hy124
                clear hy124
                have H' := Aside0.mk H
                clear H
                have p123 : 0 ≤ (x4_1 : Int) := of_decide_eq_true (by first | (with_reducible assumption) | assumption)
                have q123 : x4_1 < (l0.length : Int) := of_decide_eq_true (by first | (with_reducible assumption) | assumption)
                obtain ⟨ad123, e123, hx123_0⟩ := Kd.at_int HR0.out x4_1 p123 q123
                cases e123
                (try (replace hx123_0 := (HB.out.cell (World.block_lt_of_cell? w _ hx123_0)).trans hx123_0))
                replace p123 := eq_true p123
                replace q123 := eq_true q123
                have p9 : 0 ≤ (x4_1 : Int) := of_decide_eq_true (by first | (with_reducible assumption) | assumption)
                have q9 : (x4_1 : Int) < ((x3_1.length : Int) : Int) := of_decide_eq_true (by first | (with_reducible assumption) | assumption)
                obtain ⟨go9, co9, eo9, gb9, gl9, cl9, HG9⟩ := Kd.R_form HO_3.out (by omega)
                (first | cases eo9 | (injection eo9 with ea_ en_ ec_; (first | subst ea_ | (injection ea_ with ea_; subst ea_)); subst ec_; clear en_))
                have GB9 := Aside0.mk gb9
                have GG9 := Aside0.mk HG9
                clear gb9 gl9 HG9
                obtain ⟨hx9_0, hf9_0⟩ := Kd.R_celln 0 HO_3.out (x4_1 : Int) p9 q9
                replace p9 := eq_true p9
                replace q9 := eq_true q9
                have HP10 := Kd.R_putg HO_3.out (x4_1 : Int) (rd l0 x4_1)
                go_wp2_with (first | ((with_reducible refine gate_store (t := 3) (p := 20) rfl ?_); refine store_event (t := 3) (p := 20) (v := ?vo_w11) (w1 := (wr.setCell ⟨go9, (x4_1 : Int).toNat, none⟩ (.int .i64 (rd l0 x4_1)))) ?hg ?ho ?hn ?hr ?_; (case ho => rfl); (case hg => rfl); (case hn => rfl); (case hr => first | (go_simp; done) | (go_simp; rfl)); intro w11 hw; have hg : wr.grownBy w11 (some go9) := (by rw [hw]; exact HP10.2); have hp_ : Kd.R (Kd.int .i64) 3 w11 w.heap.size (fun _ => True) (.slice (some ⟨go9, 0, none⟩) x3_1.length co9) y124 := (by rw [hw, Ny124.out]; exact HP10.1); clear HP10; have n0_ := Aside0.mk (hp_); have n1_ := Aside0.mk ((by rw [hw]; exact below_set (HB.out) GB9.out : Below w.heap.size w w11)); clear HO_3; clear HB; have HO_3 := n0_; have HB := n1_; clear n0_ n1_; clear hg hw hp_))
                go_roundg k1
                case measure => have := HK1.out; omega
                case rel => exact ⟨(y124), (wrap64 (x4_1 + 1)), (by first | rfl | (simp; done) | (simp [*]; done)), H', ⟨by have := HK1.out; omega⟩, ⟨by (with_reducible repeat (first | apply Kd.R_alloc | apply Kd.R_drewN | apply Kd.R_drew)); exact HO_3.out⟩, ⟨by repeat (first | (with_reducible first | exact HB.out | apply below_alloc | apply pw_below_drewN | apply below_drew1) | exact HB.out)⟩⟩
              · rw [if_neg c8] at H
                exact absurd H (by simp)
            · rw [if_neg c7] at H
              exact absurd H (by simp)
          · rw [if_neg c6] at H
            have c6b0 : decide (x4_1 < (l0.length : Int)) = false := decide_eq_false c6
            clear c6
            obtain rfl := Option.some.inj H
            go_wp2
            go_ret
            exact ⟨_, by first | rfl | (simp [errW_none, errW_some] <;> rfl) | (simp [*, errW_none, errW_some] <;> rfl), by (with_reducible repeat (first | apply Kd.R_alloc | apply Kd.R_drewN | apply Kd.R_drew)); exact HO_3.out, by repeat (first | (with_reducible first | exact HB.out | apply below_alloc | apply pw_below_drewN | apply below_drew1) | exact HB.out)⟩
    · rw [if_neg c3] at H
      exact absurd H (by simp)
  · rw [if_neg c2] at H
    exact absurd H (by simp)

end Go.Proofs.Ytanpidphaanjiaa.QFnExactMiddleOrder
