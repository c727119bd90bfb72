/- The functions that the law FnExactSeparateOnes uses: each Go function as a Lean function, and the proof that the Go code comes to its answers (part 8). Written by wip/gen/own.py out of what print.sh printed for this seat, changed by that program where the printed text fell in Lean. Conditions: those of each theorem. -/
import Derived.Test.YtfpjnomiifagkaaQFnExactSeparateOnesx0
import Derived.Test.YtfpjnomiifagkaaQFnExactSeparateOnesx1
import Derived.Test.YtfpjnomiifagkaaQFnExactSeparateOnesx6
import Derived.Test.YtfpjnomiifagkaaQFnExactSeparateOnesx7
namespace Go.Proofs.Ytfpjnomiifagkaa.QFnExactSeparateOnes
open Go.RowKit Go.Proofs.YtfpjnomiifagkaaW.PrintWords Go.Proofs.YtfpjnomiifagkaaW.PrintLast Go.Proofs.YtfpjnomiifagkaaW.PrintMore
attribute [local go_sem] max2_int min2_int max_two min_two max_three min_three max_four min_four   -- for this text's walks alone
set_option linter.unusedVariables false
set_option linter.unusedSimpArgs false

/-! ### impl_isSeparate: function 42 -/
mutual
def impl_isSeparate.l0 : Nat → List Int → Int → List (S69) → Int → Int → Option (Bool)
  | 0, _, _, _, _, _ => none
  | k + 1, x1, x2, x11, x12, x13 => if x13 < x12 then (if 0 ≤ x13 then (if x13 < (x11.length : Int) then (if (Go.bits .and .i64 x2 ((rd_T69 x11 x13).f0)) = ((rd_T69 x11 x13).f1) then (impl_isSeparate.l1 k x1 x2 x11 x12 x13 x1 (x1.length : Int) 0 ((rd_T69 x11 x13).f0) ((rd_T69 x11 x13).f1)) else (impl_isSeparate.l0 k x1 x2 x11 x12 (wrap64 (x13 + 1)))) else (none)) else (none)) else (some true)
def impl_isSeparate.l1 : Nat → List Int → Int → List (S69) → Int → Int → List Int → Int → Int → Int → Int → Option (Bool)
  | 0, _, _, _, _, _, _, _, _, _, _ => none
  | k + 1, x1, x2, x11, x12, x13, x24, x25, x26, x208000, x208001 => if x26 < x25 then (if 0 ≤ x26 then (if x26 < (x24.length : Int) then (if (Go.bits .and .i64 (rd x24 x26) x208000) = x208001 then (some false) else (impl_isSeparate.l1 k x1 x2 x11 x12 x13 x24 x25 (wrap64 (x26 + 1)) x208000 x208001)) else (none)) else (none)) else (impl_isSeparate.l0 k x1 x2 x11 x12 (wrap64 (x13 + 1)))
end
def impl_isSeparate.f (k : Nat) (l0 : List (S69)) (l1 : List Int) (a2 : Int) : Option (Bool) := impl_isSeparate.l0 k l1 a2 l0 (l0.length : Int) 0
theorem impl_isSeparate.mono_l : ∀ k, (∀ y0 y1 y2 y3 y4, LeO (impl_isSeparate.l0 k y0 y1 y2 y3 y4) (impl_isSeparate.l0 (k + 1) y0 y1 y2 y3 y4)) ∧ (∀ y0 y1 y2 y3 y4 y5 y6 y7 y8 y9, LeO (impl_isSeparate.l1 k y0 y1 y2 y3 y4 y5 y6 y7 y8 y9) (impl_isSeparate.l1 (k + 1) y0 y1 y2 y3 y4 y5 y6 y7 y8 y9))
  | 0 => ⟨fun _ _ _ _ _ r h => by simp [impl_isSeparate.l0] at h, fun _ _ _ _ _ _ _ _ _ _ r h => by simp [impl_isSeparate.l1] at h⟩
  | k + 1 => by
    obtain ⟨ih0, ih1⟩ := impl_isSeparate.mono_l k
    refine ⟨?_, ?_⟩
    · intro y0 y1 y2 y3 y4
      unfold impl_isSeparate.l0
      repeat' first
      | (with_reducible exact ih0 _ _ _ _ _)
      | (with_reducible exact ih1 _ _ _ _ _ _ _ _ _ _)
      | (with_reducible exact LeO.refl _)
      | (with_reducible exact LeO.none _)
      | (with_reducible refine LeO.ite ?_ ?_)
      | (with_reducible refine LeO.bind ?_ (fun _ => ?_))
      | exact ih0 _ _ _ _ _
      | exact ih1 _ _ _ _ _ _ _ _ _ _
      | exact LeO.none _
      | refine LeO.ite ?_ ?_
      | refine LeO.bind ?_ (fun _ => ?_)
    · intro y0 y1 y2 y3 y4 y5 y6 y7 y8 y9
      unfold impl_isSeparate.l1
      repeat' first
      | (with_reducible exact ih0 _ _ _ _ _)
      | (with_reducible exact ih1 _ _ _ _ _ _ _ _ _ _)
      | (with_reducible exact LeO.refl _)
      | (with_reducible exact LeO.none _)
      | (with_reducible refine LeO.ite ?_ ?_)
      | (with_reducible refine LeO.bind ?_ (fun _ => ?_))
      | exact ih0 _ _ _ _ _
      | exact ih1 _ _ _ _ _ _ _ _ _ _
      | exact LeO.none _
      | refine LeO.ite ?_ ?_
      | refine LeO.bind ?_ (fun _ => ?_)
theorem impl_isSeparate.mono : ∀ a0 a1 a2 k, LeO (impl_isSeparate.f k a0 a1 a2) (impl_isSeparate.f (k + 1) a0 a1 a2) := by
  intro a0 a1 a2 k
  obtain ⟨ih0, ih1⟩ := impl_isSeparate.mono_l k
  unfold impl_isSeparate.f
  repeat' first
      | (with_reducible exact ih0 _ _ _ _ _)
      | (with_reducible exact ih1 _ _ _ _ _ _ _ _ _ _)
      | (with_reducible exact LeO.refl _)
      | (with_reducible exact LeO.none _)
      | (with_reducible refine LeO.ite ?_ ?_)
      | (with_reducible refine LeO.bind ?_ (fun _ => ?_))
      | exact ih0 _ _ _ _ _
      | exact ih1 _ _ _ _ _ _ _ _ _ _
      | exact LeO.none _
      | refine LeO.ite ?_ ?_
      | refine LeO.bind ?_ (fun _ => ?_)
set_option maxHeartbeats 8000000 in
set_option maxRecDepth 100000 in
theorem impl_isSeparate.calls (k : Nat) (A0 : Option Addr) (c0 : Nat) (l0 : List (S69)) (A1 : Option Addr) (c1 : Nat) (l1 : List Int) (a2 : Int) (r : Bool) (w : World) (hr0 : Kd.C k69 w A0 l0.length l0) (hc0 : l0.length ≤ c0) (hr1 : Kd.C (Kd.int .i64) w A1 l1.length l1) (hc1 : l1.length ≤ c1) (h : impl_isSeparate.f k l0 l1 a2 = some r) :
    Calls Try.prog 42 #[.slice A0 l0.length c0, .slice A1 l1.length c1, .int .i64 a2] w fun e w' => e = .returned (.bool r) ∧ Below w.heap.size w w' := by
  have hu69 := Try.underlying69
  have HR0 := Aside0.mk hr0
  have HC0 := Aside0.mk hc0
  clear hr0 hc0
  have HR1 := Aside0.mk hr1
  have HC1 := Aside0.mk hc1
  clear hr1 hc1
  have HB := Aside0.mk (Below.refl w.heap.size w)
  have H : (impl_isSeparate.l0 k l1 a2 l0 (l0.length : Int) 0) = some r := h
  clear h
  have H' := Aside0.mk H
  clear H
  go_enter Try.func42, Try.ntmps42
  go_wp2
  go_loopg [13] k (fun kq v13 w' => ∃ (x13_1 : Int), v13 = .int .i64 x13_1 ∧ Aside0 (impl_isSeparate.l0 kq l1 a2 l0 (l0.length : Int) x13_1 = some r) ∧ Aside0 (kq ≤ k) ∧ Aside0 (Below w.heap.size w w'))
  case atStart => exact ⟨(0), (by first | rfl | (simp; done) | (simp [*]; done)), H', ⟨Nat.le_refl _⟩, ⟨by repeat (first | (with_reducible first | exact HB.out | apply below_alloc | apply pw_below_drewN | apply below_drew1) | exact HB.out)⟩⟩
  case round =>
    clear H'
    try clear c1
    try clear p2
    obtain ⟨x13_1, rfl, HA, HK1, HB⟩ := hrel
    cases gk with
    | zero => exact absurd HA.out (by simp [impl_isSeparate.l0])
    | succ k1 =>
      have H := HA.out
      clear HA
      simp only [impl_isSeparate.l0] at H
      by_cases c4 : x13_1 < (l0.length : Int)
      · rw [if_pos c4] at H
        have c4b0 : decide (x13_1 < (l0.length : Int)) = true := decide_eq_true c4
        clear c4
        by_cases c5 : 0 ≤ x13_1
        · rw [if_pos c5] at H
          have c5b0 : decide (0 ≤ x13_1) = true := decide_eq_true c5
          clear c5
          by_cases c6 : x13_1 < (l0.length : Int)
          · rw [if_pos c6] at H
            have c6b0 : decide (x13_1 < (l0.length : Int)) = true := decide_eq_true c6
            clear c6
            by_cases c7 : (Go.bits .and .i64 a2 ((rd_T69 l0 x13_1).f0)) = ((rd_T69 l0 x13_1).f1)
            · rw [if_pos c7] at H
              have c7b0 : ((Go.bits .and .i64 a2 ((rd_T69 l0 x13_1).f0)) == ((rd_T69 l0 x13_1).f1)) = true := beq_iff_eq.mpr c7
              have c7b1 : ((Go.bits .and .i64 a2 ((rd_T69 l0 x13_1).f0)) != ((rd_T69 l0 x13_1).f1)) = false := bne_eq_false_iff_eq.mpr c7
              clear c7
              have H' := Aside0.mk H
              clear H
              have p206 : 0 ≤ (x13_1 : Int) := of_decide_eq_true (by first | (with_reducible assumption) | assumption)
              have q206 : x13_1 < (l0.length : Int) := of_decide_eq_true (by first | (with_reducible assumption) | assumption)
              obtain ⟨ad206, e206, hx206_0, hx206_1⟩ := at_T69 HR0.out x13_1 p206 q206
              cases e206
              (try (replace hx206_0 := (HB.out.cell (World.block_lt_of_cell? w _ hx206_0)).trans hx206_0))
              (try (replace hx206_1 := (HB.out.cell (World.block_lt_of_cell? w _ hx206_1)).trans hx206_1))
              replace p206 := eq_true p206
              replace q206 := eq_true q206
              go_wp2_with (first | ((with_reducible refine gate_dst (N := 8) rfl ?_); refine box_event ?hg (N := 8) ?hd (cs := #[.int .i64 0, .int .i64 0]) (t := 69) ?hr ?_; (case hd => rfl); (case hg => rfl); (case hr => first | (go_simp; done) | (go_simp; rfl)); intro gb207 hg w8 hbox hb; have n0_ := Aside0.mk (below_step (by repeat (first | (with_reducible first | exact HB.out | apply below_alloc | apply pw_below_drewN | apply below_drew1) | exact HB.out)) hb); have n1_ := Aside0.mk (hbox); have n2_ := Aside0.mk ((by rw [hg]; exact (below_size (by repeat (first | (with_reducible first | exact HB.out | apply below_alloc | apply pw_below_drewN | apply below_drew1) | exact HB.out))) : w.heap.size ≤ gb207)); have n3_ := Aside0.mk ((by rw [hg]; exact (below_size (by repeat (first | (with_reducible first | exact HB.out | apply below_alloc | apply pw_below_drewN | apply below_drew1) | exact HB.out))) : w.heap.size ≤ gb207)); clear HB; have HB := n0_; have BK207 := n1_; have GW207 := n2_; have GE207 := n3_; clear n0_ n1_ n2_ n3_; clear hb hbox hg; have hcz9_0 : w8.cell? ⟨gb207, 0, none⟩ = some (.int .i64 0) := (blk_cell BK207.out 0).trans rfl; have hcz9_1 : w8.cell? ⟨gb207, 1, none⟩ = some (.int .i64 0) := (blk_cell BK207.out 1).trans rfl; have hfz9_0 := blk_frozen BK207.out 0; have hfz9_1 := blk_frozen BK207.out 1))
              go_loopg [26] k1 (fun kq v26 w' => ∃ (x26_2 : Int), v26 = .int .i64 x26_2 ∧ Aside0 (impl_isSeparate.l1 kq l1 a2 l0 (l0.length : Int) x13_1 l1 (l1.length : Int) x26_2 ((rd_T69 l0 x13_1).f0) ((rd_T69 l0 x13_1).f1) = some r) ∧ Aside0 (kq ≤ k1) ∧ Aside0 (w'.heap[gb207]? = some (.cells #[.int .i64 ((rd_T69 l0 x13_1).f0), .int .i64 ((rd_T69 l0 x13_1).f1)] 69 (0, 0))) ∧ Aside0 (Below w.heap.size w w'))
              case atStart => exact ⟨(0), (by first | rfl | (simp; done) | (simp [*]; done)), H', ⟨Nat.le_refl _⟩, ⟨by (with_reducible repeat (first | refine blk_drewN ?_ _ | refine blk_drew ?_ | refine blk_alloc ?_ _)); refine blk_put (cs := #[.int .i64 ((rd_T69 l0 x13_1).f0), .int .i64 0]) ?_ 1 _ rfl; (with_reducible repeat (first | refine blk_drewN ?_ _ | refine blk_drew ?_ | refine blk_alloc ?_ _)); refine blk_put (cs := #[.int .i64 0, .int .i64 0]) ?_ 0 _ rfl; (with_reducible repeat (first | refine blk_drewN ?_ _ | refine blk_drew ?_ | refine blk_alloc ?_ _)); exact BK207.out⟩, ⟨by repeat (first | (with_reducible first | exact HB.out | apply below_alloc | apply pw_below_drewN | apply below_drew1 | refine below_set ?_ GE207.out) | exact HB.out)⟩⟩
              case round =>
                clear H'
                try clear c1
                try clear p2
                try clear q2
                try clear hx2
                try clear c4
                try clear c4b0
                try clear c5
                try clear c5b0
                try clear c6
                try clear c6b0
                try clear c7
                try clear c7b0
                try clear c7b1
                try clear hcz9_0
                try clear hcz9_1
                try clear hfz9_0
                try clear hfz9_1
                try clear hx206_0
                try clear hx206_1
                try clear p2
                try clear p206
                try clear q206
                obtain ⟨x26_2, rfl, HA, HK2, BK207, HB⟩ := hrel
                cases gk with
                | zero => exact absurd HA.out (by simp [impl_isSeparate.l1])
                | succ k2 =>
                  have H := HA.out
                  clear HA
                  simp only [impl_isSeparate.l1] at H
                  by_cases c10 : x26_2 < (l1.length : Int)
                  · rw [if_pos c10] at H
                    have c10b0 : decide (x26_2 < (l1.length : Int)) = true := decide_eq_true c10
                    clear c10
                    by_cases c11 : 0 ≤ x26_2
                    · rw [if_pos c11] at H
                      have c11b0 : decide (0 ≤ x26_2) = true := decide_eq_true c11
                      clear c11
                      by_cases c12 : x26_2 < (l1.length : Int)
                      · rw [if_pos c12] at H
                        have c12b0 : decide (x26_2 < (l1.length : Int)) = true := decide_eq_true c12
                        clear c12
                        by_cases c13 : (Go.bits .and .i64 (rd l1 x26_2) ((rd_T69 l0 x13_1).f0)) = ((rd_T69 l0 x13_1).f1)
                        · rw [if_pos c13] at H
                          have c13b0 : ((Go.bits .and .i64 (rd l1 x26_2) ((rd_T69 l0 x13_1).f0)) == ((rd_T69 l0 x13_1).f1)) = true := beq_iff_eq.mpr c13
                          have c13b1 : ((Go.bits .and .i64 (rd l1 x26_2) ((rd_T69 l0 x13_1).f0)) != ((rd_T69 l0 x13_1).f1)) = false := bne_eq_false_iff_eq.mpr c13
                          clear c13
                          obtain rfl := Option.some.inj H
                          have p208 : 0 ≤ (x26_2 : Int) := of_decide_eq_true (by first | (with_reducible assumption) | assumption)
                          have q208 : x26_2 < (l1.length : Int) := of_decide_eq_true (by first | (with_reducible assumption) | assumption)
                          obtain ⟨ad208, e208, hx208_0⟩ := Kd.at_int HR1.out x26_2 p208 q208
                          cases e208
                          (try (replace hx208_0 := (HB.out.cell (World.block_lt_of_cell? w _ hx208_0)).trans hx208_0))
                          replace p208 := eq_true p208
                          replace q208 := eq_true q208
                          have hcz14_0 : wr.cell? ⟨gb207, 0, none⟩ = some (.int .i64 ((rd_T69 l0 x13_1).f0)) := (blk_cell BK207.out 0).trans rfl
                          have hcz14_1 : wr.cell? ⟨gb207, 1, none⟩ = some (.int .i64 ((rd_T69 l0 x13_1).f1)) := (blk_cell BK207.out 1).trans rfl
                          have hfz14_0 := blk_frozen BK207.out 0
                          have hfz14_1 := blk_frozen BK207.out 1
                          go_wp2
                          go_ret
                          exact ⟨by first | rfl | (simp [errW_none, errW_some] <;> rfl) | (simp [*, errW_none, errW_some] <;> rfl), by repeat (first | (with_reducible first | exact HB.out | apply below_alloc | apply pw_below_drewN | apply below_drew1 | refine below_set ?_ GE207.out) | exact HB.out)⟩
                        · rw [if_neg c13] at H
                          have c13b0 : ((Go.bits .and .i64 (rd l1 x26_2) ((rd_T69 l0 x13_1).f0)) == ((rd_T69 l0 x13_1).f1)) = false := beq_eq_false_iff_ne.mpr c13
                          have c13b1 : ((Go.bits .and .i64 (rd l1 x26_2) ((rd_T69 l0 x13_1).f0)) != ((rd_T69 l0 x13_1).f1)) = true := bne_iff_ne.mpr c13
                          have H' := Aside0.mk H
                          clear H
                          have p208 : 0 ≤ (x26_2 : Int) := of_decide_eq_true (by first | (with_reducible assumption) | assumption)
                          have q208 : x26_2 < (l1.length : Int) := of_decide_eq_true (by first | (with_reducible assumption) | assumption)
                          obtain ⟨ad208, e208, hx208_0⟩ := Kd.at_int HR1.out x26_2 p208 q208
                          cases e208
                          (try (replace hx208_0 := (HB.out.cell (World.block_lt_of_cell? w _ hx208_0)).trans hx208_0))
                          replace p208 := eq_true p208
                          replace q208 := eq_true q208
                          have hcz15_0 : wr.cell? ⟨gb207, 0, none⟩ = some (.int .i64 ((rd_T69 l0 x13_1).f0)) := (blk_cell BK207.out 0).trans rfl
                          have hcz15_1 : wr.cell? ⟨gb207, 1, none⟩ = some (.int .i64 ((rd_T69 l0 x13_1).f1)) := (blk_cell BK207.out 1).trans rfl
                          have hfz15_0 := blk_frozen BK207.out 0
                          have hfz15_1 := blk_frozen BK207.out 1
                          go_wp2
                          go_roundg k2
                          case measure => have := HK1.out; have := HK2.out; omega
                          case rel => exact ⟨(wrap64 (x26_2 + 1)), (by first | rfl | (simp; done) | (simp [*]; done)), H', ⟨by have := HK1.out; have := HK2.out; omega⟩, ⟨by (with_reducible repeat (first | refine blk_drewN ?_ _ | refine blk_drew ?_ | refine blk_alloc ?_ _)); exact BK207.out⟩, ⟨by repeat (first | (with_reducible first | exact HB.out | apply below_alloc | apply pw_below_drewN | apply below_drew1 | refine below_set ?_ GE207.out) | exact HB.out)⟩⟩
                      · rw [if_neg c12] at H
                        exact absurd H (by simp)
                    · rw [if_neg c11] at H
                      exact absurd H (by simp)
                  · rw [if_neg c10] at H
                    have c10b0 : decide (x26_2 < (l1.length : Int)) = false := decide_eq_false c10
                    clear c10
                    have H' := Aside0.mk H
                    clear H
                    go_wp2
                    go_roundg k2
                    case measure => have := HK1.out; have := HK2.out; omega
                    case rel => exact ⟨(wrap64 (x13_1 + 1)), (by first | rfl | (simp; done) | (simp [*]; done)), H', ⟨by have := HK1.out; have := HK2.out; omega⟩, ⟨by repeat (first | (with_reducible first | exact HB.out | apply below_alloc | apply pw_below_drewN | apply below_drew1 | refine below_set ?_ GE207.out) | exact HB.out)⟩⟩
            · rw [if_neg c7] at H
              have c7b0 : ((Go.bits .and .i64 a2 ((rd_T69 l0 x13_1).f0)) == ((rd_T69 l0 x13_1).f1)) = false := beq_eq_false_iff_ne.mpr c7
              have c7b1 : ((Go.bits .and .i64 a2 ((rd_T69 l0 x13_1).f0)) != ((rd_T69 l0 x13_1).f1)) = true := bne_iff_ne.mpr c7
              have H' := Aside0.mk H
              clear H
              have p206 : 0 ≤ (x13_1 : Int) := of_decide_eq_true (by first | (with_reducible assumption) | assumption)
              have q206 : x13_1 < (l0.length : Int) := of_decide_eq_true (by first | (with_reducible assumption) | assumption)
              obtain ⟨ad206, e206, hx206_0, hx206_1⟩ := at_T69 HR0.out x13_1 p206 q206
              cases e206
              (try (replace hx206_0 := (HB.out.cell (World.block_lt_of_cell? w _ hx206_0)).trans hx206_0))
              (try (replace hx206_1 := (HB.out.cell (World.block_lt_of_cell? w _ hx206_1)).trans hx206_1))
              replace p206 := eq_true p206
              replace q206 := eq_true q206
              go_wp2_with (first | ((with_reducible refine gate_dst (N := 8) rfl ?_); refine box_event ?hg (N := 8) ?hd (cs := #[.int .i64 0, .int .i64 0]) (t := 69) ?hr ?_; (case hd => rfl); (case hg => rfl); (case hr => first | (go_simp; done) | (go_simp; rfl)); intro gb207 hg w16 hbox hb; have n0_ := Aside0.mk (below_step (by repeat (first | (with_reducible first | exact HB.out | apply below_alloc | apply pw_below_drewN | apply below_drew1) | exact HB.out)) hb); have n1_ := Aside0.mk (hbox); have n2_ := Aside0.mk ((by rw [hg]; exact (below_size (by repeat (first | (with_reducible first | exact HB.out | apply below_alloc | apply pw_below_drewN | apply below_drew1) | exact HB.out))) : w.heap.size ≤ gb207)); have n3_ := Aside0.mk ((by rw [hg]; exact (below_size (by repeat (first | (with_reducible first | exact HB.out | apply below_alloc | apply pw_below_drewN | apply below_drew1) | exact HB.out))) : w.heap.size ≤ gb207)); clear HB; have HB := n0_; have BK207 := n1_; have GW207 := n2_; have GE207 := n3_; clear n0_ n1_ n2_ n3_; clear hb hbox hg; have hcz17_0 : w16.cell? ⟨gb207, 0, none⟩ = some (.int .i64 0) := (blk_cell BK207.out 0).trans rfl; have hcz17_1 : w16.cell? ⟨gb207, 1, none⟩ = some (.int .i64 0) := (blk_cell BK207.out 1).trans rfl; have hfz17_0 := blk_frozen BK207.out 0; have hfz17_1 := blk_frozen BK207.out 1))
              go_roundg k1
              case measure => have := HK1.out; omega
              case rel => exact ⟨(wrap64 (x13_1 + 1)), (by first | rfl | (simp; done) | (simp [*]; done)), H', ⟨by have := HK1.out; omega⟩, ⟨by repeat (first | (with_reducible first | exact HB.out | apply below_alloc | apply pw_below_drewN | apply below_drew1 | refine below_set ?_ GE207.out) | exact HB.out)⟩⟩
          · rw [if_neg c6] at H
            exact absurd H (by simp)
        · rw [if_neg c5] at H
          exact absurd H (by simp)
      · rw [if_neg c4] at H
        have c4b0 : decide (x13_1 < (l0.length : Int)) = false := decide_eq_false c4
        clear c4
        obtain rfl := Option.some.inj H
        go_wp2
        go_ret
        exact ⟨by first | rfl | (simp [errW_none, errW_some] <;> rfl) | (simp [*, errW_none, errW_some] <;> rfl), by repeat (first | (with_reducible first | exact HB.out | apply below_alloc | apply pw_below_drewN | apply below_drew1) | exact HB.out)⟩

/-! ### impl_SeparateOnes: function 19 -/
def impl_SeparateOnes.long (list best : List Int) : List Int := if best.length < list.length then list else best
def impl_SeparateOnes.l : Nat → List (S69) → List Int → List Int → List Int → Int → Option (List Int)
  | 0, _, _, _, _, _ => none
  | k + 1, ps, vs, list, best, i =>
    if i < (vs.length : Int) then (if 0 ≤ i then
      (if wrap64 (wrap64 ((list.length : Int) + (vs.length : Int)) - i) ≤ (best.length : Int) then some best else
        (if rd vs i = 1 then impl_isSeparate.f k ps list i else some false).bind fun t =>
          (if t = true then (if list.length ≤ 1000 then ((impl_SeparateOnes.l k ps vs (list ++ [i]) (impl_SeparateOnes.long (list ++ [i]) best) (wrap64 (i + 1))).bind fun b => (if b.length ≤ 1000 then impl_SeparateOnes.l k ps vs list b (wrap64 (i + 1)) else none)) else none)
           else impl_SeparateOnes.l k ps vs list best (wrap64 (i + 1)))) else none) else some best
theorem impl_SeparateOnes.mono_l : ∀ k ps vs list best i, LeO (impl_SeparateOnes.l k ps vs list best i) (impl_SeparateOnes.l (k + 1) ps vs list best i)
  | 0, _, _, _, _, _ => fun r h => by simp [impl_SeparateOnes.l] at h
  | k + 1, ps, vs, list, best, i => by
    have ih := impl_SeparateOnes.mono_l k
    unfold impl_SeparateOnes.l
    refine LeO.ite (LeO.ite (LeO.ite (LeO.refl _) (LeO.bind (LeO.ite (impl_isSeparate.mono _ _ _ _) (LeO.refl _)) (fun t => LeO.ite (LeO.ite (LeO.bind (ih _ _ _ _ _) (fun b => LeO.ite (ih _ _ _ _ _) (LeO.refl _))) (LeO.refl _)) (ih _ _ _ _ _)))) (LeO.refl _)) (LeO.refl _)
def impl_SeparateOnes.f (k : Nat) (a0_0 : Int) (l0_1 : List Int) : Option (List Int × Bool) :=
  (impl_IsTable.f k a0_0 l0_1).bind fun t => if t = true then ((impl_primesOf.f k a0_0 l0_1).bind fun ps => ((impl_SeparateOnes.l k ps l0_1 [] [] 0).bind fun b => some (b, true))) else some ([], false)
theorem impl_SeparateOnes.mono : ∀ a0 a1 k, LeO (impl_SeparateOnes.f k a0 a1) (impl_SeparateOnes.f (k + 1) a0 a1) := fun a0 a1 k =>
  LeO.bind (impl_IsTable.mono a0 a1 k) (fun t => LeO.ite (LeO.bind (impl_primesOf.mono a0 a1 k) (fun ps => LeO.bind (impl_SeparateOnes.mono_l k _ _ _ _ _) (fun _ => LeO.refl _))) (LeO.refl _))
open Go.Proofs.Ytfpjnomiifagkaa.Sep in
def impl_SeparateOnes.items (gb gt gp gx : Nat) (vl vb vp : Value) (list best : List Int) (n : Int) (Av : Option Addr) (cv : Nat) (vs : List Int) (ps : List (S69)) (F : List Sep.Item) : List Sep.Item :=
  Item.row (Kd.int .i64) 3 vl list :: Item.box gb 24 #[vb] :: Item.row (Kd.int .i64) 3 vb best :: Item.box gt 37 #[.int .i64 n, .slice Av vs.length cv] :: Item.box gp 52 #[vp] :: Item.row k69 69 vp ps :: Item.box gx 57 #[.func (.func 41) #[] #[.pointer (some ⟨gb, 0, none⟩), .pointer (some ⟨gt, 0, none⟩), .pointer (some ⟨gp, 0, none⟩), .pointer (some ⟨gx, 0, none⟩)]] :: F
open Go.Proofs.Ytfpjnomiifagkaa.Sep in
set_option maxHeartbeats 8000000 in
set_option maxRecDepth 100000 in
theorem impl_SeparateOnes.ext (n : Int) (Av : Option Addr) (cv : Nat) (vs : List Int) (ps : List (S69)) (w0 : World) (hC : Kd.C (Kd.int .i64) w0 Av vs.length vs) (hcv : vs.length ≤ cv) (gb gt gp gx : Nat) (vp : Value) :
    ∀ (K k : Nat), k ≤ K → ∀ (list best : List Int) (i : Int) (w : World) (vl vb : Value) (F : List Sep.Item) (r : List Int) (_h : Own w0 w (impl_SeparateOnes.items gb gt gp gx vl vb vp list best n Av cv vs ps F))
      (_hl : list.length ≤ 1001) (_hb : best.length ≤ 1001) (_hr : impl_SeparateOnes.l k ps vs list (impl_SeparateOnes.long list best) i = some r),
      Calls Try.prog 41 #[vl, .int .i64 i, .pointer (some ⟨gb, 0, none⟩), .pointer (some ⟨gt, 0, none⟩), .pointer (some ⟨gp, 0, none⟩), .pointer (some ⟨gx, 0, none⟩)] w fun e w' => e = .returned (.tuple #[]) ∧ ∃ vb', Own w0 w' (impl_SeparateOnes.items gb gt gp gx vl vb' vp list r n Av cv vs ps F) := by
  have HC := Aside0.mk hC
  have HCV := Aside0.mk hcv
  clear hC hcv
  intro K
  induction K with
  | zero =>
    intro k hk list best i w vl vb F r h hl hb hr
    obtain rfl : k = 0 := by omega
    exact absurd hr (by simp [impl_SeparateOnes.l])
  | succ K ih =>
    intro k hk list best i w vl vb F r h hl hb hr
    have IH := Aside0.mk ih
    clear ih
    obtain ⟨Al, cl, rfl⟩ := h.row_slice 0 rfl
    obtain ⟨Ab, cb, rfl⟩ := h.row_slice 2 rfl
    have HO := Aside0.mk h
    have HL := Aside0.mk hl
    have HBL := Aside0.mk hb
    have HR := Aside0.mk hr
    have HK := Aside0.mk hk
    clear hl hb hr hk
    have z1 : w.cell? ⟨gb, 0, none⟩ = some (.slice Ab best.length cb) := h.cell 1 rfl 0 rfl
    have zf := h.free 1 rfl 0
    clear h
    go_enter Try.func41, Try.ntmps41
    go_upto_if 13 with (fail)
    (try simp only [Act.put, List.setIfInBounds_toArray, List.set_cons_zero, List.set_cons_succ])
    go_cut [] (fun wc => ∃ vb1, Aside0 (Own w0 wc (impl_SeparateOnes.items gb gt gp gx (.slice Al list.length cl) vb1 vp list (impl_SeparateOnes.long list best) n Av cv vs ps F)))
    case first =>
      by_cases c : best.length < list.length
      · have cb1 := decide_eq_true c
        clear c
        (first | rw [cb1] | skip)
        go_wp2_with (first | ((with_reducible refine gate_dst (N := 14) rfl ?_); refine Sep.own_lit0 (Kd.int .i64) HO.out 3 ?hg (N := 14) ?hd ?hr ?_; (case hd => rfl); (case hg => rfl); (case hr => first | (go_simp; done) | (go_simp; rfl)); intro v1 w1 ho _; have HO1 := Aside0.mk ho; clear ho) | ((with_reducible refine gate_dst (N := 16) rfl ?_); refine Sep.own_append_all (Value.int .i64) (0 : Int) HO1.out 0 v1 [] 3 rfl rfl (.tmp 14) (.tmp 15) 24 (.int .i64 0) 8 rfl Try.underlying24 info3 rfl (by omega) list Al list.length cl rfl rfl (HO1.out.row_reads 1 rfl).2.2 (by have := HL.out; simp; omega) ?_; intro v2 w2 ho; obtain ⟨A2, c2, rfl⟩ := ho.row_slice 0 rfl; have HO2 := Aside0.mk ho; clear ho) | ((with_reducible refine gate_store (t := 24) (p := 2) (v := .tmp 16) rfl ?_); refine Sep.own_store HO2.out 2 gb 24 _ #[.slice A2 ([] ++ list : List Int).length c2] rfl rfl rfl 24 (.tmp 2) (.tmp 16) rfl rfl _ rfl rfl rfl (by kernel_rfl) (by simp [Value.oneCell']) ?_; intro w3 ho; have HO3 := Aside0.mk ho; clear ho))
        go_meet
        case rel => exact ⟨_, ⟨by unfold impl_SeparateOnes.long; rw [if_pos (by have := of_decide_eq_true cb1; omega)]; exact (((HO3.out.into 2 (by simp [impl_SeparateOnes.items])).front 3 rfl).tail)⟩⟩
      · have cb1 := decide_eq_false c
        (first | rw [cb1] | skip)
        go_wp2
        go_meet
        case rel => exact ⟨_, ⟨by unfold impl_SeparateOnes.long; rw [if_neg (by omega)]; exact HO.out⟩⟩
    case rest =>
      obtain ⟨vb1, HO⟩ := hcut
      clear z1 zf
      have HLO := Aside0.mk (show (impl_SeparateOnes.long list best).length ≤ 1001 from by have := HL.out; have := HBL.out; unfold impl_SeparateOnes.long; split <;> omega)
      generalize impl_SeparateOnes.long list best = best0 at HO HLO HR
      clear HBL
      go_wp2
      go_loopg [8] k (fun kq v8 w' => ∃ (best1 : List Int) (vb1 : Value) (i1 : Int), v8 = .int .i64 i1 ∧ Aside0 (impl_SeparateOnes.l kq ps vs list best1 i1 = some r) ∧ Aside0 (kq ≤ k) ∧ Aside0 (Own w0 w' (impl_SeparateOnes.items gb gt gp gx (.slice Al list.length cl) vb1 vp list best1 n Av cv vs ps F)) ∧ Aside0 (best1.length ≤ 1001))
      case atStart => exact ⟨_, _, i, (by first | rfl | (simp; done) | (simp [*]; done)), HR, ⟨Nat.le_refl _⟩, HO, HLO⟩
      case round =>
        clear HR HO HLO
        obtain ⟨best1, vb1, i1, rfl, HA, HK1, HO, HB1⟩ := hrel
        cases gk with
        | zero => exact absurd HA.out (by simp [impl_SeparateOnes.l])
        | succ k1 =>
          have H := HA.out
          clear HA
          simp only [impl_SeparateOnes.l] at H
          obtain ⟨Ab, cb, rfl⟩ := HO.out.row_slice 2 rfl
          have zt1 : wr.cell? ⟨gt, 1, none⟩ = some (.slice Av vs.length cv) := HO.out.cell 3 rfl 1 rfl
          have zb : wr.cell? ⟨gb, 0, none⟩ = some (.slice Ab best1.length cb) := HO.out.cell 1 rfl 0 rfl
          have zp : wr.cell? ⟨gp, 0, none⟩ = some vp := HO.out.cell 4 rfl 0 rfl
          by_cases c1 : i1 < (vs.length : Int)
          · rw [if_pos c1] at H
            by_cases c2 : 0 ≤ i1
            · rw [if_pos c2] at H
              have c1b := decide_eq_true c1
              by_cases c3 : wrap64 (wrap64 ((list.length : Int) + (vs.length : Int)) - i1) ≤ (best1.length : Int)
              · rw [if_pos c3] at H
                obtain rfl := Option.some.inj H
                have c3b := decide_eq_true c3
                clear c3
                go_wp2
                (try simp only [Exit.inBlock, Exit.then])
                refine bodyPost_ret (results_none rfl _ _ _) rfl ?_
                exact ⟨rfl, _, HO.out⟩
              · rw [if_neg c3] at H
                have c3b := decide_eq_false c3
                clear c3
                obtain ⟨t, HA1, H1⟩ := Option.bind_eq_some_iff.mp H; clear H; have H := H1; clear H1
                obtain ⟨ad1, e1, hx1⟩ := Kd.at_int (Kd.C_below HC.out HO.out.base) i1 c2 c1
                cases e1
                have p1 : (0 ≤ i1) = True := eq_true c2
                have q1 : (i1 < (vs.length : Int)) = True := eq_true c1
                by_cases c4 : rd vs i1 = 1
                · rw [if_pos c4] at HA1
                  have c4b := beq_iff_eq.mpr c4
                  clear c4
                  have HA2 := Aside0.mk HA1
                  clear HA1
                  obtain ⟨Ap, cp, rfl⟩ := HO.out.row_slice 5 rfl
                  cases t with
                  | false =>
                    replace H : impl_SeparateOnes.l k1 ps vs list best1 (wrap64 (i1 + 1)) = some r := H
                    have H' := Aside0.mk H
                    clear H
                    go_wp2_with (first | (go_at_call 42; (with_reducible refine (impl_isSeparate.calls k1 _ _ ps _ _ list i1 _ _ ?s1 ?s2 ?s3 ?s4 HA2.out).mono ?_); (case s1 => exact (HO.out.row_reads 5 rfl).2.2); (case s2 => exact (HO.out.row_reads 5 rfl).2.1); (case s3 => exact (HO.out.row_reads 0 rfl).2.2); (case s4 => exact (HO.out.row_reads 0 rfl).2.1); rintro e wc1 ⟨rfl, hb⟩; have HOn := Aside0.mk (HO.out.below hb); clear hb HO; have HO := HOn; clear HOn))
                    go_roundg k1
                    case measure => have := HK1.out; omega
                    case rel => exact ⟨best1, _, wrap64 (i1 + 1), (by first | rfl | (simp; done) | (simp [*]; done)), H', ⟨by have := HK1.out; omega⟩, HO, HB1⟩
                  | true =>
                    replace H : (if list.length ≤ 1000 then ((impl_SeparateOnes.l k1 ps vs (list ++ [i1]) (impl_SeparateOnes.long (list ++ [i1]) best1) (wrap64 (i1 + 1))).bind fun b => (if b.length ≤ 1000 then impl_SeparateOnes.l k1 ps vs list b (wrap64 (i1 + 1)) else none)) else none) = some r := H
                    by_cases c5 : list.length ≤ 1000
                    · rw [if_pos c5] at H
                      obtain ⟨b, HA3, H1⟩ := Option.bind_eq_some_iff.mp H; clear H; have H := H1; clear H1
                      by_cases c6 : b.length ≤ 1000
                      · rw [if_pos c6] at H
                        go_wp2_with (first | (go_at_call 42; (with_reducible refine (impl_isSeparate.calls k1 _ _ ps _ _ list i1 _ _ ?s1 ?s2 ?s3 ?s4 HA2.out).mono ?_); (case s1 => exact (HO.out.row_reads 5 rfl).2.2); (case s2 => exact (HO.out.row_reads 5 rfl).2.1); (case s3 => exact (HO.out.row_reads 0 rfl).2.2); (case s4 => exact (HO.out.row_reads 0 rfl).2.1); rintro e wc1 ⟨rfl, hb⟩; have HOn := Aside0.mk (HO.out.below hb); clear hb HO; have HO := HOn; clear HOn))
                        have HA2 := Aside0.mk HA3
                        clear HA3
                        have HOd := Aside0.mk (HO.out.drew)
                        clear HO
                        have HO := HOd
                        clear HOd
                        refine start_ (n := 10) (S := fun w' => w'.cell? ⟨gx, 0, none⟩ = some (.func (.func 41) #[] #[.pointer (some ⟨gb, 0, none⟩), .pointer (some ⟨gt, 0, none⟩), .pointer (some ⟨gp, 0, none⟩), .pointer (some ⟨gx, 0, none⟩)])) (ds := []) #[false, false, false, false, false, false, false, false, false, false] (by kernel_rfl) rfl rfl (HO.out.cell 6 rfl 0 rfl) (fun hHeld => ?_)
                        generalize wc1.drew = wd at HO hHeld ⊢
                        refine take_ (i := 0) (N := some 48) (v := ?_) (a' := ?_) #[true, false, false, false, false, false, false, false, false, false] rfl rfl (by kernel_rfl) (fun _ _ _ h => h) (Or.inl ⟨by rfl, ?_⟩) hHeld ?_ ?_
                        rotate_left
                        · rintro w' s0
                          go_simp
                          with_reducible rfl
                        rotate_left
                        · simp only [Act.put, putAll, List.setIfInBounds_toArray, List.set_cons_zero, List.set_cons_succ, i64_w, i32_w]
                          rfl
                        refine pure_ (i := 2) (N := some 50) (v := ?_) (a' := ?_) #[true, false, true, false, false, false, false, false, false, false] rfl rfl (by kernel_rfl) (fun _ _ _ h => h) (Or.inl ⟨by rfl, ?_⟩) ?_ ?_
                        rotate_left
                        · intro w'
                          go_simp
                          with_reducible rfl
                        rotate_left
                        · simp only [Act.put, putAll, List.setIfInBounds_toArray, List.set_cons_zero, List.set_cons_succ, i64_w, i32_w]
                          rfl
                        refine pure_ (i := 4) (N := some 52) (v := ?_) (a' := ?_) #[true, false, true, false, true, false, false, false, false, false] rfl rfl (by kernel_rfl) (fun _ _ _ h => h) (Or.inl ⟨by rfl, ?_⟩) ?_ ?_
                        rotate_left
                        · intro w'
                          go_simp
                          with_reducible rfl
                        rotate_left
                        · simp only [Act.put, putAll, List.setIfInBounds_toArray, List.set_cons_zero, List.set_cons_succ, i64_w, i32_w]
                          rfl
                        refine pure_ (i := 7) (N := some 55) (v := ?_) (a' := ?_) #[true, false, true, false, true, false, false, true, false, false] rfl rfl (by kernel_rfl) (fun _ _ _ h => h) (Or.inl ⟨by rfl, ?_⟩) ?_ ?_
                        rotate_left
                        · intro w'
                          go_simp
                          with_reducible rfl
                        rotate_left
                        · simp only [Act.put, putAll, List.setIfInBounds_toArray, List.set_cons_zero, List.set_cons_succ, i64_w, i32_w]
                          rfl
                        refine pure_ (i := 8) (N := some 56) (v := ?_) (a' := ?_) #[true, false, true, false, true, false, false, true, true, false] rfl rfl (by kernel_rfl) (fun _ _ _ h => h) (Or.inl ⟨by rfl, ?_⟩) ?_ ?_
                        rotate_left
                        · intro w'
                          go_simp
                          with_reducible rfl
                        rotate_left
                        · simp only [Act.put, putAll, List.setIfInBounds_toArray, List.set_cons_zero, List.set_cons_succ, i64_w, i32_w]
                          rfl
                        refine join_ (σ := Value × Value × Value) 2 #[true, true, true, true, true, true, false, true, true, false] (fun s => [(49, s.1), (51, s.2.1), (53, s.2.2)]) (fun s w' => w'.cell? ⟨gx, 0, none⟩ = some (.func (.func 41) #[] #[.pointer (some ⟨gb, 0, none⟩), .pointer (some ⟨gt, 0, none⟩), .pointer (some ⟨gp, 0, none⟩), .pointer (some ⟨gx, 0, none⟩)]) ∧ Own w0 w' (Item.row (Kd.int .i64) 3 s.2.1 ([] ++ list) :: Item.row (Kd.int .i64) 3 s.2.2 [i1] :: (impl_SeparateOnes.items gb gt gp gx (.slice Al list.length cl) (.slice Ab best1.length cb) (.slice Ap ps.length cp) list best1 n (some ad1) cv vs ps F))) ?_ (fun hjoin => ?_)
                        rotate_left
                        · refine two_ (i := 1) (j := 5) (Ni := some 49) (Nj := some 53) #[true, true, true, false, true, false, false, true, true, false] #[true, false, true, false, true, true, false, true, true, false] rfl rfl rfl rfl (by kernel_rfl) (by decide) (by decide) (fun K hK => ?_) (fun K hK => ?_)
                          · refine Sep.own_lit0_step (Kd.int .i64) HO.out 3 (by rfl) (N := 49) rfl (by first | (go_simp; done) | (go_simp; rfl)) ?_
                            intro v49 w1 ho _
                            have HO1 := Aside0.mk ho; clear ho
                            refine hK.out _ _ (HO1.out.cell 7 rfl 0 rfl) (fun hHeld => ?_)
                            clear hK K
                            refine norm_ (a' := ?_) ?_ ?_
                            rotate_left
                            · show Act.put _ (some 49) _ = _
                              simp only [Act.put, List.setIfInBounds_toArray, List.set_cons_zero, List.set_cons_succ, i64_w, i32_w]
                              rfl
                            refine two_ (i := 3) (j := 5) (Ni := some 51) (Nj := some 53) #[true, true, true, true, true, false, false, true, true, false] #[true, true, true, false, true, true, false, true, true, false] rfl rfl rfl rfl (by kernel_rfl) (by decide) (by decide) (fun K hK => ?_) (fun K hK => ?_)
                            · refine Sep.own_append_all_step (Value.int .i64) (0 : Int) HO1.out 0 v49 [] 3 rfl (by rfl) (.tmp 49) (.tmp 50) 24 (.int .i64 0) 8 rfl Try.underlying24 info3 rfl (by omega) list Al list.length cl rfl rfl (HO1.out.row_reads 1 rfl).2.2 (by have := HL.out; simp; omega) ?_
                              intro v51 w2 ho
                              have HO2 := Aside0.mk ho; clear ho
                              refine hK.out _ _ (HO2.out.cell 7 rfl 0 rfl) (fun hHeld => ?_)
                              clear hK K
                              refine norm_ (a' := ?_) ?_ ?_
                              rotate_left
                              · show Act.put _ (some 51) _ = _
                                simp only [Act.put, List.setIfInBounds_toArray, List.set_cons_zero, List.set_cons_succ, i64_w, i32_w]
                                rfl
                              refine one_ (i := 5) (N := some 53) #[true, true, true, true, true, true, false, true, true, false] rfl rfl (by kernel_rfl) (by decide) (fun K hK => ?_)
                              refine Sep.own_lit1_step (Value.int .i64) (h1 := fun _ => rfl) HO2.out 3 i1 (by rfl) (N := 53) rfl (by first | (go_simp; done) | (go_simp; rfl)) ?_
                              intro v53 w3 ho _
                              have HO3 := Aside0.mk ho; clear ho
                              refine hK.out _ _ (HO3.out.cell 8 rfl 0 rfl) (fun hHeld => ?_)
                              clear hK K
                              refine norm_ (a' := ?_) ?_ ?_
                              rotate_left
                              · show Act.put _ (some 53) _ = _
                                simp only [Act.put, List.setIfInBounds_toArray, List.set_cons_zero, List.set_cons_succ, i64_w, i32_w]
                                rfl
                              exact hjoin (v49, v51, v53) _ ⟨(HO3.out.cell 8 rfl 0 rfl), (HO3.out.front 1 rfl)⟩
                            · refine Sep.own_lit1_step (Value.int .i64) (h1 := fun _ => rfl) HO1.out 3 i1 (by rfl) (N := 53) rfl (by first | (go_simp; done) | (go_simp; rfl)) ?_
                              intro v53 w2 ho _
                              have HO2 := Aside0.mk ho; clear ho
                              refine hK.out _ _ (HO2.out.cell 8 rfl 0 rfl) (fun hHeld => ?_)
                              clear hK K
                              refine norm_ (a' := ?_) ?_ ?_
                              rotate_left
                              · show Act.put _ (some 53) _ = _
                                simp only [Act.put, List.setIfInBounds_toArray, List.set_cons_zero, List.set_cons_succ, i64_w, i32_w]
                                rfl
                              refine one_ (i := 3) (N := some 51) #[true, true, true, true, true, true, false, true, true, false] rfl rfl (by kernel_rfl) (by decide) (fun K hK => ?_)
                              refine Sep.own_append_all_step (Value.int .i64) (0 : Int) HO2.out 1 v49 [] 3 rfl (by rfl) (.tmp 49) (.tmp 50) 24 (.int .i64 0) 8 rfl Try.underlying24 info3 rfl (by omega) list Al list.length cl rfl rfl (HO2.out.row_reads 2 rfl).2.2 (by have := HL.out; simp; omega) ?_
                              intro v51 w3 ho
                              have HO3 := Aside0.mk ho; clear ho
                              refine hK.out _ _ (HO3.out.cell 8 rfl 0 rfl) (fun hHeld => ?_)
                              clear hK K
                              refine norm_ (a' := ?_) ?_ ?_
                              rotate_left
                              · show Act.put _ (some 51) _ = _
                                simp only [Act.put, List.setIfInBounds_toArray, List.set_cons_zero, List.set_cons_succ, i64_w, i32_w]
                                rfl
                              exact hjoin (v49, v51, v53) _ ⟨(HO3.out.cell 8 rfl 0 rfl), (HO3.out.front 1 rfl)⟩
                          · refine Sep.own_lit1_step (Value.int .i64) (h1 := fun _ => rfl) HO.out 3 i1 (by rfl) (N := 53) rfl (by first | (go_simp; done) | (go_simp; rfl)) ?_
                            intro v53 w1 ho _
                            have HO1 := Aside0.mk ho; clear ho
                            refine hK.out _ _ (HO1.out.cell 7 rfl 0 rfl) (fun hHeld => ?_)
                            clear hK K
                            refine norm_ (a' := ?_) ?_ ?_
                            rotate_left
                            · show Act.put _ (some 53) _ = _
                              simp only [Act.put, List.setIfInBounds_toArray, List.set_cons_zero, List.set_cons_succ, i64_w, i32_w]
                              rfl
                            refine one_ (i := 1) (N := some 49) #[true, true, true, false, true, true, false, true, true, false] rfl rfl (by kernel_rfl) (by decide) (fun K hK => ?_)
                            refine Sep.own_lit0_step (Kd.int .i64) HO1.out 3 (by rfl) (N := 49) rfl (by first | (go_simp; done) | (go_simp; rfl)) ?_
                            intro v49 w2 ho _
                            have HO2 := Aside0.mk ho; clear ho
                            refine hK.out _ _ (HO2.out.cell 8 rfl 0 rfl) (fun hHeld => ?_)
                            clear hK K
                            refine norm_ (a' := ?_) ?_ ?_
                            rotate_left
                            · show Act.put _ (some 49) _ = _
                              simp only [Act.put, List.setIfInBounds_toArray, List.set_cons_zero, List.set_cons_succ, i64_w, i32_w]
                              rfl
                            refine one_ (i := 3) (N := some 51) #[true, true, true, true, true, true, false, true, true, false] rfl rfl (by kernel_rfl) (by decide) (fun K hK => ?_)
                            refine Sep.own_append_all_step (Value.int .i64) (0 : Int) HO2.out 0 v49 [] 3 rfl (by rfl) (.tmp 49) (.tmp 50) 24 (.int .i64 0) 8 rfl Try.underlying24 info3 rfl (by omega) list Al list.length cl rfl rfl (HO2.out.row_reads 2 rfl).2.2 (by have := HL.out; simp; omega) ?_
                            intro v51 w3 ho
                            have HO3 := Aside0.mk ho; clear ho
                            refine hK.out _ _ (HO3.out.cell 8 rfl 0 rfl) (fun hHeld => ?_)
                            clear hK K
                            refine norm_ (a' := ?_) ?_ ?_
                            rotate_left
                            · show Act.put _ (some 51) _ = _
                              simp only [Act.put, List.setIfInBounds_toArray, List.set_cons_zero, List.set_cons_succ, i64_w, i32_w]
                              rfl
                            exact hjoin (v49, v51, v53) _ ⟨(HO3.out.cell 8 rfl 0 rfl), HO3.out⟩
                        · rintro ⟨v49, v51, v53⟩ wj ⟨hx, ho⟩
                          have HOJ := Aside0.mk ho; clear ho
                          obtain ⟨A53, c53, rfl⟩ := HOJ.out.row_slice 1 rfl
                          obtain ⟨A51, c51, rfl⟩ := HOJ.out.row_slice 0 rfl
                          refine norm_ (a' := ?_) ?_ ?_
                          rotate_left
                          · simp only [Act.put, putAll, List.setIfInBounds_toArray, List.set_cons_zero, List.set_cons_succ, i64_w, i32_w]
                            rfl
                          refine one_ (i := 6) (N := some 54) #[true, true, true, true, true, true, true, true, true, false] rfl rfl (by kernel_rfl) (by decide) (fun K hK => ?_)
                          refine Sep.own_append_all_step (Value.int .i64) (0 : Int) HOJ.out 0 _ _ 3 rfl (by rfl) (.tmp 51) (.tmp 53) 24 (.int .i64 0) 8 rfl Try.underlying24 info3 rfl (by omega) [i1] A53 1 c53 rfl rfl (HOJ.out.row_reads 1 rfl).2.2 (by have := HL.out; simp; omega) ?_
                          intro v54 w6 ho
                          have HO6 := Aside0.mk ((((ho.front 1 rfl).tail).front 1 rfl).into 7 (by simp [impl_SeparateOnes.items])); clear ho
                          refine hK.out _ _ (HO6.out.cell 6 rfl 0 rfl) (fun hHeld => ?_)
                          clear hK K
                          refine norm_ (a' := ?_) ?_ ?_
                          rotate_left
                          · show Act.put _ (some 54) _ = _
                            simp only [Act.put, List.setIfInBounds_toArray, List.set_cons_zero, List.set_cons_succ, i64_w, i32_w]
                            rfl
                          refine one_ (i := 9) (N := some 57) #[true, true, true, true, true, true, true, true, true, true] rfl rfl (by kernel_rfl) (by decide) (fun K hK => ?_)
                          refine Sep.goesC_ (f := 41) Try.func41 (by kernel_rfl) rfl #[v54, .int .i64 (wrap64 (i1 + 1)), .pointer (some ⟨gb, 0, none⟩), .pointer (some ⟨gt, 0, none⟩), .pointer (some ⟨gp, 0, none⟩), .pointer (some ⟨gx, 0, none⟩)] (by rfl) rfl rfl rfl (by (try simp only [List.map_toArray, List.map_cons, List.map_nil]); first | done | rfl) ?_
                          refine (IH.out k1 (by have := HK.out; have := HK1.out; omega) (list ++ [i1]) best1 (wrap64 (i1 + 1)) w6 v54 _ (Item.row (Kd.int .i64) 3 (.slice Al list.length cl) list :: F) b HO6.out (by simp; omega) HB1.out HA2.out).mono ?_
                          rintro e w7 ⟨rfl, vb2, ho⟩
                          refine ⟨_, rfl, ?_⟩
                          have HO7 := Aside0.mk ((ho.tail).front 6 rfl); clear ho
                          refine hK.out _ _ (HO7.out.cell 6 rfl 0 rfl) (fun hHeld => ?_)
                          clear hK K
                          refine norm_ (a' := ?_) ?_ ?_
                          rotate_left
                          · show Act.put _ (some 57) _ = _
                            simp only [Act.put, List.setIfInBounds_toArray, List.set_cons_zero, List.set_cons_succ, i64_w, i32_w]
                            rfl
                          refine done_ (by kernel_rfl) ?_
                          go_wp2
                          go_roundg k1
                          case measure => have := HK1.out; omega
                          case rel => exact ⟨b, vb2, wrap64 (i1 + 1), (by first | rfl | (simp; done) | (simp [*]; done)), ⟨H⟩, ⟨by have := HK1.out; omega⟩, HO7, ⟨by omega⟩⟩
                      · rw [if_neg c6] at H
                        exact absurd H (by simp)
                    · rw [if_neg c5] at H
                      exact absurd H (by simp)
                · rw [if_neg c4] at HA1
                  have c4b := beq_eq_false_iff_ne.mpr c4
                  clear c4
                  obtain rfl := Option.some.inj HA1
                  clear HA1
                  replace H : impl_SeparateOnes.l k1 ps vs list best1 (wrap64 (i1 + 1)) = some r := H
                  have H' := Aside0.mk H
                  clear H
                  go_wp2
                  go_roundg k1
                  case measure => have := HK1.out; omega
                  case rel => exact ⟨best1, _, wrap64 (i1 + 1), (by first | rfl | (simp; done) | (simp [*]; done)), H', ⟨by have := HK1.out; omega⟩, HO, HB1⟩
            · rw [if_neg c2] at H
              exact absurd H (by simp)
          · rw [if_neg c1] at H
            have c1b := decide_eq_false c1
            obtain rfl := Option.some.inj H
            go_wp2
            go_end0
            exact ⟨rfl, _, HO.out⟩
open Go.Proofs.Ytfpjnomiifagkaa.Sep in
set_option maxHeartbeats 8000000 in
set_option maxRecDepth 100000 in
theorem impl_SeparateOnes.calls (k : Nat) (a0_0 : Int) (A0_1 : Option Addr) (c0_1 : Nat) (l0_1 : List Int) (r1 : List Int) (r2 : Bool) (w : World) (hr0_1 : Kd.C (Kd.int .i64) w A0_1 l0_1.length l0_1) (hc0_1 : l0_1.length ≤ c0_1) (h : impl_SeparateOnes.f k a0_0 l0_1 = some (r1, r2)) :
    Calls Try.prog 19 #[.agg #[.int .i64 a0_0, .slice A0_1 l0_1.length c0_1]] w fun e w' => ∃ v0_ : Value, e = .returned (.tuple #[v0_, .bool r2]) ∧ Kd.R (Kd.int .i64) 3 w' w.heap.size (fun _ => True) v0_ r1 ∧ Below w.heap.size w w' := by
  have hu37 := Try.underlying37
  have HR0_1 := Aside0.mk hr0_1
  have HC0_1 := Aside0.mk hc0_1
  clear hr0_1 hc0_1
  unfold impl_SeparateOnes.f at h
  obtain ⟨t, hA, h1⟩ := Option.bind_eq_some_iff.mp h
  clear h
  have HA := Aside0.mk hA
  clear hA
  cases t with
  | false =>
    have h2 : (([] : List Int), false) = (r1, r2) := Option.some.inj h1
    clear h1
    injection h2 with e1 e2
    subst e1
    subst e2
    go_enter Try.func19, Try.ntmps19
    go_wp2_with (first | ((with_reducible refine gate_dst (N := 1) rfl ?_); refine box_event ?hg (N := 1) ?hd (cs := #[.int .i64 a0_0, .slice A0_1 l0_1.length c0_1]) (t := 37) ?hr ?_; (case hd => rfl); (case hg => rfl); (case hr => first | (go_simp; done) | (go_simp; rfl)); intro gt hg w1 hbox hb; have HO1 := Aside0.mk ((Sep.Own.nil w).add_box (T := 37) (cs := #[.int .i64 a0_0, .slice A0_1 l0_1.length c0_1]) hg hbox hb); have zt0 : w1.cell? ⟨gt, 0, none⟩ = some (.int .i64 a0_0) := HO1.out.cell 0 rfl 0 rfl; have zt1 : w1.cell? ⟨gt, 1, none⟩ = some (.slice A0_1 l0_1.length c0_1) := HO1.out.cell 0 rfl 1 rfl; clear hg hbox hb) | ((with_reducible refine gate_callee (f := 39) rfl ?_); refine goesL_ (some 8) rfl rfl Try.func39 (by kernel_rfl) rfl #[.agg #[.int .i64 a0_0, .slice A0_1 l0_1.length c0_1]] rfl (by (try simp only [List.map_toArray, List.map_cons, List.map_nil]); first | done | rfl) ?_; (with_reducible refine (impl_IsTable.calls k a0_0 _ _ l0_1 _ w1 ?s1 ?s2 HA.out).mono ?_); (case s1 => exact Kd.C_below HR0_1.out HO1.out.base); (case s2 => exact HC0_1.out); rintro e w2 ⟨rfl, hb⟩; refine ⟨_, rfl, ?_⟩; have HO2 := Aside0.mk (HO1.out.below hb); clear hb; clear zt0 zt1; have zt0 : w2.cell? ⟨gt, 0, none⟩ = some (.int .i64 a0_0) := HO2.out.cell 0 rfl 0 rfl; have zt1 : w2.cell? ⟨gt, 1, none⟩ = some (.slice A0_1 l0_1.length c0_1) := HO2.out.cell 0 rfl 1 rfl))
    go_ret2
    exact ⟨_, rfl, Kd.R_nil _ _ _ _ _, HO2.out.base⟩
  | true =>
    replace h1 : ((impl_primesOf.f k a0_0 l0_1).bind fun ps => ((impl_SeparateOnes.l k ps l0_1 [] [] 0).bind fun b => some (b, true))) = some (r1, r2) := h1
    obtain ⟨ps, hA2, h2⟩ := Option.bind_eq_some_iff.mp h1
    obtain ⟨b, hA3, h3⟩ := Option.bind_eq_some_iff.mp h2
    clear h1 h2
    replace h3 := Option.some.inj h3
    injection h3 with e1 e2
    subst e1
    subst e2
    have HA2 := Aside0.mk hA2
    have HA3 := Aside0.mk hA3
    clear hA2 hA3
    go_enter Try.func19, Try.ntmps19
    go_wp2_with (first | ((with_reducible refine gate_dst (N := 1) rfl ?_); refine box_event ?hg (N := 1) ?hd (cs := #[.int .i64 a0_0, .slice A0_1 l0_1.length c0_1]) (t := 37) ?hr ?_; (case hd => rfl); (case hg => rfl); (case hr => first | (go_simp; done) | (go_simp; rfl)); intro gt hg w1 hbox hb; have HO1 := Aside0.mk ((Sep.Own.nil w).add_box (T := 37) (cs := #[.int .i64 a0_0, .slice A0_1 l0_1.length c0_1]) hg hbox hb); have zt0 : w1.cell? ⟨gt, 0, none⟩ = some (.int .i64 a0_0) := HO1.out.cell 0 rfl 0 rfl; have zt1 : w1.cell? ⟨gt, 1, none⟩ = some (.slice A0_1 l0_1.length c0_1) := HO1.out.cell 0 rfl 1 rfl; clear hg hbox hb) | ((with_reducible refine gate_callee (f := 39) rfl ?_); refine goesL_ (some 8) rfl rfl Try.func39 (by kernel_rfl) rfl #[.agg #[.int .i64 a0_0, .slice A0_1 l0_1.length c0_1]] rfl (by (try simp only [List.map_toArray, List.map_cons, List.map_nil]); first | done | rfl) ?_; (with_reducible refine (impl_IsTable.calls k a0_0 _ _ l0_1 _ w1 ?s1 ?s2 HA.out).mono ?_); (case s1 => exact Kd.C_below HR0_1.out HO1.out.base); (case s2 => exact HC0_1.out); rintro e w2 ⟨rfl, hb⟩; refine ⟨_, rfl, ?_⟩; have HO2 := Aside0.mk (HO1.out.below hb); clear hb; clear zt0 zt1; have zt0 : w2.cell? ⟨gt, 0, none⟩ = some (.int .i64 a0_0) := HO2.out.cell 0 rfl 0 rfl; have zt1 : w2.cell? ⟨gt, 1, none⟩ = some (.slice A0_1 l0_1.length c0_1) := HO2.out.cell 0 rfl 1 rfl) | ((with_reducible refine gate_callee (f := 40) rfl ?_); refine goesL_ (some 11) rfl rfl Try.func40 (by kernel_rfl) rfl #[.agg #[.int .i64 a0_0, .slice A0_1 l0_1.length c0_1]] rfl (by (try simp only [List.map_toArray, List.map_cons, List.map_nil]); first | done | rfl) ?_; (with_reducible refine (impl_primesOf.calls k a0_0 _ _ l0_1 _ w2 ?s1 ?s2 HA2.out).mono ?_); (case s1 => exact Kd.C_below HR0_1.out HO2.out.base); (case s2 => exact HC0_1.out); rintro e w3 ⟨vp, rfl, hR, hb⟩; refine ⟨_, rfl, ?_⟩; have ho := (HO2.out.add_row hR hb); obtain ⟨Ap, cp, rfl⟩ := ho.row_slice 0 rfl; have HO3 := Aside0.mk ho; clear ho hR hb) | ((with_reducible refine gate_dst (N := 4) rfl ?_); refine box_event ?hg (N := 4) ?hd (cs := #[.slice none 0 0]) (t := 52) ?hr ?_; (case hd => rfl); (case hg => rfl); (case hr => first | (go_simp; done) | (go_simp; rfl)); intro gp hg w4 hbox hb; have HO4 := Aside0.mk (HO3.out.add_box (T := 52) (cs := #[.slice none 0 0]) hg hbox hb); clear hg hbox hb) | ((with_reducible refine gate_store (t := 52) (p := 4) (v := .tmp 11) rfl ?_); refine Sep.own_store HO4.out 0 gp 52 _ #[.slice Ap ps.length cp] rfl rfl rfl 52 (.tmp 4) (.tmp 11) rfl rfl _ rfl rfl rfl (by kernel_rfl) (by simp [Value.oneCell']) ?_; intro w5 ho; have HO5 := Aside0.mk ho; clear ho) | ((with_reducible refine gate_dst (N := 12) rfl ?_); refine Sep.own_lit0 (Kd.int .i64) HO5.out 3 ?hg (N := 12) ?hd ?hr ?_; (case hd => rfl); (case hg => rfl); (case hr => first | (go_simp; done) | (go_simp; rfl)); intro v1 w6 ho _; obtain ⟨Ab, cb, rfl⟩ := ho.row_slice 0 rfl; have HO6 := Aside0.mk ho; clear ho) | ((with_reducible refine gate_dst (N := 5) rfl ?_); refine box_event ?hg (N := 5) ?hd (cs := #[.slice none 0 0]) (t := 24) ?hr ?_; (case hd => rfl); (case hg => rfl); (case hr => first | (go_simp; done) | (go_simp; rfl)); intro gb hg w7 hbox hb; have HO7 := Aside0.mk (HO6.out.add_box (T := 24) (cs := #[.slice none 0 0]) hg hbox hb); clear hg hbox hb) | ((with_reducible refine gate_store (t := 24) (p := 5) (v := .tmp 12) rfl ?_); refine Sep.own_store HO7.out 0 gb 24 _ #[.slice Ab ([] : List Int).length cb] rfl rfl rfl 24 (.tmp 5) (.tmp 12) rfl rfl _ rfl rfl rfl (by kernel_rfl) (by simp [Value.oneCell']) ?_; intro w8 ho; have HO8 := Aside0.mk ho; clear ho) | ((with_reducible refine gate_dst (N := 6) rfl ?_); refine box_event ?hg (N := 6) ?hd (cs := #[.nilFunc]) (t := 57) ?hr ?_; (case hd => rfl); (case hg => rfl); (case hr => first | (go_simp; done) | (go_simp; rfl)); intro gx hg w9 hbox hb; have HO9 := Aside0.mk (HO8.out.add_box (T := 57) (cs := #[.nilFunc]) hg hbox hb); clear hg hbox hb) | ((with_reducible refine gate_store (t := 57) (p := 6) (v := .tmp 13) rfl ?_); refine Sep.own_store HO9.out 0 gx 57 _ #[.func (.func 41) #[] #[.pointer (some ⟨gb, 0, none⟩), .pointer (some ⟨gt, 0, none⟩), .pointer (some ⟨gp, 0, none⟩), .pointer (some ⟨gx, 0, none⟩)]] rfl rfl rfl 57 (.tmp 6) (.tmp 13) rfl rfl _ rfl rfl rfl (by kernel_rfl) (by simp [Value.oneCell']) ?_; intro w10 ho; have HO10 := Aside0.mk ho; clear ho; have zx : w10.cell? ⟨gx, 0, none⟩ = some (.func (.func 41) #[] #[.pointer (some ⟨gb, 0, none⟩), .pointer (some ⟨gt, 0, none⟩), .pointer (some ⟨gp, 0, none⟩), .pointer (some ⟨gx, 0, none⟩)]) := HO10.out.cell 0 rfl 0 rfl) | ((with_reducible refine gate_dst (N := 15) rfl ?_); (have hown_ : Sep.Own w w10 (impl_SeparateOnes.items gb gt gp gx (.slice none 0 0) (.slice Ab ([] : List Int).length cb) (.slice Ap ps.length cp) [] [] a0_0 A0_1 c0_1 l0_1 ps []) := ((((HO10.out.front 5 rfl).into 3 (by simp)).into 5 (Nat.le_refl 5)).add (Below.refl _ _) (Item.row (Kd.int .i64) 3 (.slice none 0 0) []) (show Kd.R _ _ _ _ _ _ _ from Kd.R_nil _ _ _ _ _)); refine Sep.goesCL_ (some 15) rfl rfl (f := 41) (fn := Try.f41) Try.func41 (by kernel_rfl) rfl #[.slice none 0 0, .int .i64 0, .pointer (some ⟨gb, 0, none⟩), .pointer (some ⟨gt, 0, none⟩), .pointer (some ⟨gp, 0, none⟩), .pointer (some ⟨gx, 0, none⟩)] rfl rfl (by (try simp only [List.map_toArray, List.map_cons, List.map_nil]); first | done | rfl) ?_; (with_reducible refine (impl_SeparateOnes.ext a0_0 A0_1 c0_1 l0_1 ps w HR0_1.out HC0_1.out gb gt gp gx _ k k (Nat.le_refl _) [] [] 0 w10 _ _ [] b hown_ (by simp) (by simp) (by simp only [impl_SeparateOnes.long, ite_self]; exact HA3.out)).mono ?_); rintro e w11 ⟨rfl, vb, ho⟩; refine ⟨_, rfl, ?_⟩; have HO11 := Aside0.mk ho; have zb : w11.cell? ⟨gb, 0, none⟩ = some vb := HO11.out.cell 1 rfl 0 rfl; clear ho)))
    go_ret2
    obtain ⟨P, hP⟩ := HO11.out.get 2 rfl
    exact ⟨_, rfl, Kd.R_mono hP (fun _ _ => trivial), HO11.out.base⟩

/-! ### laws_eqTable: function 20 -/
def laws_eqTable.f (k : Nat) (a0_0 : Int) (l0_1 : List Int) (a1_0 : Int) (l1_1 : List Int) : Option (Bool) := if a0_0 = a1_0 then ((laws_eqIntS.f k l0_1 l1_1).bind fun t211 => (if t211 = true then (some true) else (some false))) else (some false)
theorem laws_eqTable.mono : ∀ a0 a1 a2 a3 k, LeO (laws_eqTable.f k a0 a1 a2 a3) (laws_eqTable.f (k + 1) a0 a1 a2 a3) := by
  intro a0 a1 a2 a3 k
  unfold laws_eqTable.f
  repeat' first
      | (with_reducible exact laws_eqIntS.mono _ _ _)
      | (with_reducible exact LeO.refl _)
      | (with_reducible exact LeO.none _)
      | (with_reducible refine LeO.ite ?_ ?_)
      | (with_reducible refine LeO.bind ?_ (fun _ => ?_))
      | exact laws_eqIntS.mono _ _ _
      | exact LeO.none _
      | refine LeO.ite ?_ ?_
      | refine LeO.bind ?_ (fun _ => ?_)
set_option maxHeartbeats 8000000 in
set_option maxRecDepth 100000 in
theorem laws_eqTable.calls (k : Nat) (a0_0 : Int) (A0_1 : Option Addr) (c0_1 : Nat) (l0_1 : List Int) (a1_0 : Int) (A1_1 : Option Addr) (c1_1 : Nat) (l1_1 : List Int) (r : Bool) (w : World) (hr0_1 : Kd.C (Kd.int .i64) w A0_1 l0_1.length l0_1) (hc0_1 : l0_1.length ≤ c0_1) (hr1_1 : Kd.C (Kd.int .i64) w A1_1 l1_1.length l1_1) (hc1_1 : l1_1.length ≤ c1_1) (h : laws_eqTable.f k a0_0 l0_1 a1_0 l1_1 = some r) :
    Calls Try.prog 20 #[.agg #[.int .i64 a0_0, .slice A0_1 l0_1.length c0_1], .agg #[.int .i64 a1_0, .slice A1_1 l1_1.length c1_1]] w fun e w' => e = .returned (.bool r) ∧ Below w.heap.size w w' := by
  have hu37 := Try.underlying37
  have HR0_1 := Aside0.mk hr0_1
  have HC0_1 := Aside0.mk hc0_1
  clear hr0_1 hc0_1
  have HR1_1 := Aside0.mk hr1_1
  have HC1_1 := Aside0.mk hc1_1
  clear hr1_1 hc1_1
  have HB := Aside0.mk (Below.refl w.heap.size w)
  have H : (if a0_0 = a1_0 then ((laws_eqIntS.f k l0_1 l1_1).bind fun t211 => (if t211 = true then (some true) else (some false))) else (some false)) = some r := h
  clear h
  by_cases c3 : a0_0 = a1_0
  · rw [if_pos c3] at H
    have c3b0 : (a0_0 == a1_0) = true := beq_iff_eq.mpr c3
    have c3b1 : (a0_0 != a1_0) = false := bne_eq_false_iff_eq.mpr c3
    clear c3
    replace H := Option.bind_eq_some_iff.mp H
    obtain ⟨t211, A40, H⟩ := H
    replace H : (if t211 = true then (some true) else (some false)) = some r := H
    have A4 := Aside0.mk A40
    clear A40
    by_cases c5 : t211 = true
    · subst c5
      have H1 : (some true) = some r := by rw [if_pos rfl] at H; exact H
      clear H
      have H := H1
      clear H1
      obtain rfl := Option.some.inj H
      go_enter Try.func20, Try.ntmps20
      go_wp2_with (first | ((with_reducible refine gate_dst (N := 2) rfl ?_); refine box_event ?hg (N := 2) ?hd (cs := #[.int .i64 a0_0, .slice A0_1 l0_1.length c0_1]) (t := 37) ?hr ?_; (case hd => rfl); (case hg => rfl); (case hr => first | (go_simp; done) | (go_simp; rfl)); intro gb209 hg w6 hbox hb; have n0_ := Aside0.mk (below_step (by repeat (first | (with_reducible first | exact HB.out | apply below_alloc | apply pw_below_drewN | apply below_drew1) | exact HB.out)) hb); have n1_ := Aside0.mk (hbox); have n2_ := Aside0.mk ((by rw [hg]; exact (below_size (by repeat (first | (with_reducible first | exact HB.out | apply below_alloc | apply pw_below_drewN | apply below_drew1) | exact HB.out))) : w.heap.size ≤ gb209)); have n3_ := Aside0.mk ((by rw [hg]; exact (below_size (by repeat (first | (with_reducible first | exact HB.out | apply below_alloc | apply pw_below_drewN | apply below_drew1) | exact HB.out))) : w.heap.size ≤ gb209)); clear HB; have HB := n0_; have BK209 := n1_; have GW209 := n2_; have GE209 := n3_; clear n0_ n1_ n2_ n3_; clear hb hbox hg) | ((with_reducible refine gate_dst (N := 3) rfl ?_); refine box_event ?hg (N := 3) ?hd (cs := #[.int .i64 a1_0, .slice A1_1 l1_1.length c1_1]) (t := 37) ?hr ?_; (case hd => rfl); (case hg => rfl); (case hr => first | (go_simp; done) | (go_simp; rfl)); intro gb210 hg w7 hbox hb; have n0_ := Aside0.mk (blk_below (g := gb209) (o := .cells #[.int .i64 a0_0, .slice A0_1 l0_1.length c0_1] 37 (0, 0)) (by (with_reducible repeat (first | refine blk_drewN ?_ _ | refine blk_drew ?_ | refine blk_alloc ?_ _)); exact BK209.out) hb); have n1_ := Aside0.mk (below_step (by repeat (first | (with_reducible first | exact HB.out | apply below_alloc | apply pw_below_drewN | apply below_drew1 | refine below_set ?_ GE209.out) | exact HB.out)) hb); have n2_ := Aside0.mk (hbox); have n3_ := Aside0.mk ((by rw [hg]; exact (below_size (by repeat (first | (with_reducible first | exact HB.out | apply below_alloc | apply pw_below_drewN | apply below_drew1 | refine below_set ?_ GE209.out) | exact HB.out))) : w.heap.size ≤ gb210)); have n4_ := Aside0.mk ((by rw [hg]; exact (below_size (by repeat (first | (with_reducible first | exact HB.out | apply below_alloc | apply pw_below_drewN | apply below_drew1 | refine below_set ?_ GE209.out) | exact HB.out))) : w.heap.size ≤ gb210)); have n5_ := Aside0.mk ((by rw [hg]; exact Nat.ne_of_lt (blk_lt (g := gb209) (o := .cells #[.int .i64 a0_0, .slice A0_1 l0_1.length c0_1] 37 (0, 0)) (by (with_reducible repeat (first | refine blk_drewN ?_ _ | refine blk_drew ?_ | refine blk_alloc ?_ _)); exact BK209.out)) : gb209 ≠ gb210)); have n6_ := Aside0.mk ((by rw [hg]; exact Nat.ne_of_gt (blk_lt (g := gb209) (o := .cells #[.int .i64 a0_0, .slice A0_1 l0_1.length c0_1] 37 (0, 0)) (by (with_reducible repeat (first | refine blk_drewN ?_ _ | refine blk_drew ?_ | refine blk_alloc ?_ _)); exact BK209.out)) : gb210 ≠ gb209)); clear BK209; clear HB; have BK209 := n0_; have HB := n1_; have BK210 := n2_; have GW210 := n3_; have GE210 := n4_; have NB209_210 := n5_; have NB210_209 := n6_; clear n0_ n1_ n2_ n3_ n4_ n5_ n6_; clear hb hbox hg; have hnb8 := NB209_210.out; have hnc8 := NB210_209.out; have hcz9_0 : w7.cell? ⟨gb209, 0, none⟩ = some (.int .i64 a0_0) := (blk_cell BK209.out 0).trans rfl; have hcz9_1 : w7.cell? ⟨gb209, 1, none⟩ = some (.slice A0_1 l0_1.length c0_1) := (blk_cell BK209.out 1).trans rfl; have hfz9_0 := blk_frozen BK209.out 0; have hfz9_1 := blk_frozen BK209.out 1; have hcz10_0 : w7.cell? ⟨gb210, 0, none⟩ = some (.int .i64 a1_0) := (blk_cell BK210.out 0).trans rfl; have hcz10_1 : w7.cell? ⟨gb210, 1, none⟩ = some (.slice A1_1 l1_1.length c1_1) := (blk_cell BK210.out 1).trans rfl; have hfz10_0 := blk_frozen BK210.out 0; have hfz10_1 := blk_frozen BK210.out 1) | ((with_reducible refine gate_callee (f := 11) rfl ?_); refine goesL_ (some 14) rfl rfl Try.func11 (by kernel_rfl) rfl #[.slice A0_1 l0_1.length c0_1, .slice A1_1 l1_1.length c1_1] rfl (by (try simp only [List.map_toArray, List.map_cons, List.map_nil]); first | done | rfl | (simp only [List.length_drop, List.length_take]; rfl)) ?_; (with_reducible refine (laws_eqIntS.calls k _ _ l0_1 _ _ l1_1 true _ ?side1 ?side2 ?side3 ?side4 A4.out).mono ?_); (case side1 => repeat (first | exact (Kd.C_below HR0_1.out HB.out) | (with_reducible refine Kd.C_alloc ?_ _) | (with_reducible refine Kd.C_drewN ?_ _) | (with_reducible refine Kd.C_drew ?_))); (case side2 => exact HC0_1.out); (case side3 => repeat (first | exact (Kd.C_below HR1_1.out HB.out) | (with_reducible refine Kd.C_alloc ?_ _) | (with_reducible refine Kd.C_drewN ?_ _) | (with_reducible refine Kd.C_drew ?_))); (case side4 => exact HC1_1.out); rintro e w' ⟨rfl, ⟨nd, rfl⟩⟩; refine ⟨_, rfl, ?_⟩))
      go_ret
      exact ⟨by first | rfl | (simp [errW_none, errW_some] <;> rfl) | (simp [*, errW_none, errW_some] <;> rfl), by repeat (first | (with_reducible first | exact HB.out | apply below_alloc | apply pw_below_drewN | apply below_drew1 | refine below_set ?_ GE209.out | refine below_set ?_ GE210.out) | exact HB.out)⟩
    · replace c5 := Bool.eq_false_iff.mpr c5
      subst c5
      have H1 : (some false) = some r := by rw [if_neg (show ¬ (false = true) by decide)] at H; exact H
      clear H
      have H := H1
      clear H1
      obtain rfl := Option.some.inj H
      go_enter Try.func20, Try.ntmps20
      go_wp2_with (first | ((with_reducible refine gate_dst (N := 2) rfl ?_); refine box_event ?hg (N := 2) ?hd (cs := #[.int .i64 a0_0, .slice A0_1 l0_1.length c0_1]) (t := 37) ?hr ?_; (case hd => rfl); (case hg => rfl); (case hr => first | (go_simp; done) | (go_simp; rfl)); intro gb209 hg w11 hbox hb; have n0_ := Aside0.mk (below_step (by repeat (first | (with_reducible first | exact HB.out | apply below_alloc | apply pw_below_drewN | apply below_drew1) | exact HB.out)) hb); have n1_ := Aside0.mk (hbox); have n2_ := Aside0.mk ((by rw [hg]; exact (below_size (by repeat (first | (with_reducible first | exact HB.out | apply below_alloc | apply pw_below_drewN | apply below_drew1) | exact HB.out))) : w.heap.size ≤ gb209)); have n3_ := Aside0.mk ((by rw [hg]; exact (below_size (by repeat (first | (with_reducible first | exact HB.out | apply below_alloc | apply pw_below_drewN | apply below_drew1) | exact HB.out))) : w.heap.size ≤ gb209)); clear HB; have HB := n0_; have BK209 := n1_; have GW209 := n2_; have GE209 := n3_; clear n0_ n1_ n2_ n3_; clear hb hbox hg) | ((with_reducible refine gate_dst (N := 3) rfl ?_); refine box_event ?hg (N := 3) ?hd (cs := #[.int .i64 a1_0, .slice A1_1 l1_1.length c1_1]) (t := 37) ?hr ?_; (case hd => rfl); (case hg => rfl); (case hr => first | (go_simp; done) | (go_simp; rfl)); intro gb210 hg w12 hbox hb; have n0_ := Aside0.mk (blk_below (g := gb209) (o := .cells #[.int .i64 a0_0, .slice A0_1 l0_1.length c0_1] 37 (0, 0)) (by (with_reducible repeat (first | refine blk_drewN ?_ _ | refine blk_drew ?_ | refine blk_alloc ?_ _)); exact BK209.out) hb); have n1_ := Aside0.mk (below_step (by repeat (first | (with_reducible first | exact HB.out | apply below_alloc | apply pw_below_drewN | apply below_drew1 | refine below_set ?_ GE209.out) | exact HB.out)) hb); have n2_ := Aside0.mk (hbox); have n3_ := Aside0.mk ((by rw [hg]; exact (below_size (by repeat (first | (with_reducible first | exact HB.out | apply below_alloc | apply pw_below_drewN | apply below_drew1 | refine below_set ?_ GE209.out) | exact HB.out))) : w.heap.size ≤ gb210)); have n4_ := Aside0.mk ((by rw [hg]; exact (below_size (by repeat (first | (with_reducible first | exact HB.out | apply below_alloc | apply pw_below_drewN | apply below_drew1 | refine below_set ?_ GE209.out) | exact HB.out))) : w.heap.size ≤ gb210)); have n5_ := Aside0.mk ((by rw [hg]; exact Nat.ne_of_lt (blk_lt (g := gb209) (o := .cells #[.int .i64 a0_0, .slice A0_1 l0_1.length c0_1] 37 (0, 0)) (by (with_reducible repeat (first | refine blk_drewN ?_ _ | refine blk_drew ?_ | refine blk_alloc ?_ _)); exact BK209.out)) : gb209 ≠ gb210)); have n6_ := Aside0.mk ((by rw [hg]; exact Nat.ne_of_gt (blk_lt (g := gb209) (o := .cells #[.int .i64 a0_0, .slice A0_1 l0_1.length c0_1] 37 (0, 0)) (by (with_reducible repeat (first | refine blk_drewN ?_ _ | refine blk_drew ?_ | refine blk_alloc ?_ _)); exact BK209.out)) : gb210 ≠ gb209)); clear BK209; clear HB; have BK209 := n0_; have HB := n1_; have BK210 := n2_; have GW210 := n3_; have GE210 := n4_; have NB209_210 := n5_; have NB210_209 := n6_; clear n0_ n1_ n2_ n3_ n4_ n5_ n6_; clear hb hbox hg; have hnb13 := NB209_210.out; have hnc13 := NB210_209.out; have hcz14_0 : w12.cell? ⟨gb209, 0, none⟩ = some (.int .i64 a0_0) := (blk_cell BK209.out 0).trans rfl; have hcz14_1 : w12.cell? ⟨gb209, 1, none⟩ = some (.slice A0_1 l0_1.length c0_1) := (blk_cell BK209.out 1).trans rfl; have hfz14_0 := blk_frozen BK209.out 0; have hfz14_1 := blk_frozen BK209.out 1; have hcz15_0 : w12.cell? ⟨gb210, 0, none⟩ = some (.int .i64 a1_0) := (blk_cell BK210.out 0).trans rfl; have hcz15_1 : w12.cell? ⟨gb210, 1, none⟩ = some (.slice A1_1 l1_1.length c1_1) := (blk_cell BK210.out 1).trans rfl; have hfz15_0 := blk_frozen BK210.out 0; have hfz15_1 := blk_frozen BK210.out 1) | ((with_reducible refine gate_callee (f := 11) rfl ?_); refine goesL_ (some 14) rfl rfl Try.func11 (by kernel_rfl) rfl #[.slice A0_1 l0_1.length c0_1, .slice A1_1 l1_1.length c1_1] rfl (by (try simp only [List.map_toArray, List.map_cons, List.map_nil]); first | done | rfl | (simp only [List.length_drop, List.length_take]; rfl)) ?_; (with_reducible refine (laws_eqIntS.calls k _ _ l0_1 _ _ l1_1 false _ ?side1 ?side2 ?side3 ?side4 A4.out).mono ?_); (case side1 => repeat (first | exact (Kd.C_below HR0_1.out HB.out) | (with_reducible refine Kd.C_alloc ?_ _) | (with_reducible refine Kd.C_drewN ?_ _) | (with_reducible refine Kd.C_drew ?_))); (case side2 => exact HC0_1.out); (case side3 => repeat (first | exact (Kd.C_below HR1_1.out HB.out) | (with_reducible refine Kd.C_alloc ?_ _) | (with_reducible refine Kd.C_drewN ?_ _) | (with_reducible refine Kd.C_drew ?_))); (case side4 => exact HC1_1.out); rintro e w' ⟨rfl, ⟨nd, rfl⟩⟩; refine ⟨_, rfl, ?_⟩))
      go_ret
      exact ⟨by first | rfl | (simp [errW_none, errW_some] <;> rfl) | (simp [*, errW_none, errW_some] <;> rfl), by repeat (first | (with_reducible first | exact HB.out | apply below_alloc | apply pw_below_drewN | apply below_drew1 | refine below_set ?_ GE209.out | refine below_set ?_ GE210.out) | exact HB.out)⟩
  · rw [if_neg c3] at H
    have c3b0 : (a0_0 == a1_0) = false := beq_eq_false_iff_ne.mpr c3
    have c3b1 : (a0_0 != a1_0) = true := bne_iff_ne.mpr c3
    obtain rfl := Option.some.inj H
    go_enter Try.func20, Try.ntmps20
    go_wp2_with (first | ((with_reducible refine gate_dst (N := 2) rfl ?_); refine box_event ?hg (N := 2) ?hd (cs := #[.int .i64 a0_0, .slice A0_1 l0_1.length c0_1]) (t := 37) ?hr ?_; (case hd => rfl); (case hg => rfl); (case hr => first | (go_simp; done) | (go_simp; rfl)); intro gb209 hg w16 hbox hb; have n0_ := Aside0.mk (below_step (by repeat (first | (with_reducible first | exact HB.out | apply below_alloc | apply pw_below_drewN | apply below_drew1) | exact HB.out)) hb); have n1_ := Aside0.mk (hbox); have n2_ := Aside0.mk ((by rw [hg]; exact (below_size (by repeat (first | (with_reducible first | exact HB.out | apply below_alloc | apply pw_below_drewN | apply below_drew1) | exact HB.out))) : w.heap.size ≤ gb209)); have n3_ := Aside0.mk ((by rw [hg]; exact (below_size (by repeat (first | (with_reducible first | exact HB.out | apply below_alloc | apply pw_below_drewN | apply below_drew1) | exact HB.out))) : w.heap.size ≤ gb209)); clear HB; have HB := n0_; have BK209 := n1_; have GW209 := n2_; have GE209 := n3_; clear n0_ n1_ n2_ n3_; clear hb hbox hg) | ((with_reducible refine gate_dst (N := 3) rfl ?_); refine box_event ?hg (N := 3) ?hd (cs := #[.int .i64 a1_0, .slice A1_1 l1_1.length c1_1]) (t := 37) ?hr ?_; (case hd => rfl); (case hg => rfl); (case hr => first | (go_simp; done) | (go_simp; rfl)); intro gb210 hg w17 hbox hb; have n0_ := Aside0.mk (blk_below (g := gb209) (o := .cells #[.int .i64 a0_0, .slice A0_1 l0_1.length c0_1] 37 (0, 0)) (by (with_reducible repeat (first | refine blk_drewN ?_ _ | refine blk_drew ?_ | refine blk_alloc ?_ _)); exact BK209.out) hb); have n1_ := Aside0.mk (below_step (by repeat (first | (with_reducible first | exact HB.out | apply below_alloc | apply pw_below_drewN | apply below_drew1 | refine below_set ?_ GE209.out) | exact HB.out)) hb); have n2_ := Aside0.mk (hbox); have n3_ := Aside0.mk ((by rw [hg]; exact (below_size (by repeat (first | (with_reducible first | exact HB.out | apply below_alloc | apply pw_below_drewN | apply below_drew1 | refine below_set ?_ GE209.out) | exact HB.out))) : w.heap.size ≤ gb210)); have n4_ := Aside0.mk ((by rw [hg]; exact (below_size (by repeat (first | (with_reducible first | exact HB.out | apply below_alloc | apply pw_below_drewN | apply below_drew1 | refine below_set ?_ GE209.out) | exact HB.out))) : w.heap.size ≤ gb210)); have n5_ := Aside0.mk ((by rw [hg]; exact Nat.ne_of_lt (blk_lt (g := gb209) (o := .cells #[.int .i64 a0_0, .slice A0_1 l0_1.length c0_1] 37 (0, 0)) (by (with_reducible repeat (first | refine blk_drewN ?_ _ | refine blk_drew ?_ | refine blk_alloc ?_ _)); exact BK209.out)) : gb209 ≠ gb210)); have n6_ := Aside0.mk ((by rw [hg]; exact Nat.ne_of_gt (blk_lt (g := gb209) (o := .cells #[.int .i64 a0_0, .slice A0_1 l0_1.length c0_1] 37 (0, 0)) (by (with_reducible repeat (first | refine blk_drewN ?_ _ | refine blk_drew ?_ | refine blk_alloc ?_ _)); exact BK209.out)) : gb210 ≠ gb209)); clear BK209; clear HB; have BK209 := n0_; have HB := n1_; have BK210 := n2_; have GW210 := n3_; have GE210 := n4_; have NB209_210 := n5_; have NB210_209 := n6_; clear n0_ n1_ n2_ n3_ n4_ n5_ n6_; clear hb hbox hg; have hnb18 := NB209_210.out; have hnc18 := NB210_209.out; have hcz19_0 : w17.cell? ⟨gb209, 0, none⟩ = some (.int .i64 a0_0) := (blk_cell BK209.out 0).trans rfl; have hcz19_1 : w17.cell? ⟨gb209, 1, none⟩ = some (.slice A0_1 l0_1.length c0_1) := (blk_cell BK209.out 1).trans rfl; have hfz19_0 := blk_frozen BK209.out 0; have hfz19_1 := blk_frozen BK209.out 1; have hcz20_0 : w17.cell? ⟨gb210, 0, none⟩ = some (.int .i64 a1_0) := (blk_cell BK210.out 0).trans rfl; have hcz20_1 : w17.cell? ⟨gb210, 1, none⟩ = some (.slice A1_1 l1_1.length c1_1) := (blk_cell BK210.out 1).trans rfl; have hfz20_0 := blk_frozen BK210.out 0; have hfz20_1 := blk_frozen BK210.out 1))
    go_ret
    exact ⟨by first | rfl | (simp [errW_none, errW_some] <;> rfl) | (simp [*, errW_none, errW_some] <;> rfl), by repeat (first | (with_reducible first | exact HB.out | apply below_alloc | apply pw_below_drewN | apply below_drew1 | refine below_set ?_ GE209.out | refine below_set ?_ GE210.out) | exact HB.out)⟩

/-! ### laws_markTable: function 21 -/
def laws_markTable.f (k : Nat) (a0_0 : Int) (l0_1 : List Int) (a1 : Int) : Option (Int × List Int) := (laws_markIntS.f k l0_1 a1).bind fun bt213 => (some (bt213.1, bt213.2))
theorem laws_markTable.mono : ∀ a0 a1 a2 k, LeO (laws_markTable.f k a0 a1 a2) (laws_markTable.f (k + 1) a0 a1 a2) := by
  intro a0 a1 a2 k
  unfold laws_markTable.f
  repeat' first
      | (with_reducible exact laws_markIntS.mono _ _ _)
      | (with_reducible exact LeO.refl _)
      | (with_reducible exact LeO.none _)
      | (with_reducible refine LeO.ite ?_ ?_)
      | (with_reducible refine LeO.bind ?_ (fun _ => ?_))
      | exact laws_markIntS.mono _ _ _
      | exact LeO.none _
      | refine LeO.ite ?_ ?_
      | refine LeO.bind ?_ (fun _ => ?_)
set_option maxHeartbeats 8000000 in
set_option maxRecDepth 100000 in
theorem laws_markTable.calls (k : Nat) (a0_0 : Int) (P0_1_ : Nat → Prop) (u9000_ : Value) (l0_1 : List Int) (a1 : Int) (r1 : Int) (r2 : List Int) (w0 w : World) (hB : Below w0.heap.size w0 w) (ho0_1 : Kd.R (Kd.int .i64) 3 w w0.heap.size P0_1_ u9000_ l0_1) (h : laws_markTable.f k a0_0 l0_1 a1 = some (r1, r2)) :
    Calls Try.prog 21 #[.agg #[.int .i64 a0_0, u9000_], .int .i64 a1] w fun e w' => e = .returned (.int .i64 r1) ∧ Kd.R (Kd.int .i64) 3 w' w0.heap.size (fun k_ => (P0_1_ k_ ∨ w.heap.size ≤ k_)) u9000_ r2 ∧ Below w0.heap.size w0 w' ∧ Kept w w' (fun k_ => P0_1_ k_) := by
  have hu37 := Try.underlying37
  have HO0_1 := Aside0.mk (show Kd.R (Kd.int .i64) 3 w w0.heap.size (fun k_ => (P0_1_ k_ ∨ w.heap.size ≤ k_)) u9000_ l0_1 from Kd.R_mono ho0_1 (fun k_ hk => (.inl hk)))
  have HK := Aside0.mk (Kept.refl w (fun k_ => P0_1_ k_))
  have HW0 := Aside0.mk hB.size
  have HB := Aside0.mk hB
  clear hB
  have H : ((laws_markIntS.f k l0_1 a1).bind fun bt213 => (some (bt213.1, bt213.2))) = some (r1, r2) := h
  clear h
  replace H := Option.bind_eq_some_iff.mp H
  obtain ⟨⟨t213, t214⟩, A30, H⟩ := H
  replace H : (some (t213, t214)) = some (r1, r2) := H
  have A3 := Aside0.mk A30
  clear A30
  simp only [Option.some.injEq, Prod.mk.injEq] at H
  obtain ⟨rfl, rfl⟩ := H
  obtain ⟨Ao4, co4, eo4⟩ := Kd.R_slice HO0_1.out
  subst eo4
  go_enter Try.func21, Try.ntmps21
  go_wp2_with (first | ((with_reducible refine gate_dst (N := 2) rfl ?_); refine box_event ?hg (N := 2) ?hd (cs := #[.int .i64 a0_0, .slice Ao4 l0_1.length co4]) (t := 37) ?hr ?_; (case hd => rfl); (case hg => rfl); (case hr => first | (go_simp; done) | (go_simp; rfl)); intro gb212 hg w5 hbox hb; have n0_ := Aside0.mk (Kd.R_below (by (with_reducible repeat (first | apply Kd.R_alloc | apply Kd.R_drewN | apply Kd.R_drew)); exact HO0_1.out) hb); have n1_ := Aside0.mk (Kept.below (S := (fun k_ => P0_1_ k_)) (by repeat (first | (with_reducible first | exact HK.out | apply Kept.alloc | apply Kept.drewN | apply Kept.drew) | exact HK.out)) hb); have n2_ := Aside0.mk (below_step (by repeat (first | (with_reducible first | exact HB.out | apply below_alloc | apply pw_below_drewN | apply below_drew1) | exact HB.out)) hb); have n3_ := Aside0.mk (hbox); have n4_ := Aside0.mk ((by rw [hg]; exact (by first | exact HK.out.1 | exact (show Kept w _ (fun k_ => P0_1_ k_) from by repeat (first | (with_reducible first | exact HK.out | apply Kept.alloc | apply Kept.drewN | apply Kept.drew) | exact HK.out)).1) : w.heap.size ≤ gb212)); have n5_ := Aside0.mk ((by rw [hg]; exact (below_size (by repeat (first | (with_reducible first | exact HB.out | apply below_alloc | apply pw_below_drewN | apply below_drew1) | exact HB.out))) : w0.heap.size ≤ gb212)); clear HO0_1; clear HK; clear HB; have HO0_1 := n0_; have HK := n1_; have HB := n2_; have BK212 := n3_; have GW212 := n4_; have GE212 := n5_; clear n0_ n1_ n2_ n3_ n4_ n5_; clear hb hbox hg; have hcz6_0 : w5.cell? ⟨gb212, 0, none⟩ = some (.int .i64 a0_0) := (blk_cell BK212.out 0).trans rfl; have hcz6_1 : w5.cell? ⟨gb212, 1, none⟩ = some (.slice Ao4 l0_1.length co4) := (blk_cell BK212.out 1).trans rfl; have hfz6_0 := blk_frozen BK212.out 0; have hfz6_1 := blk_frozen BK212.out 1) | ((with_reducible refine gate_callee (f := 14) rfl ?_); refine goesL_ (some 8) rfl rfl Try.func14 (by kernel_rfl) rfl #[.slice Ao4 l0_1.length co4, .int .i64 a1] rfl (by (try simp only [List.map_toArray, List.map_cons, List.map_nil]); first | done | rfl | (simp only [List.length_drop, List.length_take]; rfl)) ?_; (with_reducible refine (laws_markIntS.calls k (fun k_ => some k_ = (.slice Ao4 l0_1.length co4 : Value).ownBlock) (.slice Ao4 l0_1.length co4) l0_1 a1 t213 t214 w0 _ ?side1 ?side2 A3.out).mono ?_); (case side1 => repeat (first | (with_reducible first | exact HB.out | apply below_alloc | apply pw_below_drewN | apply below_drew1 | refine below_set ?_ GE212.out) | exact HB.out)); (case side2 => exact Kd.R_tight rfl HO0_1.out); rintro e w7 ⟨rfl, hy0, hb, hkp⟩; refine ⟨_, rfl, ?_⟩; have n0_ := Aside0.mk (Kd.R_reok rfl hy0 (fun k_ e_ => HO0_1.out.1 k_ e_)); have n1_ := Aside0.mk (blk_kept (by (with_reducible repeat (first | refine blk_drewN ?_ _ | refine blk_drew ?_ | refine blk_alloc ?_ _)); exact BK212.out) hkp (fun hs_ => (fun e_ => (Kd.R_ne HO0_1.out BK212.out (by decide)) e_) hs_)); have n2_ := Aside0.mk (Kept.then_ (S := (fun k_ => P0_1_ k_)) (by repeat (first | (with_reducible first | exact HK.out | apply Kept.alloc | apply Kept.drewN | apply Kept.drew | refine Kept.setCell ?_ (.inr GW212.out) _) | exact HK.out)) hkp (fun k_ hs_ => (fun e_ => (HO0_1.out.1 k_ e_.symm)) hs_)); have n3_ := Aside0.mk (hb); clear HO0_1; clear BK212; clear HK; clear HB; have HO0_1 := n0_; have BK212 := n1_; have HK := n2_; have HB := n3_; clear n0_ n1_ n2_ n3_; (try clear hb); (try clear hkp); (try clear hy0)))
  go_ret
  exact ⟨by first | rfl | (simp [errW_none, errW_some] <;> rfl) | (simp [*, errW_none, errW_some] <;> rfl), by (with_reducible repeat (first | apply Kd.R_alloc | apply Kd.R_drewN | apply Kd.R_drew)); exact HO0_1.out, by repeat (first | (with_reducible first | exact HB.out | apply below_alloc | apply pw_below_drewN | apply below_drew1 | refine below_set ?_ GE212.out) | exact HB.out), by repeat (first | (with_reducible first | exact HK.out | apply Kept.alloc | apply Kept.drewN | apply Kept.drew | refine Kept.setCell ?_ (.inr GW212.out) _) | exact HK.out)⟩

end Go.Proofs.Ytfpjnomiifagkaa.QFnExactSeparateOnes
