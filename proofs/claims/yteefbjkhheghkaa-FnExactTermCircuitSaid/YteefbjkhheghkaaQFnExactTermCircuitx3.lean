/- The functions that the law FnExactTermCircuit uses: each Go function as a Lean function, and the proof that the Go code comes to its answers (part 3). Written by wip/gen/own.py out of what print.sh printed for this seat, changed by that program where the printed text fell in Lean. Conditions: those of each theorem. -/
import Derived.Test.YteefbjkhheghkaaQFnExactTermCircuitx0
import Derived.Test.YteefbjkhheghkaaQFnExactTermCircuitx2
namespace Go.Proofs.Yteefbjkhheghkaa.QFnExactTermCircuit
open Go.RowKit Go.Proofs.YteefbjkhheghkaaW.PrintWords Go.Proofs.YteefbjkhheghkaaW.PrintLast Go.Proofs.YteefbjkhheghkaaW.PrintMore
attribute [local go_sem] max2_int min2_int max_two min_two max_three min_three max_four min_four   -- for this text's walks alone
set_option linter.unusedVariables false
set_option linter.unusedSimpArgs false

/-! ### impl_areBits: function 76 -/
def impl_areBits.l0 : Nat → List Int → Int → Int → Option (Bool)
  | 0, _, _, _ => none
  | k + 1, x5, x6, x7 => if x7 < x6 then (if 0 ≤ x7 then (if x7 < (x5.length : Int) then (if (rd x5 x7) = 0 then (impl_areBits.l0 k x5 x6 (wrap64 (x7 + 1))) else (if (rd x5 x7) = 1 then (impl_areBits.l0 k x5 x6 (wrap64 (x7 + 1))) else (some false))) else (none)) else (none)) else (some true)
def impl_areBits.f (k : Nat) (l0 : List Int) : Option (Bool) := impl_areBits.l0 k l0 (l0.length : Int) 0
theorem impl_areBits.mono_l : ∀ k, (∀ y0 y1 y2, LeO (impl_areBits.l0 k y0 y1 y2) (impl_areBits.l0 (k + 1) y0 y1 y2))
  | 0 => fun _ _ _ r h => by simp [impl_areBits.l0] at h
  | k + 1 => by
    have ih0 := impl_areBits.mono_l k
    · intro y0 y1 y2
      unfold impl_areBits.l0
      repeat' first
      | (with_reducible exact ih0 _ _ _)
      | (with_reducible exact LeO.refl _)
      | (with_reducible exact LeO.none _)
      | (with_reducible refine LeO.ite ?_ ?_)
      | (with_reducible refine LeO.bind ?_ (fun _ => ?_))
      | exact ih0 _ _ _
      | exact LeO.none _
      | refine LeO.ite ?_ ?_
      | refine LeO.bind ?_ (fun _ => ?_)
theorem impl_areBits.mono : ∀ a0 k, LeO (impl_areBits.f k a0) (impl_areBits.f (k + 1) a0) := by
  intro a0 k
  have ih0 := impl_areBits.mono_l k
  unfold impl_areBits.f
  repeat' first
      | (with_reducible exact ih0 _ _ _)
      | (with_reducible exact LeO.refl _)
      | (with_reducible exact LeO.none _)
      | (with_reducible refine LeO.ite ?_ ?_)
      | (with_reducible refine LeO.bind ?_ (fun _ => ?_))
      | exact ih0 _ _ _
      | exact LeO.none _
      | refine LeO.ite ?_ ?_
      | refine LeO.bind ?_ (fun _ => ?_)
set_option maxHeartbeats 8000000 in
set_option maxRecDepth 100000 in
theorem impl_areBits.calls (k : Nat) (A0 : Option Addr) (c0 : Nat) (l0 : List Int) (r : Bool) (w : World) (hr0 : Kd.C (Kd.int .i64) w A0 l0.length l0) (hc0 : l0.length ≤ c0) (h : impl_areBits.f k l0 = some r) :
    Calls Try.prog 76 #[.slice A0 l0.length c0] w fun e w' => e = .returned (.bool r) ∧ Drawn0 w w' := by
  have HR0 := Aside0.mk hr0
  have HC0 := Aside0.mk hc0
  clear hr0 hc0
  have H : (impl_areBits.l0 k l0 (l0.length : Int) 0) = some r := h
  clear h
  have H' := Aside0.mk H
  clear H
  go_enter Try.func76, Try.ntmps76
  go_wp2
  go_loopg [7] k (fun kq v7 w' => ∃ (x7_1 : Int), v7 = .int .i64 x7_1 ∧ Aside0 (impl_areBits.l0 kq l0 (l0.length : Int) x7_1 = some r) ∧ Aside0 (kq ≤ k) ∧ Drawn0 w w')
  case atStart => exact ⟨(0), (by first | rfl | (simp; done) | (simp [*]; done)), H', ⟨Nat.le_refl _⟩, by repeat (first | exact Drawn0.refl _ | apply Drawn0.step)⟩
  case round =>
    clear H'
    obtain ⟨x7_1, rfl, HA, HK1, ⟨m1, rfl⟩⟩ := hrel
    cases gk with
    | zero => exact absurd HA.out (by simp [impl_areBits.l0])
    | succ k1 =>
      have H := HA.out
      clear HA
      simp only [impl_areBits.l0] at H
      by_cases c2 : x7_1 < (l0.length : Int)
      · rw [if_pos c2] at H
        have c2b0 : decide (x7_1 < (l0.length : Int)) = true := decide_eq_true c2
        clear c2
        by_cases c3 : 0 ≤ x7_1
        · rw [if_pos c3] at H
          have c3b0 : decide (0 ≤ x7_1) = true := decide_eq_true c3
          clear c3
          by_cases c4 : x7_1 < (l0.length : Int)
          · rw [if_pos c4] at H
            have c4b0 : decide (x7_1 < (l0.length : Int)) = true := decide_eq_true c4
            clear c4
            by_cases c5 : (rd l0 x7_1) = 0
            · rw [if_pos c5] at H
              have c5b0 : ((rd l0 x7_1) == 0) = true := beq_iff_eq.mpr c5
              have c5b1 : ((rd l0 x7_1) != 0) = false := bne_eq_false_iff_eq.mpr c5
              clear c5
              have H' := Aside0.mk H
              clear H
              have p134 : 0 ≤ (x7_1 : Int) := of_decide_eq_true (by first | (with_reducible assumption) | assumption)
              have q134 : x7_1 < (l0.length : Int) := of_decide_eq_true (by first | (with_reducible assumption) | assumption)
              obtain ⟨ad134, e134, hx134_0⟩ := Kd.at_int HR0.out x7_1 p134 q134
              cases e134
              replace p134 := eq_true p134
              replace q134 := eq_true q134
              go_wp2
              go_roundg k1
              case measure => have := HK1.out; omega
              case rel => exact ⟨(wrap64 (x7_1 + 1)), (by first | rfl | (simp; done) | (simp [*]; done)), H', ⟨by have := HK1.out; omega⟩, by repeat (first | exact Drawn0.refl _ | apply Drawn0.step)⟩
            · rw [if_neg c5] at H
              have c5b0 : ((rd l0 x7_1) == 0) = false := beq_eq_false_iff_ne.mpr c5
              have c5b1 : ((rd l0 x7_1) != 0) = true := bne_iff_ne.mpr c5
              by_cases c6 : (rd l0 x7_1) = 1
              · rw [if_pos c6] at H
                have c6b0 : ((rd l0 x7_1) == 1) = true := beq_iff_eq.mpr c6
                have c6b1 : ((rd l0 x7_1) != 1) = false := bne_eq_false_iff_eq.mpr c6
                clear c6
                have H' := Aside0.mk H
                clear H
                have p134 : 0 ≤ (x7_1 : Int) := of_decide_eq_true (by first | (with_reducible assumption) | assumption)
                have q134 : x7_1 < (l0.length : Int) := of_decide_eq_true (by first | (with_reducible assumption) | assumption)
                obtain ⟨ad134, e134, hx134_0⟩ := Kd.at_int HR0.out x7_1 p134 q134
                cases e134
                replace p134 := eq_true p134
                replace q134 := eq_true q134
                go_wp2
                go_roundg k1
                case measure => have := HK1.out; omega
                case rel => exact ⟨(wrap64 (x7_1 + 1)), (by first | rfl | (simp; done) | (simp [*]; done)), H', ⟨by have := HK1.out; omega⟩, by repeat (first | exact Drawn0.refl _ | apply Drawn0.step)⟩
              · rw [if_neg c6] at H
                have c6b0 : ((rd l0 x7_1) == 1) = false := beq_eq_false_iff_ne.mpr c6
                have c6b1 : ((rd l0 x7_1) != 1) = true := bne_iff_ne.mpr c6
                obtain rfl := Option.some.inj H
                have p134 : 0 ≤ (x7_1 : Int) := of_decide_eq_true (by first | (with_reducible assumption) | assumption)
                have q134 : x7_1 < (l0.length : Int) := of_decide_eq_true (by first | (with_reducible assumption) | assumption)
                obtain ⟨ad134, e134, hx134_0⟩ := Kd.at_int HR0.out x7_1 p134 q134
                cases e134
                replace p134 := eq_true p134
                replace q134 := eq_true q134
                go_wp2
                go_ret
                exact ⟨by first | rfl | (simp; done) | (simp [*]; done), by repeat (first | exact Drawn0.refl _ | apply Drawn0.step)⟩
          · rw [if_neg c4] at H
            exact absurd H (by simp)
        · rw [if_neg c3] at H
          exact absurd H (by simp)
      · rw [if_neg c2] at H
        have c2b0 : decide (x7_1 < (l0.length : Int)) = false := decide_eq_false c2
        clear c2
        obtain rfl := Option.some.inj H
        go_wp2
        go_ret
        exact ⟨by first | rfl | (simp; done) | (simp [*]; done), by repeat (first | exact Drawn0.refl _ | apply Drawn0.step)⟩

/-! ### impl_IsTable: function 60 -/
def impl_IsTable.f (k : Nat) (a0_0 : Int) (l0_1 : List Int) : Option (Bool) := if a0_0 ≥ 0 then (if a0_0 ≤ 4 then (if 0 ≤ a0_0 then (if (l0_1.length : Int) = (shl .i64 1 a0_0) then ((impl_areBits.f k l0_1).bind fun t136 => (some t136)) else (some false)) else (none)) else (some false)) else (some false)
theorem impl_IsTable.mono : ∀ a0 a1 k, LeO (impl_IsTable.f k a0 a1) (impl_IsTable.f (k + 1) a0 a1) := by
  intro a0 a1 k
  unfold impl_IsTable.f
  repeat' first
      | (with_reducible exact impl_areBits.mono _ _)
      | (with_reducible exact LeO.refl _)
      | (with_reducible exact LeO.none _)
      | (with_reducible refine LeO.ite ?_ ?_)
      | (with_reducible refine LeO.bind ?_ (fun _ => ?_))
      | exact impl_areBits.mono _ _
      | exact LeO.none _
      | refine LeO.ite ?_ ?_
      | refine LeO.bind ?_ (fun _ => ?_)
set_option maxHeartbeats 8000000 in
set_option maxRecDepth 100000 in
theorem impl_IsTable.calls (k : Nat) (a0_0 : Int) (A0_1 : Option Addr) (c0_1 : Nat) (l0_1 : List Int) (r : Bool) (w : World) (hr0_1 : Kd.C (Kd.int .i64) w A0_1 l0_1.length l0_1) (hc0_1 : l0_1.length ≤ c0_1) (h : impl_IsTable.f k a0_0 l0_1 = some r) :
    Calls Try.prog 60 #[.agg #[.int .i64 a0_0, .slice A0_1 l0_1.length c0_1]] w fun e w' => e = .returned (.bool r) ∧ Below w.heap.size w w' := by
  have hu50 := Try.underlying50
  have HR0_1 := Aside0.mk hr0_1
  have HC0_1 := Aside0.mk hc0_1
  clear hr0_1 hc0_1
  have HB := Aside0.mk (Below.refl w.heap.size w)
  have H : (if a0_0 ≥ 0 then (if a0_0 ≤ 4 then (if 0 ≤ a0_0 then (if (l0_1.length : Int) = (shl .i64 1 a0_0) then ((impl_areBits.f k l0_1).bind fun t136 => (some t136)) else (some false)) else (none)) else (some false)) else (some false)) = some r := h
  clear h
  by_cases c2 : a0_0 ≥ 0
  · rw [if_pos c2] at H
    have c2b0 : decide (0 ≤ a0_0) = true := decide_eq_true c2
    clear c2
    by_cases c3 : a0_0 ≤ 4
    · rw [if_pos c3] at H
      have c3b0 : decide (a0_0 ≤ 4) = true := decide_eq_true c3
      clear c3
      by_cases c4 : 0 ≤ a0_0
      · rw [if_pos c4] at H
        have c4b0 := eq_true c4
        have c4b1 : decide (0 ≤ a0_0) = true := decide_eq_true c4
        clear c4
        obtain ⟨ji5, hji5⟩ : ∃ j_ : Int, (shl .i64 1 a0_0) = j_ := ⟨_, rfl⟩
        replace H : (if (l0_1.length : Int) = (ji5) then ((impl_areBits.f k l0_1).bind fun t136 => (some t136)) else (some false)) = some r := by first | (rw [hji5] at H; exact H) | (simp only [hji5] at H ⊢; exact H)
        have hji5_ : (IntKind.i64.wrap (1 * 2 ^ min a0_0.toNat 64)) = ji5 := hji5
        have hji5z : a0_0 ≤ 64 → (IntKind.i64.wrap (1 * 2 ^ a0_0.toNat)) = ji5 := shl_small hji5
        have hji5u : (IntKind.i64.wrap (2 ^ min a0_0.toNat 64)) = ji5 := by have h_ := hji5_; rw [Int.one_mul] at h_; exact h_
        have hji5v : a0_0 ≤ 64 → (IntKind.i64.wrap (2 ^ a0_0.toNat)) = ji5 := fun hle_ => by have h_ := hji5z hle_; rw [Int.one_mul] at h_; exact h_
        have hji5y : (wrap64 (1 * 2 ^ min a0_0.toNat 64)) = ji5 := (i64_w _).symm.trans hji5_
        have hji5x : a0_0 ≤ 64 → (wrap64 (1 * 2 ^ a0_0.toNat)) = ji5 := fun h_ => (i64_w _).symm.trans (hji5z h_)
        by_cases c6 : (l0_1.length : Int) = (ji5)
        · rw [if_pos c6] at H
          have c6b0 : ((l0_1.length : Int) == (ji5)) = true := beq_iff_eq.mpr c6
          have c6b1 : ((l0_1.length : Int) != (ji5)) = false := bne_eq_false_iff_eq.mpr c6
          clear c6
          replace H := Option.bind_eq_some_iff.mp H
          obtain ⟨t136, A70, H⟩ := H
          replace H : (some t136) = some r := H
          have A7 := Aside0.mk A70
          clear A70
          obtain rfl := Option.some.inj H
          go_enter Try.func60, Try.ntmps60
          go_wp2_with (first | ((with_reducible refine gate_dst (N := 1) rfl ?_); (try (refine gate_guard (by rfl) ?_; dsimp only)); refine box_event ?hg (N := 1) ?hd (cs := #[.int .i64 a0_0, .slice A0_1 l0_1.length c0_1]) (t := 50) ?hr ?_; (case hd => rfl); (case hg => rfl); (case hr => first | (go_simp; done) | (go_simp; rfl)); intro gb135 hg w8 hbox hb; have n0_ := Aside0.mk (below_step (by repeat (first | (with_reducible first | exact HB.out | apply below_alloc | apply pw_below_drewN | apply below_drew1) | exact HB.out)) hb); have n1_ := Aside0.mk (hbox); have n2_ := Aside0.mk ((by rw [hg]; exact (below_size (by repeat (first | (with_reducible first | exact HB.out | apply below_alloc | apply pw_below_drewN | apply below_drew1) | exact HB.out))) : w.heap.size ≤ gb135)); have n3_ := Aside0.mk ((by rw [hg]; exact (below_size (by repeat (first | (with_reducible first | exact HB.out | apply below_alloc | apply pw_below_drewN | apply below_drew1) | exact HB.out))) : w.heap.size ≤ gb135)); clear HB; have HB := n0_; have BK135 := n1_; have GW135 := n2_; have GE135 := n3_; clear n0_ n1_ n2_ n3_; clear hb hbox hg; have hcz9_0 : w8.cell? ⟨gb135, 0, none⟩ = some (.int .i64 a0_0) := (blk_cell BK135.out 0).trans rfl; have hcz9_1 : w8.cell? ⟨gb135, 1, none⟩ = some (.slice A0_1 l0_1.length c0_1) := (blk_cell BK135.out 1).trans rfl; have hfz9_0 := blk_frozen BK135.out 0; have hfz9_1 := blk_frozen BK135.out 1) | (go_at_call 76; (with_reducible refine (impl_areBits.calls k _ _ l0_1 t136 _ ?side1 ?side2 A7.out).mono ?_); (case side1 => repeat (first | exact (Kd.C_below HR0_1.out HB.out) | (with_reducible refine Kd.C_alloc ?_ _) | (with_reducible refine Kd.C_drewN ?_ _) | (with_reducible refine Kd.C_drew ?_))); (case side2 => exact HC0_1.out); rintro e w' ⟨rfl, ⟨nd, rfl⟩⟩; (try first | exact ⟨rfl, _, World.drewN_drewN _ _ _⟩ | exact ⟨rfl, _, Eq.trans (World.drewN_drewN _ _ _) (congrArg (World.drewN _) (Nat.add_assoc _ _ _))⟩)))
          repeat (go_quiet (first | ((with_reducible refine gate_dst (N := 1) rfl ?_); (try (refine gate_guard (by rfl) ?_; dsimp only)); refine box_event ?hg (N := 1) ?hd (cs := #[.int .i64 a0_0, .slice A0_1 l0_1.length c0_1]) (t := 50) ?hr ?_; (case hd => rfl); (case hg => rfl); (case hr => first | (go_simp; done) | (go_simp; rfl)); intro gb135 hg w8 hbox hb; have n0_ := Aside0.mk (below_step (by repeat (first | (with_reducible first | exact HB.out | apply below_alloc | apply pw_below_drewN | apply below_drew1) | exact HB.out)) hb); have n1_ := Aside0.mk (hbox); have n2_ := Aside0.mk ((by rw [hg]; exact (below_size (by repeat (first | (with_reducible first | exact HB.out | apply below_alloc | apply pw_below_drewN | apply below_drew1) | exact HB.out))) : w.heap.size ≤ gb135)); have n3_ := Aside0.mk ((by rw [hg]; exact (below_size (by repeat (first | (with_reducible first | exact HB.out | apply below_alloc | apply pw_below_drewN | apply below_drew1) | exact HB.out))) : w.heap.size ≤ gb135)); clear HB; have HB := n0_; have BK135 := n1_; have GW135 := n2_; have GE135 := n3_; clear n0_ n1_ n2_ n3_; clear hb hbox hg; have hcz9_0 : w8.cell? ⟨gb135, 0, none⟩ = some (.int .i64 a0_0) := (blk_cell BK135.out 0).trans rfl; have hcz9_1 : w8.cell? ⟨gb135, 1, none⟩ = some (.slice A0_1 l0_1.length c0_1) := (blk_cell BK135.out 1).trans rfl; have hfz9_0 := blk_frozen BK135.out 0; have hfz9_1 := blk_frozen BK135.out 1) | (go_at_call 76; (with_reducible refine (impl_areBits.calls k _ _ l0_1 t136 _ ?side1 ?side2 A7.out).mono ?_); (case side1 => repeat (first | exact (Kd.C_below HR0_1.out HB.out) | (with_reducible refine Kd.C_alloc ?_ _) | (with_reducible refine Kd.C_drewN ?_ _) | (with_reducible refine Kd.C_drew ?_))); (case side2 => exact HC0_1.out); rintro e w' ⟨rfl, ⟨nd, rfl⟩⟩; (try first | exact ⟨rfl, _, World.drewN_drewN _ _ _⟩ | exact ⟨rfl, _, Eq.trans (World.drewN_drewN _ _ _) (congrArg (World.drewN _) (Nat.add_assoc _ _ _))⟩))); try go_wp2_with (first | ((with_reducible refine gate_dst (N := 1) rfl ?_); (try (refine gate_guard (by rfl) ?_; dsimp only)); refine box_event ?hg (N := 1) ?hd (cs := #[.int .i64 a0_0, .slice A0_1 l0_1.length c0_1]) (t := 50) ?hr ?_; (case hd => rfl); (case hg => rfl); (case hr => first | (go_simp; done) | (go_simp; rfl)); intro gb135 hg w8 hbox hb; have n0_ := Aside0.mk (below_step (by repeat (first | (with_reducible first | exact HB.out | apply below_alloc | apply pw_below_drewN | apply below_drew1) | exact HB.out)) hb); have n1_ := Aside0.mk (hbox); have n2_ := Aside0.mk ((by rw [hg]; exact (below_size (by repeat (first | (with_reducible first | exact HB.out | apply below_alloc | apply pw_below_drewN | apply below_drew1) | exact HB.out))) : w.heap.size ≤ gb135)); have n3_ := Aside0.mk ((by rw [hg]; exact (below_size (by repeat (first | (with_reducible first | exact HB.out | apply below_alloc | apply pw_below_drewN | apply below_drew1) | exact HB.out))) : w.heap.size ≤ gb135)); clear HB; have HB := n0_; have BK135 := n1_; have GW135 := n2_; have GE135 := n3_; clear n0_ n1_ n2_ n3_; clear hb hbox hg; have hcz9_0 : w8.cell? ⟨gb135, 0, none⟩ = some (.int .i64 a0_0) := (blk_cell BK135.out 0).trans rfl; have hcz9_1 : w8.cell? ⟨gb135, 1, none⟩ = some (.slice A0_1 l0_1.length c0_1) := (blk_cell BK135.out 1).trans rfl; have hfz9_0 := blk_frozen BK135.out 0; have hfz9_1 := blk_frozen BK135.out 1) | (go_at_call 76; (with_reducible refine (impl_areBits.calls k _ _ l0_1 t136 _ ?side1 ?side2 A7.out).mono ?_); (case side1 => repeat (first | exact (Kd.C_below HR0_1.out HB.out) | (with_reducible refine Kd.C_alloc ?_ _) | (with_reducible refine Kd.C_drewN ?_ _) | (with_reducible refine Kd.C_drew ?_))); (case side2 => exact HC0_1.out); rintro e w' ⟨rfl, ⟨nd, rfl⟩⟩; (try first | exact ⟨rfl, _, World.drewN_drewN _ _ _⟩ | exact ⟨rfl, _, Eq.trans (World.drewN_drewN _ _ _) (congrArg (World.drewN _) (Nat.add_assoc _ _ _))⟩))))
          go_ret
          exact ⟨by first | rfl | (simp [errW_none, errW_some] <;> rfl) | (simp only [← hji5]; first | rfl | (simp [errW_none, errW_some] <;> rfl)) | (simp [*, errW_none, errW_some] <;> rfl), by repeat (first | (with_reducible first | exact HB.out | apply below_alloc | apply pw_below_drewN | apply below_drew1 | refine below_set ?_ GE135.out) | exact HB.out)⟩
        · rw [if_neg c6] at H
          have c6b0 : ((l0_1.length : Int) == (ji5)) = false := beq_eq_false_iff_ne.mpr c6
          have c6b1 : ((l0_1.length : Int) != (ji5)) = true := bne_iff_ne.mpr c6
          obtain rfl := Option.some.inj H
          go_enter Try.func60, Try.ntmps60
          go_wp2_with (first | ((with_reducible refine gate_dst (N := 1) rfl ?_); (try (refine gate_guard (by rfl) ?_; dsimp only)); refine box_event ?hg (N := 1) ?hd (cs := #[.int .i64 a0_0, .slice A0_1 l0_1.length c0_1]) (t := 50) ?hr ?_; (case hd => rfl); (case hg => rfl); (case hr => first | (go_simp; done) | (go_simp; rfl)); intro gb135 hg w10 hbox hb; have n0_ := Aside0.mk (below_step (by repeat (first | (with_reducible first | exact HB.out | apply below_alloc | apply pw_below_drewN | apply below_drew1) | exact HB.out)) hb); have n1_ := Aside0.mk (hbox); have n2_ := Aside0.mk ((by rw [hg]; exact (below_size (by repeat (first | (with_reducible first | exact HB.out | apply below_alloc | apply pw_below_drewN | apply below_drew1) | exact HB.out))) : w.heap.size ≤ gb135)); have n3_ := Aside0.mk ((by rw [hg]; exact (below_size (by repeat (first | (with_reducible first | exact HB.out | apply below_alloc | apply pw_below_drewN | apply below_drew1) | exact HB.out))) : w.heap.size ≤ gb135)); clear HB; have HB := n0_; have BK135 := n1_; have GW135 := n2_; have GE135 := n3_; clear n0_ n1_ n2_ n3_; clear hb hbox hg; have hcz11_0 : w10.cell? ⟨gb135, 0, none⟩ = some (.int .i64 a0_0) := (blk_cell BK135.out 0).trans rfl; have hcz11_1 : w10.cell? ⟨gb135, 1, none⟩ = some (.slice A0_1 l0_1.length c0_1) := (blk_cell BK135.out 1).trans rfl; have hfz11_0 := blk_frozen BK135.out 0; have hfz11_1 := blk_frozen BK135.out 1))
          repeat (go_quiet (first | ((with_reducible refine gate_dst (N := 1) rfl ?_); (try (refine gate_guard (by rfl) ?_; dsimp only)); refine box_event ?hg (N := 1) ?hd (cs := #[.int .i64 a0_0, .slice A0_1 l0_1.length c0_1]) (t := 50) ?hr ?_; (case hd => rfl); (case hg => rfl); (case hr => first | (go_simp; done) | (go_simp; rfl)); intro gb135 hg w10 hbox hb; have n0_ := Aside0.mk (below_step (by repeat (first | (with_reducible first | exact HB.out | apply below_alloc | apply pw_below_drewN | apply below_drew1) | exact HB.out)) hb); have n1_ := Aside0.mk (hbox); have n2_ := Aside0.mk ((by rw [hg]; exact (below_size (by repeat (first | (with_reducible first | exact HB.out | apply below_alloc | apply pw_below_drewN | apply below_drew1) | exact HB.out))) : w.heap.size ≤ gb135)); have n3_ := Aside0.mk ((by rw [hg]; exact (below_size (by repeat (first | (with_reducible first | exact HB.out | apply below_alloc | apply pw_below_drewN | apply below_drew1) | exact HB.out))) : w.heap.size ≤ gb135)); clear HB; have HB := n0_; have BK135 := n1_; have GW135 := n2_; have GE135 := n3_; clear n0_ n1_ n2_ n3_; clear hb hbox hg; have hcz11_0 : w10.cell? ⟨gb135, 0, none⟩ = some (.int .i64 a0_0) := (blk_cell BK135.out 0).trans rfl; have hcz11_1 : w10.cell? ⟨gb135, 1, none⟩ = some (.slice A0_1 l0_1.length c0_1) := (blk_cell BK135.out 1).trans rfl; have hfz11_0 := blk_frozen BK135.out 0; have hfz11_1 := blk_frozen BK135.out 1)); try go_wp2_with (first | ((with_reducible refine gate_dst (N := 1) rfl ?_); (try (refine gate_guard (by rfl) ?_; dsimp only)); refine box_event ?hg (N := 1) ?hd (cs := #[.int .i64 a0_0, .slice A0_1 l0_1.length c0_1]) (t := 50) ?hr ?_; (case hd => rfl); (case hg => rfl); (case hr => first | (go_simp; done) | (go_simp; rfl)); intro gb135 hg w10 hbox hb; have n0_ := Aside0.mk (below_step (by repeat (first | (with_reducible first | exact HB.out | apply below_alloc | apply pw_below_drewN | apply below_drew1) | exact HB.out)) hb); have n1_ := Aside0.mk (hbox); have n2_ := Aside0.mk ((by rw [hg]; exact (below_size (by repeat (first | (with_reducible first | exact HB.out | apply below_alloc | apply pw_below_drewN | apply below_drew1) | exact HB.out))) : w.heap.size ≤ gb135)); have n3_ := Aside0.mk ((by rw [hg]; exact (below_size (by repeat (first | (with_reducible first | exact HB.out | apply below_alloc | apply pw_below_drewN | apply below_drew1) | exact HB.out))) : w.heap.size ≤ gb135)); clear HB; have HB := n0_; have BK135 := n1_; have GW135 := n2_; have GE135 := n3_; clear n0_ n1_ n2_ n3_; clear hb hbox hg; have hcz11_0 : w10.cell? ⟨gb135, 0, none⟩ = some (.int .i64 a0_0) := (blk_cell BK135.out 0).trans rfl; have hcz11_1 : w10.cell? ⟨gb135, 1, none⟩ = some (.slice A0_1 l0_1.length c0_1) := (blk_cell BK135.out 1).trans rfl; have hfz11_0 := blk_frozen BK135.out 0; have hfz11_1 := blk_frozen BK135.out 1)))
          go_ret
          exact ⟨by first | rfl | (simp [errW_none, errW_some] <;> rfl) | (simp only [← hji5]; first | rfl | (simp [errW_none, errW_some] <;> rfl)) | (simp [*, errW_none, errW_some] <;> rfl), by repeat (first | (with_reducible first | exact HB.out | apply below_alloc | apply pw_below_drewN | apply below_drew1 | refine below_set ?_ GE135.out) | exact HB.out)⟩
      · rw [if_neg c4] at H
        exact absurd H (by simp)
    · rw [if_neg c3] at H
      have c3b0 : decide (a0_0 ≤ 4) = false := decide_eq_false c3
      clear c3
      obtain rfl := Option.some.inj H
      go_enter Try.func60, Try.ntmps60
      go_wp2_with (first | ((with_reducible refine gate_dst (N := 1) rfl ?_); (try (refine gate_guard (by rfl) ?_; dsimp only)); refine box_event ?hg (N := 1) ?hd (cs := #[.int .i64 a0_0, .slice A0_1 l0_1.length c0_1]) (t := 50) ?hr ?_; (case hd => rfl); (case hg => rfl); (case hr => first | (go_simp; done) | (go_simp; rfl)); intro gb135 hg w12 hbox hb; have n0_ := Aside0.mk (below_step (by repeat (first | (with_reducible first | exact HB.out | apply below_alloc | apply pw_below_drewN | apply below_drew1) | exact HB.out)) hb); have n1_ := Aside0.mk (hbox); have n2_ := Aside0.mk ((by rw [hg]; exact (below_size (by repeat (first | (with_reducible first | exact HB.out | apply below_alloc | apply pw_below_drewN | apply below_drew1) | exact HB.out))) : w.heap.size ≤ gb135)); have n3_ := Aside0.mk ((by rw [hg]; exact (below_size (by repeat (first | (with_reducible first | exact HB.out | apply below_alloc | apply pw_below_drewN | apply below_drew1) | exact HB.out))) : w.heap.size ≤ gb135)); clear HB; have HB := n0_; have BK135 := n1_; have GW135 := n2_; have GE135 := n3_; clear n0_ n1_ n2_ n3_; clear hb hbox hg; have hcz13_0 : w12.cell? ⟨gb135, 0, none⟩ = some (.int .i64 a0_0) := (blk_cell BK135.out 0).trans rfl; have hcz13_1 : w12.cell? ⟨gb135, 1, none⟩ = some (.slice A0_1 l0_1.length c0_1) := (blk_cell BK135.out 1).trans rfl; have hfz13_0 := blk_frozen BK135.out 0; have hfz13_1 := blk_frozen BK135.out 1))
      repeat (go_quiet (first | ((with_reducible refine gate_dst (N := 1) rfl ?_); (try (refine gate_guard (by rfl) ?_; dsimp only)); refine box_event ?hg (N := 1) ?hd (cs := #[.int .i64 a0_0, .slice A0_1 l0_1.length c0_1]) (t := 50) ?hr ?_; (case hd => rfl); (case hg => rfl); (case hr => first | (go_simp; done) | (go_simp; rfl)); intro gb135 hg w12 hbox hb; have n0_ := Aside0.mk (below_step (by repeat (first | (with_reducible first | exact HB.out | apply below_alloc | apply pw_below_drewN | apply below_drew1) | exact HB.out)) hb); have n1_ := Aside0.mk (hbox); have n2_ := Aside0.mk ((by rw [hg]; exact (below_size (by repeat (first | (with_reducible first | exact HB.out | apply below_alloc | apply pw_below_drewN | apply below_drew1) | exact HB.out))) : w.heap.size ≤ gb135)); have n3_ := Aside0.mk ((by rw [hg]; exact (below_size (by repeat (first | (with_reducible first | exact HB.out | apply below_alloc | apply pw_below_drewN | apply below_drew1) | exact HB.out))) : w.heap.size ≤ gb135)); clear HB; have HB := n0_; have BK135 := n1_; have GW135 := n2_; have GE135 := n3_; clear n0_ n1_ n2_ n3_; clear hb hbox hg; have hcz13_0 : w12.cell? ⟨gb135, 0, none⟩ = some (.int .i64 a0_0) := (blk_cell BK135.out 0).trans rfl; have hcz13_1 : w12.cell? ⟨gb135, 1, none⟩ = some (.slice A0_1 l0_1.length c0_1) := (blk_cell BK135.out 1).trans rfl; have hfz13_0 := blk_frozen BK135.out 0; have hfz13_1 := blk_frozen BK135.out 1)); try go_wp2_with (first | ((with_reducible refine gate_dst (N := 1) rfl ?_); (try (refine gate_guard (by rfl) ?_; dsimp only)); refine box_event ?hg (N := 1) ?hd (cs := #[.int .i64 a0_0, .slice A0_1 l0_1.length c0_1]) (t := 50) ?hr ?_; (case hd => rfl); (case hg => rfl); (case hr => first | (go_simp; done) | (go_simp; rfl)); intro gb135 hg w12 hbox hb; have n0_ := Aside0.mk (below_step (by repeat (first | (with_reducible first | exact HB.out | apply below_alloc | apply pw_below_drewN | apply below_drew1) | exact HB.out)) hb); have n1_ := Aside0.mk (hbox); have n2_ := Aside0.mk ((by rw [hg]; exact (below_size (by repeat (first | (with_reducible first | exact HB.out | apply below_alloc | apply pw_below_drewN | apply below_drew1) | exact HB.out))) : w.heap.size ≤ gb135)); have n3_ := Aside0.mk ((by rw [hg]; exact (below_size (by repeat (first | (with_reducible first | exact HB.out | apply below_alloc | apply pw_below_drewN | apply below_drew1) | exact HB.out))) : w.heap.size ≤ gb135)); clear HB; have HB := n0_; have BK135 := n1_; have GW135 := n2_; have GE135 := n3_; clear n0_ n1_ n2_ n3_; clear hb hbox hg; have hcz13_0 : w12.cell? ⟨gb135, 0, none⟩ = some (.int .i64 a0_0) := (blk_cell BK135.out 0).trans rfl; have hcz13_1 : w12.cell? ⟨gb135, 1, none⟩ = some (.slice A0_1 l0_1.length c0_1) := (blk_cell BK135.out 1).trans rfl; have hfz13_0 := blk_frozen BK135.out 0; have hfz13_1 := blk_frozen BK135.out 1)))
      go_ret
      exact ⟨by first | rfl | (simp [errW_none, errW_some] <;> rfl) | (simp [*, errW_none, errW_some] <;> rfl), by repeat (first | (with_reducible first | exact HB.out | apply below_alloc | apply pw_below_drewN | apply below_drew1 | refine below_set ?_ GE135.out) | exact HB.out)⟩
  · rw [if_neg c2] at H
    have c2b0 : decide (0 ≤ a0_0) = false := decide_eq_false c2
    clear c2
    obtain rfl := Option.some.inj H
    go_enter Try.func60, Try.ntmps60
    go_wp2_with (first | ((with_reducible refine gate_dst (N := 1) rfl ?_); (try (refine gate_guard (by rfl) ?_; dsimp only)); refine box_event ?hg (N := 1) ?hd (cs := #[.int .i64 a0_0, .slice A0_1 l0_1.length c0_1]) (t := 50) ?hr ?_; (case hd => rfl); (case hg => rfl); (case hr => first | (go_simp; done) | (go_simp; rfl)); intro gb135 hg w14 hbox hb; have n0_ := Aside0.mk (below_step (by repeat (first | (with_reducible first | exact HB.out | apply below_alloc | apply pw_below_drewN | apply below_drew1) | exact HB.out)) hb); have n1_ := Aside0.mk (hbox); have n2_ := Aside0.mk ((by rw [hg]; exact (below_size (by repeat (first | (with_reducible first | exact HB.out | apply below_alloc | apply pw_below_drewN | apply below_drew1) | exact HB.out))) : w.heap.size ≤ gb135)); have n3_ := Aside0.mk ((by rw [hg]; exact (below_size (by repeat (first | (with_reducible first | exact HB.out | apply below_alloc | apply pw_below_drewN | apply below_drew1) | exact HB.out))) : w.heap.size ≤ gb135)); clear HB; have HB := n0_; have BK135 := n1_; have GW135 := n2_; have GE135 := n3_; clear n0_ n1_ n2_ n3_; clear hb hbox hg; have hcz15_0 : w14.cell? ⟨gb135, 0, none⟩ = some (.int .i64 a0_0) := (blk_cell BK135.out 0).trans rfl; have hcz15_1 : w14.cell? ⟨gb135, 1, none⟩ = some (.slice A0_1 l0_1.length c0_1) := (blk_cell BK135.out 1).trans rfl; have hfz15_0 := blk_frozen BK135.out 0; have hfz15_1 := blk_frozen BK135.out 1))
    repeat (go_quiet (first | ((with_reducible refine gate_dst (N := 1) rfl ?_); (try (refine gate_guard (by rfl) ?_; dsimp only)); refine box_event ?hg (N := 1) ?hd (cs := #[.int .i64 a0_0, .slice A0_1 l0_1.length c0_1]) (t := 50) ?hr ?_; (case hd => rfl); (case hg => rfl); (case hr => first | (go_simp; done) | (go_simp; rfl)); intro gb135 hg w14 hbox hb; have n0_ := Aside0.mk (below_step (by repeat (first | (with_reducible first | exact HB.out | apply below_alloc | apply pw_below_drewN | apply below_drew1) | exact HB.out)) hb); have n1_ := Aside0.mk (hbox); have n2_ := Aside0.mk ((by rw [hg]; exact (below_size (by repeat (first | (with_reducible first | exact HB.out | apply below_alloc | apply pw_below_drewN | apply below_drew1) | exact HB.out))) : w.heap.size ≤ gb135)); have n3_ := Aside0.mk ((by rw [hg]; exact (below_size (by repeat (first | (with_reducible first | exact HB.out | apply below_alloc | apply pw_below_drewN | apply below_drew1) | exact HB.out))) : w.heap.size ≤ gb135)); clear HB; have HB := n0_; have BK135 := n1_; have GW135 := n2_; have GE135 := n3_; clear n0_ n1_ n2_ n3_; clear hb hbox hg; have hcz15_0 : w14.cell? ⟨gb135, 0, none⟩ = some (.int .i64 a0_0) := (blk_cell BK135.out 0).trans rfl; have hcz15_1 : w14.cell? ⟨gb135, 1, none⟩ = some (.slice A0_1 l0_1.length c0_1) := (blk_cell BK135.out 1).trans rfl; have hfz15_0 := blk_frozen BK135.out 0; have hfz15_1 := blk_frozen BK135.out 1)); try go_wp2_with (first | ((with_reducible refine gate_dst (N := 1) rfl ?_); (try (refine gate_guard (by rfl) ?_; dsimp only)); refine box_event ?hg (N := 1) ?hd (cs := #[.int .i64 a0_0, .slice A0_1 l0_1.length c0_1]) (t := 50) ?hr ?_; (case hd => rfl); (case hg => rfl); (case hr => first | (go_simp; done) | (go_simp; rfl)); intro gb135 hg w14 hbox hb; have n0_ := Aside0.mk (below_step (by repeat (first | (with_reducible first | exact HB.out | apply below_alloc | apply pw_below_drewN | apply below_drew1) | exact HB.out)) hb); have n1_ := Aside0.mk (hbox); have n2_ := Aside0.mk ((by rw [hg]; exact (below_size (by repeat (first | (with_reducible first | exact HB.out | apply below_alloc | apply pw_below_drewN | apply below_drew1) | exact HB.out))) : w.heap.size ≤ gb135)); have n3_ := Aside0.mk ((by rw [hg]; exact (below_size (by repeat (first | (with_reducible first | exact HB.out | apply below_alloc | apply pw_below_drewN | apply below_drew1) | exact HB.out))) : w.heap.size ≤ gb135)); clear HB; have HB := n0_; have BK135 := n1_; have GW135 := n2_; have GE135 := n3_; clear n0_ n1_ n2_ n3_; clear hb hbox hg; have hcz15_0 : w14.cell? ⟨gb135, 0, none⟩ = some (.int .i64 a0_0) := (blk_cell BK135.out 0).trans rfl; have hcz15_1 : w14.cell? ⟨gb135, 1, none⟩ = some (.slice A0_1 l0_1.length c0_1) := (blk_cell BK135.out 1).trans rfl; have hfz15_0 := blk_frozen BK135.out 0; have hfz15_1 := blk_frozen BK135.out 1)))
    go_ret
    exact ⟨by first | rfl | (simp [errW_none, errW_some] <;> rfl) | (simp [*, errW_none, errW_some] <;> rfl), by repeat (first | (with_reducible first | exact HB.out | apply below_alloc | apply pw_below_drewN | apply below_drew1 | refine below_set ?_ GE135.out) | exact HB.out)⟩

/-! ### impl_TermCircuit: function 27 -/
open Go.Proofs.Yteefbjkhheghkaa.Sep in
set_option maxHeartbeats 16000000 in
set_option maxRecDepth 100000 in
theorem impl_TermCircuit.add (w0 : World) (n : Int) (hn : 0 ≤ n ∧ n ≤ 4) (go gt : Nat) (vo vv : Value) (kind a b : Int) (gs : List (S74)) (hg : gs.length ≤ 1000) (w : World) (vg : Value) (F : List Sep.Item) (_h : Own w0 w (Sep.Item.box go 47 #[.int .i64 n, vg, vo] :: Sep.Item.row k74 74 vg gs :: Sep.Item.box gt 50 #[.int .i64 n, vv] :: F)) :
    Calls Try.prog 61 #[.int .i64 kind, .int .i64 a, .int .i64 b, .pointer (some ⟨go, 0, none⟩), .pointer (some ⟨gt, 0, none⟩)] w fun e w' => e = .returned (.int .i64 (n + (gs.length : Int))) ∧ ∃ (A : Option Addr) (m c : Nat), Own w0 w' (Sep.Item.box go 47 #[.int .i64 n, (.slice A m c), vo] :: Sep.Item.row k74 74 (.slice A m c) (gs ++ [(⟨kind, a, b⟩ : S74)]) :: Sep.Item.box gt 50 #[.int .i64 n, vv] :: F) := by
  obtain ⟨Ag, cg, rfl⟩ := _h.row_slice 1 rfl
  have HO := Aside0.mk _h
  clear _h
  go_enter Try.func61, Try.ntmps61
  have z_1 : w.cell? ⟨go, 1, none⟩ = some (.slice Ag gs.length cg) := (HO.out.cell 0 rfl 1 rfl)
  go_wp2_with (first | ((with_reducible refine gate_dst (N := 16) rfl ?_); at_builtin; refine Sep.own_append k74 HO.out 1 _ (gs) 74 rfl rfl (.tmp 10) (.tmp 15) 45 (.agg #[.int .i64 0, .int .i64 0, .int .i64 0]) 24 rfl Try.underlying45 info74 rfl (by decide) (by omega) ((⟨kind, a, b⟩ : S74)) [.int .i64 kind, .int .i64 a, .int .i64 b] rfl rfl (k74_mkM _ _ _ _) (by omega) ?_; intro x_16 w_2 ho; obtain ⟨A_16, n_16, c_16, hn_, rfl⟩ := ho.row_seal 1 rfl; have HN_16 := Aside0.mk hn_; clear hn_; have HO_2 := Aside0.mk ho; clear ho) | ((with_reducible refine gate_store (t := 45) (p := 17) (v := .tmp 16) rfl ?_); refine Sep.own_store_at HO_2.out 0 go 47 _ rfl rfl rfl 45 (.tmp 17) (.tmp 16) rfl 1 rfl (.slice A_16 n_16 c_16) rfl rfl (by kernel_rfl) rfl (by simp) ?_; intro w_3 ho; have HO_3 := Aside0.mk ho; clear ho; have z_2 : w_3.cell? ⟨gt, 0, none⟩ = some (.int .i64 n) := (HO_3.out.cell 2 rfl 0 rfl); have z_3 : w_3.cell? ⟨go, 1, none⟩ = some (.slice A_16 n_16 c_16) := (HO_3.out.cell 0 rfl 1 rfl)))
  have hv : wrap64 (wrap64 (n + (n_16 : Int)) - 1) = n + (gs.length : Int) := by have e := HN_16.out; rw [List.length_append, List.length_singleton] at e; unfold wrap64; omega
  go_ret
  exact ⟨by first | rfl | (rw [hv]; rfl) | (simp [hv]; done), _, _, _, HO_3.out⟩

theorem tc_rd_iota (n : Nat) (j : Int) (h0 : 0 ≤ j) (h1 : j < (n : Int)) : rd (Sep.iota n) j = j := by
  unfold rd Sep.iota
  have hl : j.toNat < n := by omega
  rw [List.getD_eq_getElem?_getD, List.getElem?_map, List.getElem?_range hl]
  simp
  omega
def tcOnes (l : List Int) (j : Int) : List Int := ((Sep.iota l.length).drop j.toNat).filter (fun i => decide (rd l i ≠ 0))
theorem tcOnes_step (l : List Int) (j : Int) (h0 : 0 ≤ j) (h1 : j < (l.length : Int)) : tcOnes l j = if rd l j = 0 then tcOnes l (j + 1) else j :: tcOnes l (j + 1) := by
  unfold tcOnes
  rw [tc_drop (Sep.iota l.length) j h0 (by rw [Sep.iota_length]; exact h1), tc_rd_iota l.length j h0 h1, List.filter_cons]
  by_cases h : rd l j = 0 <;> simp [h]
theorem tcOnes_end (l : List Int) : tcOnes l (l.length : Int) = [] := by
  unfold tcOnes
  rw [Int.toNat_natCast, List.drop_eq_nil_of_le (by rw [Sep.iota_length]; exact Nat.le_refl _)]
  rfl
theorem tcWires_succ (n x i : Int) (h : 0 ≤ i) : tcWires n x (i + 1).toNat = tcWires n x i.toNat ++ [tcWire n x i] := by
  unfold tcWires
  rw [Sep.iota_succ i h, List.map_append, List.map_singleton]
theorem tc_first (n : Int) (gs : List (S74)) (l : List Int) (gt : List (S74)) (last w : Int) (hn : 0 ≤ n) (hl : ∀ k ∈ l, 0 ≤ k) (h : tcAll n 1 gs l = (gt, last)) (h1 : last < 0) : tcAll n 1 gs (l ++ [w]) = (gt, w) := by
  rcases List.eq_nil_or_concat l with rfl | ⟨r, k, rfl⟩
  · simp only [tcAll, Prod.mk.injEq] at h
    obtain ⟨rfl, rfl⟩ := h
    rfl
  · exfalso
    cases r with
    | nil => simp [tcAll, tcJoin] at h hl; omega
    | cons y r => rw [List.concat_eq_append, List.cons_append, tcAll, tcJoin_snoc] at h; injection h with _ e; omega
theorem tc_more (n : Int) (gs : List (S74)) (l : List Int) (gt : List (S74)) (last w : Int) (h : tcAll n 1 gs l = (gt, last)) (h1 : ¬ last < 0) : tcAll n 1 gs (l ++ [w]) = (gt ++ [(⟨1, last, w⟩ : S74)], n + (gt.length : Int)) := by
  cases l with
  | nil => simp only [tcAll, Prod.mk.injEq] at h; omega
  | cons k r => rw [List.cons_append, tcAll, tcJoin_snoc]; rw [tcAll] at h; rw [h]
theorem tcWires_pos (n x : Int) (d : Nat) (hn : 0 ≤ n) : ∀ k ∈ tcWires n x d, 0 ≤ k := by
  intro k hk
  unfold tcWires at hk
  obtain ⟨i, hi, rfl⟩ := List.mem_map.1 hk
  have := Sep.iota_mem hi
  unfold tcWire
  split <;> omega
def impl_TermCircuit.f (k : Nat) (a0_0 : Int) (l0_1 : List Int) : Option (Int × List (S74) × List Int × Bool) :=
  (impl_IsTable.f k a0_0 l0_1).bind fun t => if t = true then (if a0_0 < 1 then some (0, [], [], false) else (if a0_0 ≤ 4 ∧ l0_1.length ≤ 16 then (if tcOnes l0_1 0 = [] then some (0, [], [], false) else (if 16 < (tcMade a0_0.toNat (tcOnes l0_1 0)).1.length then some (0, [], [], false) else some (a0_0, (tcMade a0_0.toNat (tcOnes l0_1 0)).1, [(tcMade a0_0.toNat (tcOnes l0_1 0)).2], true))) else none)) else some (0, [], [], false)
theorem impl_TermCircuit.mono : ∀ a0 a1 k, LeO (impl_TermCircuit.f k a0 a1) (impl_TermCircuit.f (k + 1) a0 a1) := fun a0 a1 k =>
  LeO.bind (impl_IsTable.mono a0 a1 k) (fun t => LeO.ite (LeO.refl _) (LeO.refl _))
open Go.Proofs.Yteefbjkhheghkaa.Sep in
set_option maxHeartbeats 16000000 in
set_option maxRecDepth 100000 in
theorem impl_TermCircuit.calls (k : Nat) (a0_0 : Int) (A0_1 : Option Addr) (c0_1 : Nat) (l0_1 : List Int) (r1 : Int) (r2 : List (S74)) (r3 : List Int) (r4 : Bool) (w : World) (hr0_1 : Kd.C (Kd.int .i64) w A0_1 l0_1.length l0_1) (hc0_1 : l0_1.length ≤ c0_1) (h : impl_TermCircuit.f k a0_0 l0_1 = some (r1, r2, r3, r4)) :
    Calls Try.prog 27 #[.agg #[.int .i64 a0_0, .slice A0_1 l0_1.length c0_1]] w fun e w' => ∃ v1_ v2_ : Value, e = .returned (.tuple #[.agg #[.int .i64 r1, v1_, v2_], .bool r4]) ∧ Kd.R k74 74 w' w.heap.size (fun _ => True) v1_ r2 ∧ Kd.R (Kd.int .i64) 3 w' w.heap.size (fun _ => True) v2_ r3 ∧ Below w.heap.size w w' := by
  have HR := Aside0.mk hr0_1
  have HC := Aside0.mk hc0_1
  clear hr0_1 hc0_1
  unfold impl_TermCircuit.f at h
  obtain ⟨t, hA, h1⟩ := Option.bind_eq_some_iff.mp h
  clear h
  have HA := Aside0.mk hA
  clear hA
  cases t with
  | false =>
    rw [if_neg (by decide)] at h1
    have h2_ : ((0 : Int), ([] : List (S74)), ([] : List Int), false) = (r1, r2, r3, r4) := Option.some.inj h1
    clear h1
    injection h2_ with e1 e2
    injection e2 with e2 e3
    injection e3 with e3 e4
    subst e1
    subst e2
    subst e3
    subst e4
    go_enter Try.func27, Try.ntmps27
    go_wp2_with (first | ((with_reducible refine gate_dst (N := 1) rfl ?_); refine box_event ?hg (N := 1) ?hd (cs := #[.int .i64 a0_0, .slice A0_1 l0_1.length c0_1]) (t := 50) ?hr ?_; (case hd => rfl); (case hg => rfl); (case hr => first | (go_simp; done) | (go_simp; rfl)); intro gt hg w_1 hbox hb; have HO_1 := Aside0.mk ((Sep.Own.nil w).add_box (T := 50) (cs := #[.int .i64 a0_0, .slice A0_1 l0_1.length c0_1]) hg hbox hb); clear hg hbox hb) | ((with_reducible refine gate_dst (N := 2) rfl ?_); refine box_event ?hg (N := 2) ?hd (cs := #[.int .i64 0, .slice none 0 0, .slice none 0 0]) (t := 47) ?hr ?_; (case hd => rfl); (case hg => rfl); (case hr => first | (go_simp; done) | (go_simp; rfl)); intro gr hg w_2 hbox hb; have HO_2 := Aside0.mk (HO_1.out.add_box (T := 47) (cs := #[.int .i64 0, .slice none 0 0, .slice none 0 0]) hg hbox hb); clear hg hbox hb; have z_1 : w_2.cell? ⟨gt, 0, none⟩ = some (.int .i64 a0_0) := (HO_2.out.cell 1 rfl 0 rfl); have z_2 : w_2.cell? ⟨gt, 1, none⟩ = some (.slice A0_1 l0_1.length c0_1) := (HO_2.out.cell 1 rfl 1 rfl)) | ((with_reducible refine gate_callee (f := 60) rfl ?_); refine goesL_ (some 17) rfl rfl Try.func60 (by kernel_rfl) rfl #[.agg #[.int .i64 a0_0, .slice A0_1 l0_1.length c0_1]] rfl (by (try simp only [List.map_toArray, List.map_cons, List.map_nil]); first | done | rfl) ?_; (with_reducible refine (impl_IsTable.calls k a0_0 _ _ l0_1 false _ (by exact Kd.C_below HR.out HO_2.out.base) HC.out HA.out).mono ?_); rintro e w_3 ⟨rfl, hb⟩; refine ⟨_, rfl, ?_⟩; have HO_3 := Aside0.mk (HO_2.out.below hb); clear hb) | ((with_reducible refine gate_store (t := 47) (p := 2) (v := .tmp 24) rfl ?_); refine Sep.own_store HO_3.out 0 gr 47 _ #[.int .i64 0, .slice none 0 0, .slice none 0 0] rfl rfl rfl 47 (.tmp 2) (.tmp 24) rfl rfl _ rfl rfl rfl (by kernel_rfl) (by simp [Value.oneCell']) ?_; intro w_4 ho; have HO_4 := Aside0.mk ho; clear ho))
    (try simp only [Exit.inBlock, Exit.then])
    refine bodyPost_ret (results_ct rfl _ _ gr 47 #[.int .i64 0, .slice none 0 0, .slice none 0 0] (0, 0) _ rfl (HO_4.out.blk 0 rfl) Try.underlying47 rfl (by kernel_rfl)) rfl ?_
    exact ⟨_, _, rfl, Kd.R_nil _ _ _ _ _, Kd.R_nil _ _ _ _ _, HO_4.out.base⟩
  | true =>
    rw [if_pos rfl] at h1
    by_cases c0 : a0_0 < 1
    · rw [if_pos c0] at h1
      have h2_ : ((0 : Int), ([] : List (S74)), ([] : List Int), false) = (r1, r2, r3, r4) := Option.some.inj h1
      clear h1
      injection h2_ with e1 e2
      injection e2 with e2 e3
      injection e3 with e3 e4
      subst e1
      subst e2
      subst e3
      subst e4
      have c0b := decide_eq_true c0
      go_enter Try.func27, Try.ntmps27
      go_wp2_with (first | ((with_reducible refine gate_dst (N := 1) rfl ?_); refine box_event ?hg (N := 1) ?hd (cs := #[.int .i64 a0_0, .slice A0_1 l0_1.length c0_1]) (t := 50) ?hr ?_; (case hd => rfl); (case hg => rfl); (case hr => first | (go_simp; done) | (go_simp; rfl)); intro gt hg w_1 hbox hb; have HO_1 := Aside0.mk ((Sep.Own.nil w).add_box (T := 50) (cs := #[.int .i64 a0_0, .slice A0_1 l0_1.length c0_1]) hg hbox hb); clear hg hbox hb) | ((with_reducible refine gate_dst (N := 2) rfl ?_); refine box_event ?hg (N := 2) ?hd (cs := #[.int .i64 0, .slice none 0 0, .slice none 0 0]) (t := 47) ?hr ?_; (case hd => rfl); (case hg => rfl); (case hr => first | (go_simp; done) | (go_simp; rfl)); intro gr hg w_2 hbox hb; have HO_2 := Aside0.mk (HO_1.out.add_box (T := 47) (cs := #[.int .i64 0, .slice none 0 0, .slice none 0 0]) hg hbox hb); clear hg hbox hb; have z_1 : w_2.cell? ⟨gt, 0, none⟩ = some (.int .i64 a0_0) := (HO_2.out.cell 1 rfl 0 rfl); have z_2 : w_2.cell? ⟨gt, 1, none⟩ = some (.slice A0_1 l0_1.length c0_1) := (HO_2.out.cell 1 rfl 1 rfl)) | ((with_reducible refine gate_callee (f := 60) rfl ?_); refine goesL_ (some 17) rfl rfl Try.func60 (by kernel_rfl) rfl #[.agg #[.int .i64 a0_0, .slice A0_1 l0_1.length c0_1]] rfl (by (try simp only [List.map_toArray, List.map_cons, List.map_nil]); first | done | rfl) ?_; (with_reducible refine (impl_IsTable.calls k a0_0 _ _ l0_1 true _ (by exact Kd.C_below HR.out HO_2.out.base) HC.out HA.out).mono ?_); rintro e w_3 ⟨rfl, hb⟩; refine ⟨_, rfl, ?_⟩; have HO_3 := Aside0.mk (HO_2.out.below hb); clear hb; have z_3 : w_3.cell? ⟨gt, 0, none⟩ = some (.int .i64 a0_0) := (HO_3.out.cell 1 rfl 0 rfl)) | ((with_reducible refine gate_store (t := 47) (p := 2) (v := .tmp 24) rfl ?_); refine Sep.own_store HO_3.out 0 gr 47 _ #[.int .i64 0, .slice none 0 0, .slice none 0 0] rfl rfl rfl 47 (.tmp 2) (.tmp 24) rfl rfl _ rfl rfl rfl (by kernel_rfl) (by simp [Value.oneCell']) ?_; intro w_4 ho; have HO_4 := Aside0.mk ho; clear ho))
      (try simp only [Exit.inBlock, Exit.then])
      refine bodyPost_ret (results_ct rfl _ _ gr 47 #[.int .i64 0, .slice none 0 0, .slice none 0 0] (0, 0) _ rfl (HO_4.out.blk 0 rfl) Try.underlying47 rfl (by kernel_rfl)) rfl ?_
      exact ⟨_, _, rfl, Kd.R_nil _ _ _ _ _, Kd.R_nil _ _ _ _ _, HO_4.out.base⟩
    · rw [if_neg c0] at h1
      split at h1
      · rename_i hcc
        obtain ⟨hn4, hl16⟩ := hcc
        obtain ⟨n, rfl⟩ := Int.eq_ofNat_of_zero_le (show 0 ≤ a0_0 by omega)
        rw [Int.toNat_natCast] at h1
        have HNN := Aside0.mk (show 0 ≤ (n : Int) ∧ (n : Int) ≤ 4 ∧ 1 ≤ n by omega)
        have HO16 := Aside0.mk hl16
        have c0b : decide ((n : Int) < 1) = false := decide_eq_false c0
        clear c0 hn4 hl16
        have H1 := Aside0.mk h1
        clear h1
        go_enter Try.func27, Try.ntmps27
        go_wp2_with (first | ((with_reducible refine gate_dst (N := 1) rfl ?_); refine box_event ?hg (N := 1) ?hd (cs := #[.int .i64 ((n : Int)), .slice A0_1 l0_1.length c0_1]) (t := 50) ?hr ?_; (case hd => rfl); (case hg => rfl); (case hr => first | (go_simp; done) | (go_simp; rfl)); intro gt hg w_1 hbox hb; have HO_1 := Aside0.mk ((Sep.Own.nil w).add_box (T := 50) (cs := #[.int .i64 ((n : Int)), .slice A0_1 l0_1.length c0_1]) hg hbox hb); clear hg hbox hb) | ((with_reducible refine gate_dst (N := 2) rfl ?_); refine box_event ?hg (N := 2) ?hd (cs := #[.int .i64 0, .slice none 0 0, .slice none 0 0]) (t := 47) ?hr ?_; (case hd => rfl); (case hg => rfl); (case hr => first | (go_simp; done) | (go_simp; rfl)); intro gr hg w_2 hbox hb; have HO_2 := Aside0.mk (HO_1.out.add_box (T := 47) (cs := #[.int .i64 0, .slice none 0 0, .slice none 0 0]) hg hbox hb); clear hg hbox hb; have z_1 : w_2.cell? ⟨gt, 0, none⟩ = some (.int .i64 ((n : Int))) := (HO_2.out.cell 1 rfl 0 rfl); have z_2 : w_2.cell? ⟨gt, 1, none⟩ = some (.slice A0_1 l0_1.length c0_1) := (HO_2.out.cell 1 rfl 1 rfl)) | ((with_reducible refine gate_callee (f := 60) rfl ?_); refine goesL_ (some 17) rfl rfl Try.func60 (by kernel_rfl) rfl #[.agg #[.int .i64 ((n : Int)), .slice A0_1 l0_1.length c0_1]] rfl (by (try simp only [List.map_toArray, List.map_cons, List.map_nil]); first | done | rfl) ?_; (with_reducible refine (impl_IsTable.calls k (n : Int) _ _ l0_1 true _ (by exact Kd.C_below HR.out HO_2.out.base) HC.out HA.out).mono ?_); rintro e w_3 ⟨rfl, hb⟩; refine ⟨_, rfl, ?_⟩; have HO_3 := Aside0.mk (HO_2.out.below hb); clear hb; have z_3 : w_3.cell? ⟨gt, 0, none⟩ = some (.int .i64 ((n : Int))) := (HO_3.out.cell 1 rfl 0 rfl); have z_4 : w_3.cell? ⟨gt, 0, none⟩ = some (.int .i64 ((n : Int))) := (HO_3.out.cell 1 rfl 0 rfl)) | ((with_reducible refine gate_dst (N := 4) rfl ?_); refine box_event ?hg (N := 4) ?hd (cs := #[.int .i64 0, .slice none 0 0, .slice none 0 0]) (t := 47) ?hr ?_; (case hd => rfl); (case hg => rfl); (case hr => first | (go_simp; done) | (go_simp; rfl)); intro gc hg w_4 hbox hb; have HO_4 := Aside0.mk (HO_3.out.add_box (T := 47) (cs := #[.int .i64 0, .slice none 0 0, .slice none 0 0]) hg hbox hb); clear hg hbox hb) | ((with_reducible refine gate_store (t := 47) (p := 4) (v := .tmp 27) rfl ?_); refine Sep.own_store HO_4.out 0 gc 47 _ #[.int .i64 ((n : Int)), .slice none 0 0, .slice none 0 0] rfl rfl rfl 47 (.tmp 4) (.tmp 27) rfl rfl _ rfl rfl rfl (by kernel_rfl) (by simp [Value.oneCell']) ?_; intro w_5 ho; have HO_5 := Aside0.mk ho; clear ho))
        (try simp only [Act.put, List.setIfInBounds_toArray, List.set_cons_zero, List.set_cons_succ])
        go_loopw [6] (fun v6 wr => ∃ (i : Int) (A_ : Option Addr) (m_ c_ : Nat), 0 ≤ i ∧ i ≤ (n : Int) ∧ v6 = .int .i64 i ∧ Aside0 (Own w wr [Item.box gc 47 #[.int .i64 ((n : Int)), .slice A_ m_ c_, .slice none 0 0], Item.row k74 74 (.slice A_ m_ c_) (((Sep.iota i.toNat).map (fun i => (⟨4, i, i⟩ : S74)))), Item.box gr 47 #[.int .i64 0, .slice none 0 0, .slice none 0 0], Item.box gt 50 #[.int .i64 ((n : Int)), .slice A0_1 l0_1.length c0_1]])) (fun v6 _ => n - (intOf v6).toNat)
        case atStart => exact ⟨0, none, 0, 0, Int.le_refl _, by omega, rfl, ⟨(((((HO_5.out.nilrow k74 74).front 3 rfl).front 3 rfl).front 2 rfl).front 3 rfl)⟩⟩
        case round =>
          obtain ⟨i, A_, m_, c_, hi0, hi1, rfl, HO⟩ := hrel
          clear HO_5
          by_cases c3 : i < (n : Int)
          · have c3b := decide_eq_true c3
            have hwi : wrap64 (i + 1) = i + 1 := by have := HNN.out; unfold wrap64; omega
            have z_5 : wr.cell? ⟨gt, 0, none⟩ = some (.int .i64 ((n : Int))) := (HO.out.cell 3 rfl 0 rfl)
            go_wp2_with (first | ((with_reducible refine gate_dst (N := 38) rfl ?_); refine Sep.goesCL_ (some 38) rfl rfl (f := 61) (fn := Try.f61) Try.func61 (by kernel_rfl) rfl #[.int .i64 4, .int .i64 i, .int .i64 i, .pointer (some ⟨gc, 0, none⟩), .pointer (some ⟨gt, 0, none⟩)] rfl rfl (by (try simp only [List.map_toArray, List.map_cons, List.map_nil]); first | done | rfl) ?_; refine (impl_TermCircuit.add w (n : Int) (by have := HNN.out; omega) gc gt _ _ 4 i i (((Sep.iota i.toNat).map (fun i => (⟨4, i, i⟩ : S74)))) (by rw [List.length_map, Sep.iota_length]; have := HNN.out; omega) _ _ [Item.box gr 47 #[.int .i64 0, .slice none 0 0, .slice none 0 0]] (((HO.out.front 3 rfl).front 2 rfl).front 2 rfl)).mono ?_; rintro e w_1 ⟨rfl, A_a6, m_a6, c_a6, ho⟩; refine ⟨_, rfl, ?_⟩; have HO_1 := Aside0.mk ho; clear ho))
            go_roundw
            case measure => simp only [intOf, hwi]; omega
            case rel => exact ⟨i + 1, _, _, _, by omega, by omega, by first | rfl | rw [hwi], ⟨by rw [Sep.iota_succ i hi0, List.map_append, List.map_singleton]; exact ((((HO_1.out.front 2 rfl).front 3 rfl).front 3 rfl).front 3 rfl)⟩⟩
          · have c3b := decide_eq_false c3
            obtain rfl : i = (n : Int) := by omega
            have ho := HO.out
            rw [Int.toNat_natCast] at ho
            have HO1 := Aside0.mk (show Own w wr [Item.box gc 47 #[.int .i64 ((n : Int)), .slice A_ m_ c_, .slice none 0 0], Item.row k74 74 (.slice A_ m_ c_) ((tcNots n)), Item.box gr 47 #[.int .i64 0, .slice none 0 0, .slice none 0 0], Item.box gt 50 #[.int .i64 ((n : Int)), .slice A0_1 l0_1.length c0_1]] from ho)
            clear ho HO
            have HO := HO1
            clear HO1
            have z_5 : wr.cell? ⟨gt, 0, none⟩ = some (.int .i64 ((n : Int))) := (HO.out.cell 3 rfl 0 rfl)
            go_wp2_with (first | ((with_reducible refine gate_dst (N := 39) rfl ?_); refine Sep.own_lit0 (Kd.int .i64) HO.out 3 ?hg (N := 39) ?hd ?hr ?_; (case hd => rfl); (case hg => rfl); (case hr => first | (go_simp; done) | (go_simp; rfl)); intro x_39 w_1 ho _; have HO_1 := Aside0.mk ho; clear ho; have z_6 : w_1.cell? ⟨gt, 1, none⟩ = some (.slice A0_1 l0_1.length c0_1) := (HO_1.out.cell 4 rfl 1 rfl)))
            (try simp only [Act.put, List.setIfInBounds_toArray, List.set_cons_zero, List.set_cons_succ])
            go_loopw [7, 43] (fun v7 v43 wr => ∃ (j : Int) (gs : List (S74)) (ts : List Int) (A_ : Option Addr) (m_ c_ : Nat), 0 ≤ j ∧ j ≤ (l0_1.length : Int) ∧ v43 = .int .i64 j ∧ Aside0 (tcTerms n (tcOnes l0_1 j) gs ts = tcTerms n (tcOnes l0_1 0) (tcNots n) []) ∧ Aside0 ((gs.length : Int) ≤ n + j * 4) ∧ Aside0 ((ts.length : Int) ≤ j) ∧ Aside0 (Own w wr [Item.box gc 47 #[.int .i64 ((n : Int)), .slice A_ m_ c_, .slice none 0 0], Item.row k74 74 (.slice A_ m_ c_) (gs), Item.row (Kd.int .i64) 3 (v7) (ts), Item.box gr 47 #[.int .i64 0, .slice none 0 0, .slice none 0 0], Item.box gt 50 #[.int .i64 ((n : Int)), .slice A0_1 l0_1.length c0_1]])) (fun _ v43 _ => l0_1.length - (intOf v43).toNat)
            case atStart => exact ⟨0, tcNots n, [], _, _, _, Int.le_refl _, by omega, rfl, ⟨rfl⟩, ⟨by rw [tcNots_length]; omega⟩, ⟨Int.le_refl _⟩, ⟨(((((HO_1.out.front 4 rfl).front 4 rfl).front 2 rfl).front 4 rfl).front 4 rfl)⟩⟩
            case round =>
              clear HO HO_1
              obtain ⟨j, gs, ts, A_, m_, c_, hj0, hj1, rfl, HT, HGL, HTL, HO⟩ := hrel
              by_cases c4 : j < (l0_1.length : Int)
              · have c4b := decide_eq_true c4
                have hwj : wrap64 (j + 1) = j + 1 := by have := HO16.out; unfold wrap64; omega
                obtain ⟨adv, ea, hx⟩ := Kd.at_int (Kd.C_below HR.out HO.out.base) j hj0 c4
                cases ea
                have p1 : (0 ≤ j) = True := eq_true hj0
                have q1 : (j < (l0_1.length : Int)) = True := eq_true c4
                have hT := HT.out
                rw [tcOnes_step l0_1 j hj0 c4] at hT
                obtain ⟨vv, hvv⟩ : ∃ vv, rd l0_1 j = vv := ⟨_, rfl⟩
                rw [hvv] at hx hT
                clear hvv HT
                by_cases c5 : vv = 0
                · subst c5
                  rw [if_pos rfl] at hT
                  have HT2 := Aside0.mk hT
                  clear hT
                  go_wp2
                  go_roundw
                  case measure => simp only [intOf, hwj]; omega
                  case rel => exact ⟨j + 1, gs, ts, _, _, _, by omega, by omega, by first | rfl | rw [hwj], HT2, ⟨by have := HGL.out; omega⟩, ⟨by have := HTL.out; omega⟩, HO⟩
                · rw [if_neg c5, tcTerms] at hT
                  have HT2 := Aside0.mk hT
                  clear hT
                  have c5b : (vv == 0) = false := beq_eq_false_iff_ne.mpr c5
                  go_wp2
                  go_loopw [10, 11] (fun v10 v11 wr => ∃ (i last : Int) (gf : List (S74)) (A_ : Option Addr) (m_ c_ : Nat), 0 ≤ i ∧ i ≤ (n : Int) ∧ v10 = .int .i64 last ∧ v11 = .int .i64 i ∧ Aside0 (tcAll n 1 gs (tcWires n j i.toNat) = (gf, last)) ∧ Aside0 ((gf.length : Int) ≤ gs.length + i) ∧ Aside0 (Own w wr [Item.box gc 47 #[.int .i64 ((n : Int)), .slice A_ m_ c_, .slice none 0 0], Item.row k74 74 (.slice A_ m_ c_) (gf), Item.row (Kd.int .i64) 3 (u7) (ts), Item.box gr 47 #[.int .i64 0, .slice none 0 0, .slice none 0 0], Item.box gt 50 #[.int .i64 ((n : Int)), .slice ((some adv)) l0_1.length c0_1]])) (fun _ v11 _ => n - (intOf v11).toNat)
                  case atStart => exact ⟨0, -1, gs, _, _, _, Int.le_refl _, by omega, rfl, rfl, ⟨rfl⟩, ⟨by omega⟩, ⟨(((((HO.out.front 4 rfl).front 4 rfl).front 4 rfl).front 4 rfl).front 4 rfl)⟩⟩
                  case round =>
                    clear HO hx
                    obtain ⟨i, last, gf, A_, m_, c_, hi0, hi1, rfl, rfl, HAL, HGF, HO⟩ := hrel
                    by_cases c6 : i < (n : Int)
                    · have c6b := decide_eq_true c6
                      have hwi : wrap64 (i + 1) = i + 1 := by have := HNN.out; unfold wrap64; omega
                      have hwn : wrap64 ((n : Int) + i) = (n : Int) + i := by have := HNN.out; unfold wrap64; omega
                      have p2 : (0 ≤ i) = True := eq_true hi0
                      have hws := tcWires_succ (n : Int) j i hi0
                      obtain ⟨bb, hbb⟩ : ∃ bb, Go.bits .and .i64 (j / 2 ^ min i.toNat 64) 1 = bb := ⟨_, rfl⟩
                      have hwire : tcWire (n : Int) j i = if bb = 0 then (n : Int) + i else i := by unfold tcWire; rw [show shr .i64 j i = j / 2 ^ min i.toNat 64 from by first | rfl | (unfold shr; simp; done) | (unfold shr; rfl), hbb]
                      have HWS := Aside0.mk hws
                      have HWI := Aside0.mk hwire
                      clear hws hwire
                      by_cases c7 : bb = 0
                      · subst c7
                        have hwv : tcWire (n : Int) j i = ((n : Int) + i) := by rw [HWI.out, if_pos rfl]
                        have HWV := Aside0.mk hwv
                        clear hwv
                        by_cases c8 : last < 0
                        · have c8b := decide_eq_true c8
                          have z_7 : wr.cell? ⟨gt, 0, none⟩ = some (.int .i64 ((n : Int))) := (HO.out.cell 4 rfl 0 rfl)
                          have z_8 : wr.cell? ⟨gt, 0, none⟩ = some (.int .i64 ((n : Int))) := (HO.out.cell 4 rfl 0 rfl)
                          go_wp2
                          have hres := tc_first (n : Int) gs _ gf last (tcWire (n : Int) j i) (by have := HNN.out; omega) (tcWires_pos _ _ _ (by have := HNN.out; omega)) HAL.out c8
                          rw [← HWS.out, HWV.out] at hres
                          have HRES := Aside0.mk hres
                          clear hres
                          go_roundw
                          case measure => simp only [intOf, hwi]; omega
                          case rel => exact ⟨i + 1, ((n : Int) + i), gf, _, _, _, by omega, by omega, by first | rfl | rw [hwn], by first | rfl | rw [hwi], HRES, ⟨by have := HGF.out; omega⟩, HO⟩
                        · have c8b := decide_eq_false c8
                          have z_7 : wr.cell? ⟨gt, 0, none⟩ = some (.int .i64 ((n : Int))) := (HO.out.cell 4 rfl 0 rfl)
                          have z_8 : wr.cell? ⟨gt, 0, none⟩ = some (.int .i64 ((n : Int))) := (HO.out.cell 4 rfl 0 rfl)
                          go_wp2_with (first | ((with_reducible refine gate_dst (N := 72) rfl ?_); refine Sep.goesCL_ (some 72) rfl rfl (f := 61) (fn := Try.f61) Try.func61 (by kernel_rfl) rfl #[.int .i64 1, .int .i64 last, .int .i64 ((n : Int) + i), .pointer (some ⟨gc, 0, none⟩), .pointer (some ⟨gt, 0, none⟩)] rfl rfl (by (try simp only [List.map_toArray, List.map_cons, List.map_nil]); first | done | rfl | (show #[Value.int .i64 1, Value.int .i64 last, Value.int .i64 (wrap64 ((n : Int) + i)), _, _] = _; rw [hwn]; rfl)) ?_; refine (impl_TermCircuit.add w (n : Int) (by have := HNN.out; omega) gc gt _ _ 1 last ((n : Int) + i) (gf) (by have := HGF.out; have := HGL.out; have := HO16.out; have := HNN.out; omega) _ _ [Item.row (Kd.int .i64) 3 (u7) (ts), Item.box gr 47 #[.int .i64 0, .slice none 0 0, .slice none 0 0]] (((HO.out.front 4 rfl).front 2 rfl).front 2 rfl)).mono ?_; rintro e w_1 ⟨rfl, A_a9, m_a9, c_a9, ho⟩; refine ⟨_, rfl, ?_⟩; have HO_1 := Aside0.mk ho; clear ho))
                          have hres := tc_more (n : Int) gs _ gf last (tcWire (n : Int) j i) HAL.out (by omega)
                          rw [← HWS.out, HWV.out] at hres
                          have HRES := Aside0.mk hres
                          clear hres
                          go_roundw
                          case measure => simp only [intOf, hwi]; omega
                          case rel => exact ⟨i + 1, (n : Int) + (gf.length : Int), gf ++ [(⟨1, last, ((n : Int) + i)⟩ : S74)], _, _, _, by omega, by omega, rfl, by first | rfl | rw [hwi], HRES, ⟨by rw [List.length_append, List.length_singleton]; have := HGF.out; omega⟩, ⟨(((((HO_1.out.front 2 rfl).front 4 rfl).front 4 rfl).front 4 rfl).front 4 rfl)⟩⟩
                      · have c7b : (bb == 0) = false := beq_eq_false_iff_ne.mpr c7
                        have hwv : tcWire (n : Int) j i = i := by rw [HWI.out, if_neg c7]
                        have HWV := Aside0.mk hwv
                        clear hwv
                        by_cases c8 : last < 0
                        · have c8b := decide_eq_true c8
                          have z_7 : wr.cell? ⟨gt, 0, none⟩ = some (.int .i64 ((n : Int))) := (HO.out.cell 4 rfl 0 rfl)
                          go_wp2
                          have hres := tc_first (n : Int) gs _ gf last (tcWire (n : Int) j i) (by have := HNN.out; omega) (tcWires_pos _ _ _ (by have := HNN.out; omega)) HAL.out c8
                          rw [← HWS.out, HWV.out] at hres
                          have HRES := Aside0.mk hres
                          clear hres
                          go_roundw
                          case measure => simp only [intOf, hwi]; omega
                          case rel => exact ⟨i + 1, i, gf, _, _, _, by omega, by omega, by first | rfl | rw [hwn], by first | rfl | rw [hwi], HRES, ⟨by have := HGF.out; omega⟩, HO⟩
                        · have c8b := decide_eq_false c8
                          have z_7 : wr.cell? ⟨gt, 0, none⟩ = some (.int .i64 ((n : Int))) := (HO.out.cell 4 rfl 0 rfl)
                          go_wp2_with (first | ((with_reducible refine gate_dst (N := 72) rfl ?_); refine Sep.goesCL_ (some 72) rfl rfl (f := 61) (fn := Try.f61) Try.func61 (by kernel_rfl) rfl #[.int .i64 1, .int .i64 last, .int .i64 i, .pointer (some ⟨gc, 0, none⟩), .pointer (some ⟨gt, 0, none⟩)] rfl rfl (by (try simp only [List.map_toArray, List.map_cons, List.map_nil]); first | done | rfl) ?_; refine (impl_TermCircuit.add w (n : Int) (by have := HNN.out; omega) gc gt _ _ 1 last i (gf) (by have := HGF.out; have := HGL.out; have := HO16.out; have := HNN.out; omega) _ _ [Item.row (Kd.int .i64) 3 (u7) (ts), Item.box gr 47 #[.int .i64 0, .slice none 0 0, .slice none 0 0]] (((HO.out.front 4 rfl).front 2 rfl).front 2 rfl)).mono ?_; rintro e w_1 ⟨rfl, A_a8, m_a8, c_a8, ho⟩; refine ⟨_, rfl, ?_⟩; have HO_1 := Aside0.mk ho; clear ho))
                          have hres := tc_more (n : Int) gs _ gf last (tcWire (n : Int) j i) HAL.out (by omega)
                          rw [← HWS.out, HWV.out] at hres
                          have HRES := Aside0.mk hres
                          clear hres
                          go_roundw
                          case measure => simp only [intOf, hwi]; omega
                          case rel => exact ⟨i + 1, (n : Int) + (gf.length : Int), gf ++ [(⟨1, last, i⟩ : S74)], _, _, _, by omega, by omega, rfl, by first | rfl | rw [hwi], HRES, ⟨by rw [List.length_append, List.length_singleton]; have := HGF.out; omega⟩, ⟨(((((HO_1.out.front 2 rfl).front 4 rfl).front 4 rfl).front 4 rfl).front 4 rfl)⟩⟩
                    · have c6b := decide_eq_false c6
                      obtain rfl : i = (n : Int) := by omega
                      have hal := HAL.out
                      rw [Int.toNat_natCast] at hal
                      have HAL2 := Aside0.mk hal
                      clear hal
                      have z_7 : wr.cell? ⟨gt, 0, none⟩ = some (.int .i64 ((n : Int))) := (HO.out.cell 4 rfl 0 rfl)
                      go_wp2_with (first | ((with_reducible refine gate_dst (N := 76) rfl ?_); at_builtin; refine Sep.own_append (Kd.int .i64) HO.out 2 _ (ts) 3 rfl rfl (.tmp 73) (.tmp 75) 24 (.int .i64 0) 8 rfl Try.underlying24 info3 rfl (by decide) (by omega) last [.int .i64 last] rfl rfl rfl (by have := HTL.out; have := HO16.out; omega) ?_; intro x_76 w_2 ho; have HO_2 := Aside0.mk ho; clear ho))
                      go_roundw
                      case measure => simp only [intOf, hwj]; omega
                      case rel => exact ⟨j + 1, gf, ts ++ [last], _, _, _, by omega, by omega, by first | rfl | rw [hwj], ⟨by have e := HT2.out; rw [HAL2.out] at e; exact e⟩, ⟨by have := HGL.out; have := HGF.out; have := HNN.out; omega⟩, ⟨by rw [List.length_append, List.length_singleton]; have := HTL.out; omega⟩, ⟨(((((HO_2.out.front 4 rfl).front 4 rfl).front 4 rfl).front 4 rfl).front 4 rfl)⟩⟩
              · have c4b := decide_eq_false c4
                obtain rfl : j = (l0_1.length : Int) := by omega
                have hT := HT.out
                rw [tcOnes_end, tcTerms] at hT
                have HT2 := Aside0.mk hT
                clear hT
                have htn : ts.length = (tcOnes l0_1 0).length := by have e := (tcTerms_length n (tcOnes l0_1 0) (tcNots n) []).2; rw [← HT2.out] at e; simpa using e
                by_cases c8 : ts = []
                · obtain ⟨A7, c7, rfl⟩ := HO.out.row_slice 2 rfl
                  have c8b : ((ts.length : Int) == 0) = true := by rw [c8]; rfl
                  have h2 := H1.out
                  rw [if_pos (List.eq_nil_of_length_eq_zero (by rw [← htn, c8]; rfl))] at h2
                  have h2_ : ((0 : Int), ([] : List (S74)), ([] : List Int), false) = (r1, r2, r3, r4) := Option.some.inj h2
                  clear h2
                  injection h2_ with e1 e2
                  injection e2 with e2 e3
                  injection e3 with e3 e4
                  subst e1
                  subst e2
                  subst e3
                  subst e4
                  clear H1 htn
                  have HC8 := Aside0.mk c8
                  clear c8
                  go_wp2_with (first | ((with_reducible refine gate_store (t := 47) (p := 2) (v := .tmp 81) rfl ?_); refine Sep.own_store HO.out 3 gr 47 _ #[.int .i64 0, .slice none 0 0, .slice none 0 0] rfl rfl rfl 47 (.tmp 2) (.tmp 81) rfl rfl _ rfl rfl rfl (by kernel_rfl) (by simp [Value.oneCell']) ?_; intro w_1 ho; have HO_1 := Aside0.mk ho; clear ho))
                  (try simp only [Exit.inBlock, Exit.then])
                  refine bodyPost_ret (results_ct rfl _ _ gr 47 #[.int .i64 0, .slice none 0 0, .slice none 0 0] (0, 0) _ rfl (HO_1.out.blk 3 rfl) Try.underlying47 rfl (by kernel_rfl)) rfl ?_
                  exact ⟨_, _, rfl, Kd.R_nil _ _ _ _ _, Kd.R_nil _ _ _ _ _, HO_1.out.base⟩
                · have h2 := H1.out
                  rw [if_neg (by intro e; exact c8 (List.eq_nil_of_length_eq_zero (by rw [htn, e]; rfl)))] at h2
                  have H2 := Aside0.mk h2
                  clear h2 H1
                  obtain ⟨gw, cw, rfl⟩ := Sep.own_row_form HO.out 2 rfl (List.length_pos_iff.mpr c8)
                  obtain ⟨k0, r, rfl⟩ : ∃ k r, ts = k :: r := by
                    cases ts with
                    | nil => exact absurd rfl c8
                    | cons k r => exact ⟨k, r, rfl⟩
                  have HWL := Aside0.mk (show ((r.length : Int) + 1) ≤ l0_1.length from by have e := HTL.out; rw [List.length_cons] at e; omega)
                  (try rw [List.length_cons])
                  (try rw [List.length_cons] at HO)
                  clear htn c8
                  obtain ⟨i0, hi0_, _, hsz, _⟩ := info_parts info3
                  obtain ⟨A', hcut, hA'⟩ := tc_cut (P := Try.prog) 24 3 Try.underlying24 hi0_ hsz (some ⟨gw, 0, none⟩) cw k0 r (by have e := (HO.out.row_reads 2 rfl).2.1; simpa using e)
                  have HA2 := Aside0.mk hA'
                  clear hA' hsz hi0_
                  have hlt : ((0 : Int) < ((r.length + 1 : Nat) : Int)) = True := eq_true (by omega)
                  have hle : ((1 : Int) ≤ ((r.length + 1 : Nat) : Int)) = True := eq_true (by omega)
                  have c8b : (((r.length + 1 : Nat) : Int) == 0) = false := beq_eq_false_iff_ne.mpr (by omega)
                  have z_7 : wr.cell? ⟨gw, 0, none⟩ = some (.int .i64 k0) := (Sep.own_row_cell (0 : Int) HO.out 2 rfl 0 (Int.le_refl _) (by first | (simp; done) | (simp; omega))).1
                  go_wp2
                  go_loopw [13, 88] (fun v13 v88 wr => ∃ (j last : Int) (gf : List (S74)) (A_ : Option Addr) (m_ c_ : Nat), 0 ≤ j ∧ j ≤ (r.length : Int) ∧ v88 = .int .i64 j ∧ v13 = .int .i64 last ∧ Aside0 (tcJoin n 2 (r.drop j.toNat) gf last = tcJoin n 2 r gs k0) ∧ Aside0 ((gf.length : Int) = gs.length + j) ∧ Aside0 (Own w wr [Item.box gc 47 #[.int .i64 ((n : Int)), .slice A_ m_ c_, .slice none 0 0], Item.row k74 74 (.slice A_ m_ c_) (gf), Item.row (Kd.int .i64) 3 (.slice ((some ⟨gw, 0, none⟩)) ((r.length + 1)) cw) ((k0 :: r)), Item.box gr 47 #[.int .i64 0, .slice none 0 0, .slice none 0 0], Item.box gt 50 #[.int .i64 ((n : Int)), .slice A0_1 l0_1.length c0_1]])) (fun _ v88 _ => r.length - (intOf v88).toNat)
                  case atStart => exact ⟨0, k0, gs, _, _, _, Int.le_refl _, by omega, rfl, rfl, ⟨rfl⟩, ⟨by simp⟩, ⟨(((((HO.out.front 4 rfl).front 4 rfl).front 4 rfl).front 4 rfl).front 4 rfl)⟩⟩
                  case round =>
                    clear HO
                    obtain ⟨j, last, gf, A_, m_, c_, hj0, hj1, rfl, rfl, HJ, HL, HO⟩ := hrel
                    by_cases c1 : j < (r.length : Int)
                    · have c1b := decide_eq_true c1
                      have hwj : wrap64 (j + 1) = j + 1 := by have := HWL.out; have := HO16.out; unfold wrap64; omega
                      obtain ⟨adr, er, hx⟩ := Kd.at_int (HA2.out _ (HO.out.row_reads 2 rfl).2.2) j hj0 c1
                      cases er
                      have p1 : (0 ≤ j) = True := eq_true hj0
                      have q1 : (j < (r.length : Int)) = True := eq_true c1
                      have hJ := HJ.out
                      rw [tc_drop r j hj0 c1, tcJoin] at hJ
                      obtain ⟨xx, hxx⟩ : ∃ xx, rd r j = xx := ⟨_, rfl⟩
                      rw [hxx] at hJ hx
                      have HJ2 := Aside0.mk hJ
                      clear hJ hxx
                      go_wp2_with (first | ((with_reducible refine gate_dst (N := 95) rfl ?_); refine Sep.goesCL_ (some 95) rfl rfl (f := 61) (fn := Try.f61) Try.func61 (by kernel_rfl) rfl #[.int .i64 2, .int .i64 last, .int .i64 xx, .pointer (some ⟨gc, 0, none⟩), .pointer (some ⟨gt, 0, none⟩)] rfl rfl (by (try simp only [List.map_toArray, List.map_cons, List.map_nil]); first | done | rfl) ?_; refine (impl_TermCircuit.add w (n : Int) (by have := HNN.out; omega) gc gt _ _ 2 last xx (gf) (by have := HL.out; have := HGL.out; have := HWL.out; have := HO16.out; have := HNN.out; omega) _ _ [Item.row (Kd.int .i64) 3 (.slice ((some ⟨gw, 0, none⟩)) ((r.length + 1)) cw) ((k0 :: r)), Item.box gr 47 #[.int .i64 0, .slice none 0 0, .slice none 0 0]] (((HO.out.front 4 rfl).front 2 rfl).front 2 rfl)).mono ?_; rintro e w_1 ⟨rfl, A_a8, m_a8, c_a8, ho⟩; refine ⟨_, rfl, ?_⟩; have HO_1 := Aside0.mk ho; clear ho))
                      go_roundw
                      case measure => simp only [intOf, hwj]; omega
                      case rel => exact ⟨j + 1, (n : Int) + (gf.length : Int), gf ++ [(⟨2, last, xx⟩ : S74)], _, _, _, by omega, by omega, by first | rfl | rw [hwj], rfl, HJ2, ⟨by rw [List.length_append, List.length_singleton]; have := HL.out; omega⟩, ⟨(((((HO_1.out.front 2 rfl).front 4 rfl).front 4 rfl).front 4 rfl).front 4 rfl)⟩⟩
                    · have c1b := decide_eq_false c1
                      obtain rfl : j = (r.length : Int) := by omega
                      have hj := HJ.out
                      rw [Int.toNat_natCast, List.drop_length, tcJoin] at hj
                      have HMADE := Aside0.mk (show tcMade n (tcOnes l0_1 0) = (gf, last) from by unfold tcMade; rw [← HT2.out]; exact hj.symm)
                      clear hj
                      have hm := (HO.out.row_reads 1 rfl).1
                      by_cases c9 : (16 : Int) < (m_ : Int)
                      · have c9b := decide_eq_true c9
                        have h2 := H2.out
                        rw [HMADE.out, if_pos (show 16 < gf.length by omega)] at h2
                        have h2_ : ((0 : Int), ([] : List (S74)), ([] : List Int), false) = (r1, r2, r3, r4) := Option.some.inj h2
                        clear h2
                        injection h2_ with e1 e2
                        injection e2 with e2 e3
                        injection e3 with e3 e4
                        subst e1
                        subst e2
                        subst e3
                        subst e4
                        have HM := Aside0.mk hm
                        clear hm H2
                        go_wp2_with (first | ((with_reducible refine gate_dst (N := 98) rfl ?_); refine Sep.own_lit1 (Value.int .i64) (h1 := fun _ => rfl) HO.out 3 last ?hg (N := 98) ?hd ?hr ?_; (case hd => rfl); (case hg => rfl); (case hr => first | (go_simp; done) | (go_simp; rfl)); intro x_98 w_1 ho _; obtain ⟨A_98, n_98, c_98, hn_, rfl⟩ := ho.row_seal 0 rfl; obtain rfl : n_98 = 1 := hn_; have HO_1 := Aside0.mk ho; clear ho) | ((with_reducible refine gate_store (t := 24) (p := 99) (v := .tmp 98) rfl ?_); refine Sep.own_store_at HO_1.out 1 gc 47 _ rfl rfl rfl 24 (.tmp 99) (.tmp 98) rfl 2 rfl (.slice A_98 1 c_98) rfl rfl (by kernel_rfl) rfl (by simp) ?_; intro w_2 ho; have HO_2 := Aside0.mk ho; clear ho; have z_8 : w_2.cell? ⟨gc, 1, none⟩ = some (.slice A_ m_ c_) := (HO_2.out.cell 1 rfl 1 rfl)) | ((with_reducible refine gate_store (t := 47) (p := 2) (v := .tmp 104) rfl ?_); refine Sep.own_store HO_2.out 4 gr 47 _ #[.int .i64 0, .slice none 0 0, .slice none 0 0] rfl rfl rfl 47 (.tmp 2) (.tmp 104) rfl rfl _ rfl rfl rfl (by kernel_rfl) (by simp [Value.oneCell']) ?_; intro w_3 ho; have HO_3 := Aside0.mk ho; clear ho))
                        (try simp only [Exit.inBlock, Exit.then])
                        refine bodyPost_ret (results_ct rfl _ _ gr 47 #[.int .i64 0, .slice none 0 0, .slice none 0 0] (0, 0) _ rfl (HO_3.out.blk 4 rfl) Try.underlying47 rfl (by kernel_rfl)) rfl ?_
                        exact ⟨_, _, rfl, Kd.R_nil _ _ _ _ _, Kd.R_nil _ _ _ _ _, HO_3.out.base⟩
                      · have c9b := decide_eq_false c9
                        have h2 := H2.out
                        rw [HMADE.out, if_neg (show ¬ 16 < gf.length by omega)] at h2
                        have HF := Aside0.mk (Option.some.inj h2)
                        have HM := Aside0.mk hm
                        clear hm H2 h2
                        go_wp2_with (first | ((with_reducible refine gate_dst (N := 98) rfl ?_); refine Sep.own_lit1 (Value.int .i64) (h1 := fun _ => rfl) HO.out 3 last ?hg (N := 98) ?hd ?hr ?_; (case hd => rfl); (case hg => rfl); (case hr => first | (go_simp; done) | (go_simp; rfl)); intro x_98 w_1 ho _; obtain ⟨A_98, n_98, c_98, hn_, rfl⟩ := ho.row_seal 0 rfl; obtain rfl : n_98 = 1 := hn_; have HO_1 := Aside0.mk ho; clear ho) | ((with_reducible refine gate_store (t := 24) (p := 99) (v := .tmp 98) rfl ?_); refine Sep.own_store_at HO_1.out 1 gc 47 _ rfl rfl rfl 24 (.tmp 99) (.tmp 98) rfl 2 rfl (.slice A_98 1 c_98) rfl rfl (by kernel_rfl) rfl (by simp) ?_; intro w_2 ho; have HO_2 := Aside0.mk ho; clear ho; have z_8 : w_2.cell? ⟨gc, 1, none⟩ = some (.slice A_ m_ c_) := (HO_2.out.cell 1 rfl 1 rfl); have z_9 : w_2.cell? ⟨gc, 0, none⟩ = some (.int .i64 ((n : Int))) := (HO_2.out.cell 1 rfl 0 rfl); have z_10 : w_2.cell? ⟨gc, 1, none⟩ = some (.slice A_ m_ c_) := (HO_2.out.cell 1 rfl 1 rfl); have z_11 : w_2.cell? ⟨gc, 2, none⟩ = some (.slice A_98 1 c_98) := (HO_2.out.cell 1 rfl 2 rfl)) | ((with_reducible refine gate_store (t := 47) (p := 2) (v := .tmp 105) rfl ?_); refine Sep.own_store HO_2.out 4 gr 47 _ #[.int .i64 ((n : Int)), .slice A_ m_ c_, .slice A_98 1 c_98] rfl rfl rfl 47 (.tmp 2) (.tmp 105) rfl rfl _ rfl rfl rfl (by kernel_rfl) (by simp [Value.oneCell']) ?_; intro w_3 ho; have HO_3 := Aside0.mk ho; clear ho))
                        (try simp only [Exit.inBlock, Exit.then])
                        refine bodyPost_ret (results_ct rfl _ _ gr 47 #[.int .i64 ((n : Int)), .slice A_ m_ c_, .slice A_98 1 c_98] (0, 0) _ rfl (HO_3.out.blk 4 rfl) Try.underlying47 rfl (by kernel_rfl)) rfl ?_
                        have h3 := HF.out
                        injection h3 with e1 e2
                        injection e2 with e2 e3
                        injection e3 with e3 e4
                        subst e1
                        subst e2
                        subst e3
                        subst e4
                        obtain ⟨P1, hP1⟩ := HO_3.out.get 2 rfl
                        obtain ⟨P2, hP2⟩ := HO_3.out.get 0 rfl
                        exact ⟨_, _, rfl, Kd.R_mono hP1 (fun _ _ => trivial), Kd.R_mono hP2 (fun _ _ => trivial), HO_3.out.base⟩
      · cases h1

/-! ### laws_eqIntS: function 11 -/
def laws_eqIntS.l0 : Nat → List Int → List Int → Int → Option (Bool)
  | 0, _, _, _ => none
  | k + 1, x0, x1, x5 => if x5 < (x0.length : Int) then (if 0 ≤ x5 then (if x5 < (x1.length : Int) then (if (rd x0 x5) = (rd x1 x5) then (laws_eqIntS.l0 k x0 x1 (wrap64 (x5 + 1))) else (some false)) else (none)) else (none)) else (some true)
def laws_eqIntS.f (k : Nat) (l0 : List Int) (l1 : List Int) : Option (Bool) := if (l0.length : Int) = (l1.length : Int) then (laws_eqIntS.l0 k l0 l1 0) else (some false)
theorem laws_eqIntS.mono_l : ∀ k, (∀ y0 y1 y2, LeO (laws_eqIntS.l0 k y0 y1 y2) (laws_eqIntS.l0 (k + 1) y0 y1 y2))
  | 0 => fun _ _ _ r h => by simp [laws_eqIntS.l0] at h
  | k + 1 => by
    have ih0 := laws_eqIntS.mono_l k
    · intro y0 y1 y2
      unfold laws_eqIntS.l0
      repeat' first
      | (with_reducible exact ih0 _ _ _)
      | (with_reducible exact LeO.refl _)
      | (with_reducible exact LeO.none _)
      | (with_reducible refine LeO.ite ?_ ?_)
      | (with_reducible refine LeO.bind ?_ (fun _ => ?_))
      | exact ih0 _ _ _
      | exact LeO.none _
      | refine LeO.ite ?_ ?_
      | refine LeO.bind ?_ (fun _ => ?_)
theorem laws_eqIntS.mono : ∀ a0 a1 k, LeO (laws_eqIntS.f k a0 a1) (laws_eqIntS.f (k + 1) a0 a1) := by
  intro a0 a1 k
  have ih0 := laws_eqIntS.mono_l k
  unfold laws_eqIntS.f
  repeat' first
      | (with_reducible exact ih0 _ _ _)
      | (with_reducible exact LeO.refl _)
      | (with_reducible exact LeO.none _)
      | (with_reducible refine LeO.ite ?_ ?_)
      | (with_reducible refine LeO.bind ?_ (fun _ => ?_))
      | exact ih0 _ _ _
      | exact LeO.none _
      | refine LeO.ite ?_ ?_
      | refine LeO.bind ?_ (fun _ => ?_)
set_option maxHeartbeats 8000000 in
set_option maxRecDepth 100000 in
theorem laws_eqIntS.calls (k : Nat) (A0 : Option Addr) (c0 : Nat) (l0 : List Int) (A1 : Option Addr) (c1 : Nat) (l1 : List Int) (r : Bool) (w : World) (hr0 : Kd.C (Kd.int .i64) w A0 l0.length l0) (hc0 : l0.length ≤ c0) (hr1 : Kd.C (Kd.int .i64) w A1 l1.length l1) (hc1 : l1.length ≤ c1) (h : laws_eqIntS.f k l0 l1 = some r) :
    Calls Try.prog 11 #[.slice A0 l0.length c0, .slice A1 l1.length c1] w fun e w' => e = .returned (.bool r) ∧ Drawn0 w w' := by
  have HR0 := Aside0.mk hr0
  have HC0 := Aside0.mk hc0
  clear hr0 hc0
  have HR1 := Aside0.mk hr1
  have HC1 := Aside0.mk hc1
  clear hr1 hc1
  have H : (if (l0.length : Int) = (l1.length : Int) then (laws_eqIntS.l0 k l0 l1 0) else (some false)) = some r := h
  clear h
  by_cases c3 : (l0.length : Int) = (l1.length : Int)
  · rw [if_pos c3] at H
    have c3b0 : ((l0.length : Int) == (l1.length : Int)) = true := beq_iff_eq.mpr c3
    have c3b1 : ((l0.length : Int) != (l1.length : Int)) = false := bne_eq_false_iff_eq.mpr c3
    have c3b2 : (l0.length == l1.length) = true := by first | simpa using c3 | (simp at c3 ⊢; omega)
    clear c3
    have H' := Aside0.mk H
    clear H
    go_enter Try.func11, Try.ntmps11
    go_wp2
    repeat (go_quiet (fail); try go_wp2)
    go_loopg [5] k (fun kq v5 w' => ∃ (x5_1 : Int), v5 = .int .i64 x5_1 ∧ Aside0 (laws_eqIntS.l0 kq l0 l1 x5_1 = some r) ∧ Aside0 (kq ≤ k) ∧ Drawn0 w w')
    case atStart => exact ⟨(0), (by first | rfl | (simp; done) | (simp [*]; done)), H', ⟨Nat.le_refl _⟩, by repeat (first | exact Drawn0.refl _ | apply Drawn0.step)⟩
    case round =>
      clear H'
      try clear c1
      try clear p2
      try clear c3
      try clear c3b0
      try clear c3b1
      try clear c3b2
      obtain ⟨x5_1, rfl, HA, HK1, ⟨m1, rfl⟩⟩ := hrel
      cases gk with
      | zero => exact absurd HA.out (by simp [laws_eqIntS.l0])
      | succ k1 =>
        have H := HA.out
        clear HA
        simp only [laws_eqIntS.l0] at H
        by_cases c4 : x5_1 < (l0.length : Int)
        · rw [if_pos c4] at H
          have c4b0 : decide (x5_1 < (l0.length : Int)) = true := decide_eq_true c4
          clear c4
          by_cases c5 : 0 ≤ x5_1
          · rw [if_pos c5] at H
            have c5b0 : decide (0 ≤ x5_1) = true := decide_eq_true c5
            clear c5
            by_cases c6 : x5_1 < (l1.length : Int)
            · rw [if_pos c6] at H
              have c6b0 : decide (x5_1 < (l1.length : Int)) = true := decide_eq_true c6
              clear c6
              by_cases c7 : (rd l0 x5_1) = (rd l1 x5_1)
              · rw [if_pos c7] at H
                have c7b0 : ((rd l0 x5_1) == (rd l1 x5_1)) = true := beq_iff_eq.mpr c7
                have c7b1 : ((rd l0 x5_1) != (rd l1 x5_1)) = false := bne_eq_false_iff_eq.mpr c7
                clear c7
                have H' := Aside0.mk H
                clear H
                have p137 : 0 ≤ (x5_1 : Int) := of_decide_eq_true (by first | (with_reducible assumption) | assumption)
                have q137 : x5_1 < (l0.length : Int) := of_decide_eq_true (by first | (with_reducible assumption) | assumption)
                obtain ⟨ad137, e137, hx137_0⟩ := Kd.at_int HR0.out x5_1 p137 q137
                cases e137
                replace p137 := eq_true p137
                replace q137 := eq_true q137
                have p138 : 0 ≤ (x5_1 : Int) := of_decide_eq_true (by first | (with_reducible assumption) | assumption)
                have q138 : x5_1 < (l1.length : Int) := of_decide_eq_true (by first | (with_reducible assumption) | assumption)
                obtain ⟨ad138, e138, hx138_0⟩ := Kd.at_int HR1.out x5_1 p138 q138
                cases e138
                replace p138 := eq_true p138
                replace q138 := eq_true q138
                go_wp2
                repeat (go_quiet (fail); try go_wp2)
                go_roundg k1
                case measure => have := HK1.out; omega
                case rel => exact ⟨(wrap64 (x5_1 + 1)), (by first | rfl | (simp; done) | (simp [*]; done)), H', ⟨by have := HK1.out; omega⟩, by repeat (first | exact Drawn0.refl _ | apply Drawn0.step)⟩
              · rw [if_neg c7] at H
                have c7b0 : ((rd l0 x5_1) == (rd l1 x5_1)) = false := beq_eq_false_iff_ne.mpr c7
                have c7b1 : ((rd l0 x5_1) != (rd l1 x5_1)) = true := bne_iff_ne.mpr c7
                obtain rfl := Option.some.inj H
                have p137 : 0 ≤ (x5_1 : Int) := of_decide_eq_true (by first | (with_reducible assumption) | assumption)
                have q137 : x5_1 < (l0.length : Int) := of_decide_eq_true (by first | (with_reducible assumption) | assumption)
                obtain ⟨ad137, e137, hx137_0⟩ := Kd.at_int HR0.out x5_1 p137 q137
                cases e137
                replace p137 := eq_true p137
                replace q137 := eq_true q137
                have p138 : 0 ≤ (x5_1 : Int) := of_decide_eq_true (by first | (with_reducible assumption) | assumption)
                have q138 : x5_1 < (l1.length : Int) := of_decide_eq_true (by first | (with_reducible assumption) | assumption)
                obtain ⟨ad138, e138, hx138_0⟩ := Kd.at_int HR1.out x5_1 p138 q138
                cases e138
                replace p138 := eq_true p138
                replace q138 := eq_true q138
                go_wp2
                repeat (go_quiet (fail); try go_wp2)
                go_ret
                exact ⟨by first | rfl | (simp; done) | (simp [*]; done), by repeat (first | exact Drawn0.refl _ | apply Drawn0.step)⟩
            · rw [if_neg c6] at H
              exact absurd H (by simp)
          · rw [if_neg c5] at H
            exact absurd H (by simp)
        · rw [if_neg c4] at H
          have c4b0 : decide (x5_1 < (l0.length : Int)) = false := decide_eq_false c4
          clear c4
          obtain rfl := Option.some.inj H
          go_wp2
          repeat (go_quiet (fail); try go_wp2)
          go_ret
          exact ⟨by first | rfl | (simp; done) | (simp [*]; done), by repeat (first | exact Drawn0.refl _ | apply Drawn0.step)⟩
  · rw [if_neg c3] at H
    have c3b0 : ((l0.length : Int) == (l1.length : Int)) = false := beq_eq_false_iff_ne.mpr c3
    have c3b1 : ((l0.length : Int) != (l1.length : Int)) = true := bne_iff_ne.mpr c3
    have c3b2 : (l0.length == l1.length) = false := by first | simpa using c3 | (simp at c3 ⊢; omega)
    obtain rfl := Option.some.inj H
    go_enter Try.func11, Try.ntmps11
    go_wp2
    repeat (go_quiet (fail); try go_wp2)
    go_ret
    exact ⟨by first | rfl | (simp; done) | (simp [*]; done), by repeat (first | exact Drawn0.refl _ | apply Drawn0.step)⟩

/-! ### laws_eqGate: function 77 -/
def laws_eqGate.f (a0_0 : Int) (a0_1 : Int) (a0_2 : Int) (a1_0 : Int) (a1_1 : Int) (a1_2 : Int) : Option (Bool) := if a0_0 = a1_0 then (if a0_1 = a1_1 then (if a0_2 = a1_2 then (some true) else (some false)) else (some false)) else (some false)
set_option maxHeartbeats 8000000 in
set_option maxRecDepth 100000 in
theorem laws_eqGate.calls (a0_0 : Int) (a0_1 : Int) (a0_2 : Int) (a1_0 : Int) (a1_1 : Int) (a1_2 : Int) (r : Bool) (w : World) (h : laws_eqGate.f a0_0 a0_1 a0_2 a1_0 a1_1 a1_2 = some r) :
    Calls Try.prog 77 #[.agg #[.int .i64 a0_0, .int .i64 a0_1, .int .i64 a0_2], .agg #[.int .i64 a1_0, .int .i64 a1_1, .int .i64 a1_2]] w fun e w' => e = .returned (.bool r) ∧ Below w.heap.size w w' := by
  have hu74 := Try.underlying74
  have HB := Aside0.mk (Below.refl w.heap.size w)
  have H : (if a0_0 = a1_0 then (if a0_1 = a1_1 then (if a0_2 = a1_2 then (some true) else (some false)) else (some false)) else (some false)) = some r := h
  clear h
  by_cases c3 : a0_0 = a1_0
  · rw [if_pos c3] at H
    have c3b0 : (a0_0 == a1_0) = true := beq_iff_eq.mpr c3
    have c3b1 : (a0_0 != a1_0) = false := bne_eq_false_iff_eq.mpr c3
    clear c3
    by_cases c4 : a0_1 = a1_1
    · rw [if_pos c4] at H
      have c4b0 : (a0_1 == a1_1) = true := beq_iff_eq.mpr c4
      have c4b1 : (a0_1 != a1_1) = false := bne_eq_false_iff_eq.mpr c4
      clear c4
      by_cases c5 : a0_2 = a1_2
      · rw [if_pos c5] at H
        have c5b0 : (a0_2 == a1_2) = true := beq_iff_eq.mpr c5
        have c5b1 : (a0_2 != a1_2) = false := bne_eq_false_iff_eq.mpr c5
        clear c5
        obtain rfl := Option.some.inj H
        go_enter Try.func77, Try.ntmps77
        go_wp2_with (first | ((with_reducible refine gate_dst (N := 2) rfl ?_); refine box_event ?hg (N := 2) ?hd (cs := #[.int .i64 a0_0, .int .i64 a0_1, .int .i64 a0_2]) (t := 74) ?hr ?_; (case hd => rfl); (case hg => rfl); (case hr => first | (go_simp; done) | (go_simp; rfl)); intro gb139 hg w6 hbox hb; have n0_ := Aside0.mk (below_step (by repeat (first | (with_reducible first | exact HB.out | apply below_alloc | apply pw_below_drewN | apply below_drew1) | exact HB.out)) hb); have n1_ := Aside0.mk (hbox); have n2_ := Aside0.mk ((by rw [hg]; exact (below_size (by repeat (first | (with_reducible first | exact HB.out | apply below_alloc | apply pw_below_drewN | apply below_drew1) | exact HB.out))) : w.heap.size ≤ gb139)); have n3_ := Aside0.mk ((by rw [hg]; exact (below_size (by repeat (first | (with_reducible first | exact HB.out | apply below_alloc | apply pw_below_drewN | apply below_drew1) | exact HB.out))) : w.heap.size ≤ gb139)); clear HB; have HB := n0_; have BK139 := n1_; have GW139 := n2_; have GE139 := n3_; clear n0_ n1_ n2_ n3_; clear hb hbox hg) | ((with_reducible refine gate_dst (N := 3) rfl ?_); refine box_event ?hg (N := 3) ?hd (cs := #[.int .i64 a1_0, .int .i64 a1_1, .int .i64 a1_2]) (t := 74) ?hr ?_; (case hd => rfl); (case hg => rfl); (case hr => first | (go_simp; done) | (go_simp; rfl)); intro gb140 hg w7 hbox hb; have n0_ := Aside0.mk (blk_below (g := gb139) (o := .cells #[.int .i64 a0_0, .int .i64 a0_1, .int .i64 a0_2] 74 (0, 0)) (by (with_reducible repeat (first | refine blk_drewN ?_ _ | refine blk_drew ?_ | refine blk_alloc ?_ _)); exact BK139.out) hb); have n1_ := Aside0.mk (below_step (by repeat (first | (with_reducible first | exact HB.out | apply below_alloc | apply pw_below_drewN | apply below_drew1 | refine below_set ?_ GE139.out) | exact HB.out)) hb); have n2_ := Aside0.mk (hbox); have n3_ := Aside0.mk ((by rw [hg]; exact (below_size (by repeat (first | (with_reducible first | exact HB.out | apply below_alloc | apply pw_below_drewN | apply below_drew1 | refine below_set ?_ GE139.out) | exact HB.out))) : w.heap.size ≤ gb140)); have n4_ := Aside0.mk ((by rw [hg]; exact (below_size (by repeat (first | (with_reducible first | exact HB.out | apply below_alloc | apply pw_below_drewN | apply below_drew1 | refine below_set ?_ GE139.out) | exact HB.out))) : w.heap.size ≤ gb140)); have n5_ := Aside0.mk ((by rw [hg]; exact Nat.ne_of_lt (blk_lt (g := gb139) (o := .cells #[.int .i64 a0_0, .int .i64 a0_1, .int .i64 a0_2] 74 (0, 0)) (by (with_reducible repeat (first | refine blk_drewN ?_ _ | refine blk_drew ?_ | refine blk_alloc ?_ _)); exact BK139.out)) : gb139 ≠ gb140)); have n6_ := Aside0.mk ((by rw [hg]; exact Nat.ne_of_gt (blk_lt (g := gb139) (o := .cells #[.int .i64 a0_0, .int .i64 a0_1, .int .i64 a0_2] 74 (0, 0)) (by (with_reducible repeat (first | refine blk_drewN ?_ _ | refine blk_drew ?_ | refine blk_alloc ?_ _)); exact BK139.out)) : gb140 ≠ gb139)); clear BK139; clear HB; have BK139 := n0_; have HB := n1_; have BK140 := n2_; have GW140 := n3_; have GE140 := n4_; have NB139_140 := n5_; have NB140_139 := n6_; clear n0_ n1_ n2_ n3_ n4_ n5_ n6_; clear hb hbox hg; have hnb8 := NB139_140.out; have hnc8 := NB140_139.out; have hcz9_0 : w7.cell? ⟨gb139, 0, none⟩ = some (.int .i64 a0_0) := (blk_cell BK139.out 0).trans rfl; have hcz9_1 : w7.cell? ⟨gb139, 1, none⟩ = some (.int .i64 a0_1) := (blk_cell BK139.out 1).trans rfl; have hcz9_2 : w7.cell? ⟨gb139, 2, none⟩ = some (.int .i64 a0_2) := (blk_cell BK139.out 2).trans rfl; have hfz9_0 := blk_frozen BK139.out 0; have hfz9_1 := blk_frozen BK139.out 1; have hfz9_2 := blk_frozen BK139.out 2; have hcz10_0 : w7.cell? ⟨gb140, 0, none⟩ = some (.int .i64 a1_0) := (blk_cell BK140.out 0).trans rfl; have hcz10_1 : w7.cell? ⟨gb140, 1, none⟩ = some (.int .i64 a1_1) := (blk_cell BK140.out 1).trans rfl; have hcz10_2 : w7.cell? ⟨gb140, 2, none⟩ = some (.int .i64 a1_2) := (blk_cell BK140.out 2).trans rfl; have hfz10_0 := blk_frozen BK140.out 0; have hfz10_1 := blk_frozen BK140.out 1; have hfz10_2 := blk_frozen BK140.out 2))
        go_ret
        exact ⟨by first | rfl | (simp [errW_none, errW_some] <;> rfl) | (simp [*, errW_none, errW_some] <;> rfl), by repeat (first | (with_reducible first | exact HB.out | apply below_alloc | apply pw_below_drewN | apply below_drew1 | refine below_set ?_ GE139.out | refine below_set ?_ GE140.out) | exact HB.out)⟩
      · rw [if_neg c5] at H
        have c5b0 : (a0_2 == a1_2) = false := beq_eq_false_iff_ne.mpr c5
        have c5b1 : (a0_2 != a1_2) = true := bne_iff_ne.mpr c5
        obtain rfl := Option.some.inj H
        go_enter Try.func77, Try.ntmps77
        go_wp2_with (first | ((with_reducible refine gate_dst (N := 2) rfl ?_); refine box_event ?hg (N := 2) ?hd (cs := #[.int .i64 a0_0, .int .i64 a0_1, .int .i64 a0_2]) (t := 74) ?hr ?_; (case hd => rfl); (case hg => rfl); (case hr => first | (go_simp; done) | (go_simp; rfl)); intro gb139 hg w11 hbox hb; have n0_ := Aside0.mk (below_step (by repeat (first | (with_reducible first | exact HB.out | apply below_alloc | apply pw_below_drewN | apply below_drew1) | exact HB.out)) hb); have n1_ := Aside0.mk (hbox); have n2_ := Aside0.mk ((by rw [hg]; exact (below_size (by repeat (first | (with_reducible first | exact HB.out | apply below_alloc | apply pw_below_drewN | apply below_drew1) | exact HB.out))) : w.heap.size ≤ gb139)); have n3_ := Aside0.mk ((by rw [hg]; exact (below_size (by repeat (first | (with_reducible first | exact HB.out | apply below_alloc | apply pw_below_drewN | apply below_drew1) | exact HB.out))) : w.heap.size ≤ gb139)); clear HB; have HB := n0_; have BK139 := n1_; have GW139 := n2_; have GE139 := n3_; clear n0_ n1_ n2_ n3_; clear hb hbox hg) | ((with_reducible refine gate_dst (N := 3) rfl ?_); refine box_event ?hg (N := 3) ?hd (cs := #[.int .i64 a1_0, .int .i64 a1_1, .int .i64 a1_2]) (t := 74) ?hr ?_; (case hd => rfl); (case hg => rfl); (case hr => first | (go_simp; done) | (go_simp; rfl)); intro gb140 hg w12 hbox hb; have n0_ := Aside0.mk (blk_below (g := gb139) (o := .cells #[.int .i64 a0_0, .int .i64 a0_1, .int .i64 a0_2] 74 (0, 0)) (by (with_reducible repeat (first | refine blk_drewN ?_ _ | refine blk_drew ?_ | refine blk_alloc ?_ _)); exact BK139.out) hb); have n1_ := Aside0.mk (below_step (by repeat (first | (with_reducible first | exact HB.out | apply below_alloc | apply pw_below_drewN | apply below_drew1 | refine below_set ?_ GE139.out) | exact HB.out)) hb); have n2_ := Aside0.mk (hbox); have n3_ := Aside0.mk ((by rw [hg]; exact (below_size (by repeat (first | (with_reducible first | exact HB.out | apply below_alloc | apply pw_below_drewN | apply below_drew1 | refine below_set ?_ GE139.out) | exact HB.out))) : w.heap.size ≤ gb140)); have n4_ := Aside0.mk ((by rw [hg]; exact (below_size (by repeat (first | (with_reducible first | exact HB.out | apply below_alloc | apply pw_below_drewN | apply below_drew1 | refine below_set ?_ GE139.out) | exact HB.out))) : w.heap.size ≤ gb140)); have n5_ := Aside0.mk ((by rw [hg]; exact Nat.ne_of_lt (blk_lt (g := gb139) (o := .cells #[.int .i64 a0_0, .int .i64 a0_1, .int .i64 a0_2] 74 (0, 0)) (by (with_reducible repeat (first | refine blk_drewN ?_ _ | refine blk_drew ?_ | refine blk_alloc ?_ _)); exact BK139.out)) : gb139 ≠ gb140)); have n6_ := Aside0.mk ((by rw [hg]; exact Nat.ne_of_gt (blk_lt (g := gb139) (o := .cells #[.int .i64 a0_0, .int .i64 a0_1, .int .i64 a0_2] 74 (0, 0)) (by (with_reducible repeat (first | refine blk_drewN ?_ _ | refine blk_drew ?_ | refine blk_alloc ?_ _)); exact BK139.out)) : gb140 ≠ gb139)); clear BK139; clear HB; have BK139 := n0_; have HB := n1_; have BK140 := n2_; have GW140 := n3_; have GE140 := n4_; have NB139_140 := n5_; have NB140_139 := n6_; clear n0_ n1_ n2_ n3_ n4_ n5_ n6_; clear hb hbox hg; have hnb13 := NB139_140.out; have hnc13 := NB140_139.out; have hcz14_0 : w12.cell? ⟨gb139, 0, none⟩ = some (.int .i64 a0_0) := (blk_cell BK139.out 0).trans rfl; have hcz14_1 : w12.cell? ⟨gb139, 1, none⟩ = some (.int .i64 a0_1) := (blk_cell BK139.out 1).trans rfl; have hcz14_2 : w12.cell? ⟨gb139, 2, none⟩ = some (.int .i64 a0_2) := (blk_cell BK139.out 2).trans rfl; have hfz14_0 := blk_frozen BK139.out 0; have hfz14_1 := blk_frozen BK139.out 1; have hfz14_2 := blk_frozen BK139.out 2; have hcz15_0 : w12.cell? ⟨gb140, 0, none⟩ = some (.int .i64 a1_0) := (blk_cell BK140.out 0).trans rfl; have hcz15_1 : w12.cell? ⟨gb140, 1, none⟩ = some (.int .i64 a1_1) := (blk_cell BK140.out 1).trans rfl; have hcz15_2 : w12.cell? ⟨gb140, 2, none⟩ = some (.int .i64 a1_2) := (blk_cell BK140.out 2).trans rfl; have hfz15_0 := blk_frozen BK140.out 0; have hfz15_1 := blk_frozen BK140.out 1; have hfz15_2 := blk_frozen BK140.out 2))
        go_ret
        exact ⟨by first | rfl | (simp [errW_none, errW_some] <;> rfl) | (simp [*, errW_none, errW_some] <;> rfl), by repeat (first | (with_reducible first | exact HB.out | apply below_alloc | apply pw_below_drewN | apply below_drew1 | refine below_set ?_ GE139.out | refine below_set ?_ GE140.out) | exact HB.out)⟩
    · rw [if_neg c4] at H
      have c4b0 : (a0_1 == a1_1) = false := beq_eq_false_iff_ne.mpr c4
      have c4b1 : (a0_1 != a1_1) = true := bne_iff_ne.mpr c4
      obtain rfl := Option.some.inj H
      go_enter Try.func77, Try.ntmps77
      go_wp2_with (first | ((with_reducible refine gate_dst (N := 2) rfl ?_); refine box_event ?hg (N := 2) ?hd (cs := #[.int .i64 a0_0, .int .i64 a0_1, .int .i64 a0_2]) (t := 74) ?hr ?_; (case hd => rfl); (case hg => rfl); (case hr => first | (go_simp; done) | (go_simp; rfl)); intro gb139 hg w16 hbox hb; have n0_ := Aside0.mk (below_step (by repeat (first | (with_reducible first | exact HB.out | apply below_alloc | apply pw_below_drewN | apply below_drew1) | exact HB.out)) hb); have n1_ := Aside0.mk (hbox); have n2_ := Aside0.mk ((by rw [hg]; exact (below_size (by repeat (first | (with_reducible first | exact HB.out | apply below_alloc | apply pw_below_drewN | apply below_drew1) | exact HB.out))) : w.heap.size ≤ gb139)); have n3_ := Aside0.mk ((by rw [hg]; exact (below_size (by repeat (first | (with_reducible first | exact HB.out | apply below_alloc | apply pw_below_drewN | apply below_drew1) | exact HB.out))) : w.heap.size ≤ gb139)); clear HB; have HB := n0_; have BK139 := n1_; have GW139 := n2_; have GE139 := n3_; clear n0_ n1_ n2_ n3_; clear hb hbox hg) | ((with_reducible refine gate_dst (N := 3) rfl ?_); refine box_event ?hg (N := 3) ?hd (cs := #[.int .i64 a1_0, .int .i64 a1_1, .int .i64 a1_2]) (t := 74) ?hr ?_; (case hd => rfl); (case hg => rfl); (case hr => first | (go_simp; done) | (go_simp; rfl)); intro gb140 hg w17 hbox hb; have n0_ := Aside0.mk (blk_below (g := gb139) (o := .cells #[.int .i64 a0_0, .int .i64 a0_1, .int .i64 a0_2] 74 (0, 0)) (by (with_reducible repeat (first | refine blk_drewN ?_ _ | refine blk_drew ?_ | refine blk_alloc ?_ _)); exact BK139.out) hb); have n1_ := Aside0.mk (below_step (by repeat (first | (with_reducible first | exact HB.out | apply below_alloc | apply pw_below_drewN | apply below_drew1 | refine below_set ?_ GE139.out) | exact HB.out)) hb); have n2_ := Aside0.mk (hbox); have n3_ := Aside0.mk ((by rw [hg]; exact (below_size (by repeat (first | (with_reducible first | exact HB.out | apply below_alloc | apply pw_below_drewN | apply below_drew1 | refine below_set ?_ GE139.out) | exact HB.out))) : w.heap.size ≤ gb140)); have n4_ := Aside0.mk ((by rw [hg]; exact (below_size (by repeat (first | (with_reducible first | exact HB.out | apply below_alloc | apply pw_below_drewN | apply below_drew1 | refine below_set ?_ GE139.out) | exact HB.out))) : w.heap.size ≤ gb140)); have n5_ := Aside0.mk ((by rw [hg]; exact Nat.ne_of_lt (blk_lt (g := gb139) (o := .cells #[.int .i64 a0_0, .int .i64 a0_1, .int .i64 a0_2] 74 (0, 0)) (by (with_reducible repeat (first | refine blk_drewN ?_ _ | refine blk_drew ?_ | refine blk_alloc ?_ _)); exact BK139.out)) : gb139 ≠ gb140)); have n6_ := Aside0.mk ((by rw [hg]; exact Nat.ne_of_gt (blk_lt (g := gb139) (o := .cells #[.int .i64 a0_0, .int .i64 a0_1, .int .i64 a0_2] 74 (0, 0)) (by (with_reducible repeat (first | refine blk_drewN ?_ _ | refine blk_drew ?_ | refine blk_alloc ?_ _)); exact BK139.out)) : gb140 ≠ gb139)); clear BK139; clear HB; have BK139 := n0_; have HB := n1_; have BK140 := n2_; have GW140 := n3_; have GE140 := n4_; have NB139_140 := n5_; have NB140_139 := n6_; clear n0_ n1_ n2_ n3_ n4_ n5_ n6_; clear hb hbox hg; have hnb18 := NB139_140.out; have hnc18 := NB140_139.out; have hcz19_0 : w17.cell? ⟨gb139, 0, none⟩ = some (.int .i64 a0_0) := (blk_cell BK139.out 0).trans rfl; have hcz19_1 : w17.cell? ⟨gb139, 1, none⟩ = some (.int .i64 a0_1) := (blk_cell BK139.out 1).trans rfl; have hcz19_2 : w17.cell? ⟨gb139, 2, none⟩ = some (.int .i64 a0_2) := (blk_cell BK139.out 2).trans rfl; have hfz19_0 := blk_frozen BK139.out 0; have hfz19_1 := blk_frozen BK139.out 1; have hfz19_2 := blk_frozen BK139.out 2; have hcz20_0 : w17.cell? ⟨gb140, 0, none⟩ = some (.int .i64 a1_0) := (blk_cell BK140.out 0).trans rfl; have hcz20_1 : w17.cell? ⟨gb140, 1, none⟩ = some (.int .i64 a1_1) := (blk_cell BK140.out 1).trans rfl; have hcz20_2 : w17.cell? ⟨gb140, 2, none⟩ = some (.int .i64 a1_2) := (blk_cell BK140.out 2).trans rfl; have hfz20_0 := blk_frozen BK140.out 0; have hfz20_1 := blk_frozen BK140.out 1; have hfz20_2 := blk_frozen BK140.out 2))
      go_ret
      exact ⟨by first | rfl | (simp [errW_none, errW_some] <;> rfl) | (simp [*, errW_none, errW_some] <;> rfl), by repeat (first | (with_reducible first | exact HB.out | apply below_alloc | apply pw_below_drewN | apply below_drew1 | refine below_set ?_ GE139.out | refine below_set ?_ GE140.out) | exact HB.out)⟩
  · rw [if_neg c3] at H
    have c3b0 : (a0_0 == a1_0) = false := beq_eq_false_iff_ne.mpr c3
    have c3b1 : (a0_0 != a1_0) = true := bne_iff_ne.mpr c3
    obtain rfl := Option.some.inj H
    go_enter Try.func77, Try.ntmps77
    go_wp2_with (first | ((with_reducible refine gate_dst (N := 2) rfl ?_); refine box_event ?hg (N := 2) ?hd (cs := #[.int .i64 a0_0, .int .i64 a0_1, .int .i64 a0_2]) (t := 74) ?hr ?_; (case hd => rfl); (case hg => rfl); (case hr => first | (go_simp; done) | (go_simp; rfl)); intro gb139 hg w21 hbox hb; have n0_ := Aside0.mk (below_step (by repeat (first | (with_reducible first | exact HB.out | apply below_alloc | apply pw_below_drewN | apply below_drew1) | exact HB.out)) hb); have n1_ := Aside0.mk (hbox); have n2_ := Aside0.mk ((by rw [hg]; exact (below_size (by repeat (first | (with_reducible first | exact HB.out | apply below_alloc | apply pw_below_drewN | apply below_drew1) | exact HB.out))) : w.heap.size ≤ gb139)); have n3_ := Aside0.mk ((by rw [hg]; exact (below_size (by repeat (first | (with_reducible first | exact HB.out | apply below_alloc | apply pw_below_drewN | apply below_drew1) | exact HB.out))) : w.heap.size ≤ gb139)); clear HB; have HB := n0_; have BK139 := n1_; have GW139 := n2_; have GE139 := n3_; clear n0_ n1_ n2_ n3_; clear hb hbox hg) | ((with_reducible refine gate_dst (N := 3) rfl ?_); refine box_event ?hg (N := 3) ?hd (cs := #[.int .i64 a1_0, .int .i64 a1_1, .int .i64 a1_2]) (t := 74) ?hr ?_; (case hd => rfl); (case hg => rfl); (case hr => first | (go_simp; done) | (go_simp; rfl)); intro gb140 hg w22 hbox hb; have n0_ := Aside0.mk (blk_below (g := gb139) (o := .cells #[.int .i64 a0_0, .int .i64 a0_1, .int .i64 a0_2] 74 (0, 0)) (by (with_reducible repeat (first | refine blk_drewN ?_ _ | refine blk_drew ?_ | refine blk_alloc ?_ _)); exact BK139.out) hb); have n1_ := Aside0.mk (below_step (by repeat (first | (with_reducible first | exact HB.out | apply below_alloc | apply pw_below_drewN | apply below_drew1 | refine below_set ?_ GE139.out) | exact HB.out)) hb); have n2_ := Aside0.mk (hbox); have n3_ := Aside0.mk ((by rw [hg]; exact (below_size (by repeat (first | (with_reducible first | exact HB.out | apply below_alloc | apply pw_below_drewN | apply below_drew1 | refine below_set ?_ GE139.out) | exact HB.out))) : w.heap.size ≤ gb140)); have n4_ := Aside0.mk ((by rw [hg]; exact (below_size (by repeat (first | (with_reducible first | exact HB.out | apply below_alloc | apply pw_below_drewN | apply below_drew1 | refine below_set ?_ GE139.out) | exact HB.out))) : w.heap.size ≤ gb140)); have n5_ := Aside0.mk ((by rw [hg]; exact Nat.ne_of_lt (blk_lt (g := gb139) (o := .cells #[.int .i64 a0_0, .int .i64 a0_1, .int .i64 a0_2] 74 (0, 0)) (by (with_reducible repeat (first | refine blk_drewN ?_ _ | refine blk_drew ?_ | refine blk_alloc ?_ _)); exact BK139.out)) : gb139 ≠ gb140)); have n6_ := Aside0.mk ((by rw [hg]; exact Nat.ne_of_gt (blk_lt (g := gb139) (o := .cells #[.int .i64 a0_0, .int .i64 a0_1, .int .i64 a0_2] 74 (0, 0)) (by (with_reducible repeat (first | refine blk_drewN ?_ _ | refine blk_drew ?_ | refine blk_alloc ?_ _)); exact BK139.out)) : gb140 ≠ gb139)); clear BK139; clear HB; have BK139 := n0_; have HB := n1_; have BK140 := n2_; have GW140 := n3_; have GE140 := n4_; have NB139_140 := n5_; have NB140_139 := n6_; clear n0_ n1_ n2_ n3_ n4_ n5_ n6_; clear hb hbox hg; have hnb23 := NB139_140.out; have hnc23 := NB140_139.out; have hcz24_0 : w22.cell? ⟨gb139, 0, none⟩ = some (.int .i64 a0_0) := (blk_cell BK139.out 0).trans rfl; have hcz24_1 : w22.cell? ⟨gb139, 1, none⟩ = some (.int .i64 a0_1) := (blk_cell BK139.out 1).trans rfl; have hcz24_2 : w22.cell? ⟨gb139, 2, none⟩ = some (.int .i64 a0_2) := (blk_cell BK139.out 2).trans rfl; have hfz24_0 := blk_frozen BK139.out 0; have hfz24_1 := blk_frozen BK139.out 1; have hfz24_2 := blk_frozen BK139.out 2; have hcz25_0 : w22.cell? ⟨gb140, 0, none⟩ = some (.int .i64 a1_0) := (blk_cell BK140.out 0).trans rfl; have hcz25_1 : w22.cell? ⟨gb140, 1, none⟩ = some (.int .i64 a1_1) := (blk_cell BK140.out 1).trans rfl; have hcz25_2 : w22.cell? ⟨gb140, 2, none⟩ = some (.int .i64 a1_2) := (blk_cell BK140.out 2).trans rfl; have hfz25_0 := blk_frozen BK140.out 0; have hfz25_1 := blk_frozen BK140.out 1; have hfz25_2 := blk_frozen BK140.out 2))
    go_ret
    exact ⟨by first | rfl | (simp [errW_none, errW_some] <;> rfl) | (simp [*, errW_none, errW_some] <;> rfl), by repeat (first | (with_reducible first | exact HB.out | apply below_alloc | apply pw_below_drewN | apply below_drew1 | refine below_set ?_ GE139.out | refine below_set ?_ GE140.out) | exact HB.out)⟩

end Go.Proofs.Yteefbjkhheghkaa.QFnExactTermCircuit
