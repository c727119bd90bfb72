/- The functions that the law FnExactCircuitText uses: each Go function as a Lean function, and the proof that the Go code comes to its answers (part 3). Written by wip/gen/own.py out of what print.sh printed for this seat, changed by that program where the printed text fell in Lean. Conditions: those of each theorem. -/
import Derived.Test.YtanpidphaanjiaaDoorQFnExactCircuitTextx0
import Derived.Test.YtanpidphaanjiaaDoorQFnExactCircuitTextx2
namespace Go.Proofs.YtanpidphaanjiaaDoor.QFnExactCircuitText
open Go.RowKit Go.Proofs.YtanpidphaanjiaaDoorW.PrintWords Go.Proofs.YtanpidphaanjiaaDoorW.PrintLast Go.Proofs.YtanpidphaanjiaaDoorW.PrintMore
attribute [local go_sem] max2_int min2_int max_two min_two max_three min_three max_four min_four   -- for this text's walks alone
set_option linter.unusedVariables false
set_option linter.unusedSimpArgs false

/-! ### spec_ciText: function 17 -/
mutual
def spec_ciText.l0 : Nat → ByteArray → List (S47) → Int → Int → Int → List (S47) → List Int → Option (ByteArray)
  | 0, _, _, _, _, _, _, _ => none
  | k + 1, x3, x13, x14, x15, x124000, x124001, x124002 => if x15 < x14 then (if 0 ≤ x15 then (if x15 < (x13.length : Int) then ((some (([(⟨#[97, 110, 100]⟩ : ByteArray), (⟨#[111, 114]⟩ : ByteArray), (⟨#[120, 111, 114]⟩ : ByteArray), (⟨#[110, 111, 116]⟩ : ByteArray)] : List ByteArray) : List ByteArray)).bind fun y127 => (if 0 ≤ (wrap64 (((rd_T47 x13 x15).f0) - 1)) then (if (wrap64 (((rd_T47 x13 x15).f0) - 1)) < (y127.length : Int) then (if (rdOf ByteArray.empty y127 (wrap64 (((rd_T47 x13 x15).f0) - 1))).size + 1 ≤ 9223372036854775807 then ((spec_l1Num.f k ((rd_T47 x13 x15).f1)).bind fun t131 => (if ((rdOf ByteArray.empty y127 (wrap64 (((rd_T47 x13 x15).f0) - 1))) ++ (⟨#[32]⟩ : ByteArray)).size + t131.size ≤ 9223372036854775807 then (if x3.size + (((rdOf ByteArray.empty y127 (wrap64 (((rd_T47 x13 x15).f0) - 1))) ++ (⟨#[32]⟩ : ByteArray)) ++ t131).size ≤ 9223372036854775807 then (if ((rd_T47 x13 x15).f0) = 4 then (if (x3 ++ (((rdOf ByteArray.empty y127 (wrap64 (((rd_T47 x13 x15).f0) - 1))) ++ (⟨#[32]⟩ : ByteArray)) ++ t131)).size + 1 ≤ 9223372036854775807 then (spec_ciText.l0 k ((x3 ++ (((rdOf ByteArray.empty y127 (wrap64 (((rd_T47 x13 x15).f0) - 1))) ++ (⟨#[32]⟩ : ByteArray)) ++ t131)) ++ (⟨#[10]⟩ : ByteArray)) x13 x14 (wrap64 (x15 + 1)) x124000 x124001 x124002) else (none)) else ((spec_l1Num.f k ((rd_T47 x13 x15).f2)).bind fun t132 => (if 1 + t132.size ≤ 9223372036854775807 then (if (x3 ++ (((rdOf ByteArray.empty y127 (wrap64 (((rd_T47 x13 x15).f0) - 1))) ++ (⟨#[32]⟩ : ByteArray)) ++ t131)).size + ((⟨#[32]⟩ : ByteArray) ++ t132).size ≤ 9223372036854775807 then (if ((x3 ++ (((rdOf ByteArray.empty y127 (wrap64 (((rd_T47 x13 x15).f0) - 1))) ++ (⟨#[32]⟩ : ByteArray)) ++ t131)) ++ ((⟨#[32]⟩ : ByteArray) ++ t132)).size + 1 ≤ 9223372036854775807 then (spec_ciText.l0 k (((x3 ++ (((rdOf ByteArray.empty y127 (wrap64 (((rd_T47 x13 x15).f0) - 1))) ++ (⟨#[32]⟩ : ByteArray)) ++ t131)) ++ ((⟨#[32]⟩ : ByteArray) ++ t132)) ++ (⟨#[10]⟩ : ByteArray)) x13 x14 (wrap64 (x15 + 1)) x124000 x124001 x124002) else (none)) else (none)) else (none)))) else (none)) else (none))) else (none)) else (none)) else (none))) else (none)) else (none)) else (if x3.size + 3 ≤ 9223372036854775807 then (spec_ciText.l1 k (x3 ++ (⟨#[111, 117, 116]⟩ : ByteArray)) x124002 (x124002.length : Int) 0) else (none))
def spec_ciText.l1 : Nat → ByteArray → List Int → Int → Int → Option (ByteArray)
  | 0, _, _, _, _ => none
  | k + 1, x3, x47, x48, x49 => if x49 < x48 then (if 0 ≤ x49 then (if x49 < (x47.length : Int) then ((spec_l1Num.f k (rd x47 x49)).bind fun t134 => (if 1 + t134.size ≤ 9223372036854775807 then (if x3.size + ((⟨#[32]⟩ : ByteArray) ++ t134).size ≤ 9223372036854775807 then (spec_ciText.l1 k (x3 ++ ((⟨#[32]⟩ : ByteArray) ++ t134)) x47 x48 (wrap64 (x49 + 1))) else (none)) else (none))) else (none)) else (none)) else (if x3.size + 1 ≤ 9223372036854775807 then (some (x3 ++ (⟨#[10]⟩ : ByteArray))) else (none))
end
def spec_ciText.f (k : Nat) (a0_0 : Int) (l0_1 : List (S47)) (l0_2 : List Int) : Option (ByteArray) := (spec_l1Num.f k a0_0).bind fun t124 => (if t124.size + 1 ≤ 9223372036854775807 then (spec_ciText.l0 k (t124 ++ (⟨#[10]⟩ : ByteArray)) l0_1 (l0_1.length : Int) 0 a0_0 l0_1 l0_2) else (none))
theorem spec_ciText.mono_l : ∀ k, (∀ y0 y1 y2 y3 y4 y5 y6, LeO (spec_ciText.l0 k y0 y1 y2 y3 y4 y5 y6) (spec_ciText.l0 (k + 1) y0 y1 y2 y3 y4 y5 y6)) ∧ (∀ y0 y1 y2 y3, LeO (spec_ciText.l1 k y0 y1 y2 y3) (spec_ciText.l1 (k + 1) y0 y1 y2 y3))
  | 0 => ⟨fun _ _ _ _ _ _ _ r h => by simp [spec_ciText.l0] at h, fun _ _ _ _ r h => by simp [spec_ciText.l1] at h⟩
  | k + 1 => by
    obtain ⟨ih0, ih1⟩ := spec_ciText.mono_l k
    refine ⟨?_, ?_⟩
    · intro y0 y1 y2 y3 y4 y5 y6
      unfold spec_ciText.l0
      repeat' first
      | (with_reducible exact ih0 _ _ _ _ _ _ _)
      | (with_reducible exact ih1 _ _ _ _)
      | (with_reducible exact spec_l1Num.mono _ _)
      | (with_reducible exact LeO.refl _)
      | (with_reducible exact LeO.none _)
      | (with_reducible refine LeO.ite ?_ ?_)
      | (with_reducible refine LeO.bind ?_ (fun _ => ?_))
      | exact ih0 _ _ _ _ _ _ _
      | exact ih1 _ _ _ _
      | exact spec_l1Num.mono _ _
      | exact LeO.none _
      | refine LeO.ite ?_ ?_
      | refine LeO.bind ?_ (fun _ => ?_)
    · intro y0 y1 y2 y3
      unfold spec_ciText.l1
      repeat' first
      | (with_reducible exact ih0 _ _ _ _ _ _ _)
      | (with_reducible exact ih1 _ _ _ _)
      | (with_reducible exact spec_l1Num.mono _ _)
      | (with_reducible exact LeO.refl _)
      | (with_reducible exact LeO.none _)
      | (with_reducible refine LeO.ite ?_ ?_)
      | (with_reducible refine LeO.bind ?_ (fun _ => ?_))
      | exact ih0 _ _ _ _ _ _ _
      | exact ih1 _ _ _ _
      | exact spec_l1Num.mono _ _
      | exact LeO.none _
      | refine LeO.ite ?_ ?_
      | refine LeO.bind ?_ (fun _ => ?_)
theorem spec_ciText.mono : ∀ a0 a1 a2 k, LeO (spec_ciText.f k a0 a1 a2) (spec_ciText.f (k + 1) a0 a1 a2) := by
  intro a0 a1 a2 k
  obtain ⟨ih0, ih1⟩ := spec_ciText.mono_l k
  unfold spec_ciText.f
  repeat' first
      | (with_reducible exact ih0 _ _ _ _ _ _ _)
      | (with_reducible exact ih1 _ _ _ _)
      | (with_reducible exact spec_l1Num.mono _ _)
      | (with_reducible exact LeO.refl _)
      | (with_reducible exact LeO.none _)
      | (with_reducible refine LeO.ite ?_ ?_)
      | (with_reducible refine LeO.bind ?_ (fun _ => ?_))
      | exact ih0 _ _ _ _ _ _ _
      | exact ih1 _ _ _ _
      | exact spec_l1Num.mono _ _
      | exact LeO.none _
      | refine LeO.ite ?_ ?_
      | refine LeO.bind ?_ (fun _ => ?_)
def spec_ciText.T5 : Bool × List (List Nat × List Nat) := (true, [([], []), ([], []), ([], []), ([2], [2]), ([3], [3]), ([1, 4], [1, 4]), ([5], [5]), ([6], [6]), ([], []), ([8], [8]), ([9], [9]), ([7, 10], [7, 10]), ([0, 11], [0, 11]), ([12, 10, 0, 1, 2, 3, 4, 5, 6, 7, 8, 9, 10, 11, 12], [0, 12])])
def spec_ciText.B5 : List Nat := [0, 0, 0, 4, 12, 30, 62, 126, 0, 256, 768, 2046, 4095, 8191]
theorem spec_ciText.tab5 : rtab .any (opsOf Tryd.f17 5) = spec_ciText.T5 := by kernel_rfl
theorem spec_ciText.bits5 : waitsOk spec_ciText.T5.2 spec_ciText.B5 = true := by kernel_rfl
set_option maxHeartbeats 8000000 in
set_option maxRecDepth 100000 in
theorem spec_ciText.calls (k : Nat) (a0_0 : Int) (A0_1 : Option Addr) (c0_1 : Nat) (l0_1 : List (S47)) (A0_2 : Option Addr) (c0_2 : Nat) (l0_2 : List Int) (r : ByteArray) (w : World) (hr0_1 : Kd.C k47 w A0_1 l0_1.length l0_1) (hc0_1 : l0_1.length ≤ c0_1) (hr0_2 : Kd.C (Kd.int .i64) w A0_2 l0_2.length l0_2) (hc0_2 : l0_2.length ≤ c0_2) (h : spec_ciText.f k a0_0 l0_1 l0_2 = some r) :
    Calls Tryd.prog 17 #[.agg #[.int .i64 a0_0, .slice A0_1 l0_1.length c0_1, .slice A0_2 l0_2.length c0_2]] w fun e w' => e = .returned (.string r) ∧ Below w.heap.size w w' := by
  have hu31 := Tryd.underlying31
  have hu47 := Tryd.underlying47
  have HR0_1 := Aside0.mk hr0_1
  have HC0_1 := Aside0.mk hc0_1
  clear hr0_1 hc0_1
  have HR0_2 := Aside0.mk hr0_2
  have HC0_2 := Aside0.mk hc0_2
  clear hr0_2 hc0_2
  have HB := Aside0.mk (Below.refl w.heap.size w)
  have H : ((spec_l1Num.f k a0_0).bind fun t124 => (if t124.size + 1 ≤ 9223372036854775807 then (spec_ciText.l0 k (t124 ++ (⟨#[10]⟩ : ByteArray)) l0_1 (l0_1.length : Int) 0 a0_0 l0_1 l0_2) else (none))) = some r := h
  clear h
  replace H := Option.bind_eq_some_iff.mp H
  obtain ⟨t124, A20, H⟩ := H
  replace H : (if t124.size + 1 ≤ 9223372036854775807 then (spec_ciText.l0 k (t124 ++ (⟨#[10]⟩ : ByteArray)) l0_1 (l0_1.length : Int) 0 a0_0 l0_1 l0_2) else (none)) = some r := H
  have A2 := Aside0.mk A20
  clear A20
  by_cases c3 : t124.size + 1 ≤ 9223372036854775807
  · rw [if_pos c3] at H
    have c3b0 := eq_true c3
    have c3b1 : decide (t124.size + 1 ≤ 9223372036854775807) = true := decide_eq_true c3
    try have c3b2 : (9223372036854775807 < t124.size + 1) = False := eq_false (Nat.not_lt.2 c3)
    have H' := Aside0.mk H
    clear H
    go_enter Tryd.func17, Tryd.ntmps17
    go_wp2_with (first | ((with_reducible refine gate_dst (N := 1) rfl ?_); refine box_event ?hg (N := 1) ?hd (cs := #[.int .i64 a0_0, .slice A0_1 l0_1.length c0_1, .slice A0_2 l0_2.length c0_2]) (t := 31) ?hr ?_; (case hd => rfl); (case hg => rfl); (case hr => first | (go_simp; done) | (go_simp; rfl)); intro gb123 hg w4 hbox hb; have n0_ := Aside0.mk (below_step (by repeat (first | (with_reducible first | exact HB.out | apply below_alloc | apply pw_below_drewN | apply below_drew1) | exact HB.out)) hb); have n1_ := Aside0.mk (hbox); have n2_ := Aside0.mk ((by rw [hg]; exact (below_size (by repeat (first | (with_reducible first | exact HB.out | apply below_alloc | apply pw_below_drewN | apply below_drew1) | exact HB.out))) : w.heap.size ≤ gb123)); have n3_ := Aside0.mk ((by rw [hg]; exact (below_size (by repeat (first | (with_reducible first | exact HB.out | apply below_alloc | apply pw_below_drewN | apply below_drew1) | exact HB.out))) : w.heap.size ≤ gb123)); clear HB; have HB := n0_; have BK123 := n1_; have GW123 := n2_; have GE123 := n3_; clear n0_ n1_ n2_ n3_; clear hb hbox hg; have hcz5_0 : w4.cell? ⟨gb123, 0, none⟩ = some (.int .i64 a0_0) := (blk_cell BK123.out 0).trans rfl; have hcz5_1 : w4.cell? ⟨gb123, 1, none⟩ = some (.slice A0_1 l0_1.length c0_1) := (blk_cell BK123.out 1).trans rfl; have hcz5_2 : w4.cell? ⟨gb123, 2, none⟩ = some (.slice A0_2 l0_2.length c0_2) := (blk_cell BK123.out 2).trans rfl; have hfz5_0 := blk_frozen BK123.out 0; have hfz5_1 := blk_frozen BK123.out 1; have hfz5_2 := blk_frozen BK123.out 2) | ((with_reducible refine gate_callee (f := 39) rfl ?_); refine goesL_ (some 10) rfl rfl Tryd.func39 (by kernel_rfl) rfl #[.int .i64 a0_0] rfl (by (try simp only [List.map_toArray, List.map_cons, List.map_nil]); first | done | rfl | (simp only [List.length_drop, List.length_take]; rfl)) ?_; (with_reducible refine (spec_l1Num.calls k a0_0 t124 _ A2.out).mono ?_); rintro e w6 ⟨rfl, hb⟩; refine ⟨_, rfl, ?_⟩; have n0_ := Aside0.mk (blk_below (g := gb123) (o := .cells #[.int .i64 a0_0, .slice A0_1 l0_1.length c0_1, .slice A0_2 l0_2.length c0_2] 31 (0, 0)) (by (with_reducible repeat (first | refine blk_drewN ?_ _ | refine blk_drew ?_ | refine blk_alloc ?_ _)); exact BK123.out) hb); have n1_ := Aside0.mk (below_step (by repeat (first | (with_reducible first | exact HB.out | apply below_alloc | apply pw_below_drewN | apply below_drew1 | refine below_set ?_ GE123.out) | exact HB.out)) hb); clear BK123; clear HB; have BK123 := n0_; have HB := n1_; clear n0_ n1_; (try clear hb); (try clear hb2); (try clear hk); (try clear hi); have hcz7_0 : w6.cell? ⟨gb123, 0, none⟩ = some (.int .i64 a0_0) := (blk_cell BK123.out 0).trans rfl; have hcz7_1 : w6.cell? ⟨gb123, 1, none⟩ = some (.slice A0_1 l0_1.length c0_1) := (blk_cell BK123.out 1).trans rfl; have hcz7_2 : w6.cell? ⟨gb123, 2, none⟩ = some (.slice A0_2 l0_2.length c0_2) := (blk_cell BK123.out 2).trans rfl; have hfz7_0 := blk_frozen BK123.out 0; have hfz7_1 := blk_frozen BK123.out 1; have hfz7_2 := blk_frozen BK123.out 2))
    go_loopg [3, 15] k (fun kq v3 v15 w' => ∃ (x3_1 : ByteArray) (x15_1 : Int), v3 = .string x3_1 ∧ v15 = .int .i64 x15_1 ∧ Aside0 (spec_ciText.l0 kq x3_1 l0_1 (l0_1.length : Int) x15_1 a0_0 l0_1 l0_2 = some r) ∧ Aside0 (kq ≤ k) ∧ Aside0 (w'.heap[gb123]? = some (.cells #[.int .i64 a0_0, (.slice A0_1 l0_1.length c0_1), (.slice A0_2 l0_2.length c0_2)] 31 (0, 0))) ∧ Aside0 (Below w.heap.size w w'))
    case atStart => exact ⟨(t124 ++ (⟨#[10]⟩ : ByteArray)), (0), (by first | rfl | (simp; done) | (simp [*]; done)), (by first | rfl | (simp; done) | (simp [*]; done)), H', ⟨Nat.le_refl _⟩, ⟨by (with_reducible repeat (first | refine blk_drewN ?_ _ | refine blk_drew ?_ | refine blk_alloc ?_ _)); exact BK123.out⟩, ⟨by repeat (first | (with_reducible first | exact HB.out | apply below_alloc | apply pw_below_drewN | apply below_drew1 | refine below_set ?_ GE123.out) | exact HB.out)⟩⟩
    case round =>
      clear H'
      try clear c1
      try clear p2
      try clear c3
      try clear c3b0
      try clear c3b1
      try clear c3b2
      try clear hcz5_0
      try clear hcz5_1
      try clear hcz5_2
      try clear hcz7_0
      try clear hcz7_1
      try clear hcz7_2
      try clear hfz5_0
      try clear hfz5_1
      try clear hfz5_2
      try clear hfz7_0
      try clear hfz7_1
      try clear hfz7_2
      obtain ⟨x3_1, x15_1, rfl, rfl, HA, HK1, BK123, HB⟩ := hrel
      cases gk with
      | zero => exact absurd HA.out (by simp [spec_ciText.l0])
      | succ k1 =>
        have H := HA.out
        clear HA
        simp only [spec_ciText.l0] at H
        by_cases c8 : x15_1 < (l0_1.length : Int)
        · rw [if_pos c8] at H
          have c8b0 : decide (x15_1 < (l0_1.length : Int)) = true := decide_eq_true c8
          clear c8
          by_cases c9 : 0 ≤ x15_1
          · rw [if_pos c9] at H
            have c9b0 : decide (0 ≤ x15_1) = true := decide_eq_true c9
            clear c9
            by_cases c10 : x15_1 < (l0_1.length : Int)
            · rw [if_pos c10] at H
              have c10b0 : decide (x15_1 < (l0_1.length : Int)) = true := decide_eq_true c10
              clear c10
              obtain ⟨y127, hy127⟩ : ∃ y_ : List ByteArray, y_ = (([(⟨#[97, 110, 100]⟩ : ByteArray), (⟨#[111, 114]⟩ : ByteArray), (⟨#[120, 111, 114]⟩ : ByteArray), (⟨#[110, 111, 116]⟩ : ByteArray)] : List ByteArray)) := ⟨_, rfl⟩
              replace H : (if 0 ≤ (wrap64 (((rd_T47 l0_1 x15_1).f0) - 1)) then (if (wrap64 (((rd_T47 l0_1 x15_1).f0) - 1)) < (y127.length : Int) then (if (rdOf ByteArray.empty y127 (wrap64 (((rd_T47 l0_1 x15_1).f0) - 1))).size + 1 ≤ 9223372036854775807 then ((spec_l1Num.f k1 ((rd_T47 l0_1 x15_1).f1)).bind fun t131 => (if ((rdOf ByteArray.empty y127 (wrap64 (((rd_T47 l0_1 x15_1).f0) - 1))) ++ (⟨#[32]⟩ : ByteArray)).size + t131.size ≤ 9223372036854775807 then (if x3_1.size + (((rdOf ByteArray.empty y127 (wrap64 (((rd_T47 l0_1 x15_1).f0) - 1))) ++ (⟨#[32]⟩ : ByteArray)) ++ t131).size ≤ 9223372036854775807 then (if ((rd_T47 l0_1 x15_1).f0) = 4 then (if (x3_1 ++ (((rdOf ByteArray.empty y127 (wrap64 (((rd_T47 l0_1 x15_1).f0) - 1))) ++ (⟨#[32]⟩ : ByteArray)) ++ t131)).size + 1 ≤ 9223372036854775807 then (spec_ciText.l0 k1 ((x3_1 ++ (((rdOf ByteArray.empty y127 (wrap64 (((rd_T47 l0_1 x15_1).f0) - 1))) ++ (⟨#[32]⟩ : ByteArray)) ++ t131)) ++ (⟨#[10]⟩ : ByteArray)) l0_1 (l0_1.length : Int) (wrap64 (x15_1 + 1)) a0_0 l0_1 l0_2) else (none)) else ((spec_l1Num.f k1 ((rd_T47 l0_1 x15_1).f2)).bind fun t132 => (if 1 + t132.size ≤ 9223372036854775807 then (if (x3_1 ++ (((rdOf ByteArray.empty y127 (wrap64 (((rd_T47 l0_1 x15_1).f0) - 1))) ++ (⟨#[32]⟩ : ByteArray)) ++ t131)).size + ((⟨#[32]⟩ : ByteArray) ++ t132).size ≤ 9223372036854775807 then (if ((x3_1 ++ (((rdOf ByteArray.empty y127 (wrap64 (((rd_T47 l0_1 x15_1).f0) - 1))) ++ (⟨#[32]⟩ : ByteArray)) ++ t131)) ++ ((⟨#[32]⟩ : ByteArray) ++ t132)).size + 1 ≤ 9223372036854775807 then (spec_ciText.l0 k1 (((x3_1 ++ (((rdOf ByteArray.empty y127 (wrap64 (((rd_T47 l0_1 x15_1).f0) - 1))) ++ (⟨#[32]⟩ : ByteArray)) ++ t131)) ++ ((⟨#[32]⟩ : ByteArray) ++ t132)) ++ (⟨#[10]⟩ : ByteArray)) l0_1 (l0_1.length : Int) (wrap64 (x15_1 + 1)) a0_0 l0_1 l0_2) else (none)) else (none)) else (none)))) else (none)) else (none))) else (none)) else (none)) else (none)) = some r := by first | (rw [hy127]; with_reducible exact H) | (have H2_ := (Option.bind_some _ _).symm.trans H; rw [hy127]; with_reducible exact H2_) | (have H2_ := (Option.bind_some _ _).symm.trans H; with_reducible exact H2_) | with_reducible exact H | (rw [hy127]; exact H) | exact H
              have Ny127 := Aside0.mk hy127
              clear hy127
              obtain ⟨ji11, hji11⟩ : ∃ j_ : Int, (wrap64 (((rd_T47 l0_1 x15_1).f0) - 1)) = j_ := ⟨_, rfl⟩
              replace H : (if 0 ≤ (ji11) then (if (ji11) < (y127.length : Int) then (if (rdOf ByteArray.empty y127 (ji11)).size + 1 ≤ 9223372036854775807 then ((spec_l1Num.f k1 ((rd_T47 l0_1 x15_1).f1)).bind fun t131 => (if ((rdOf ByteArray.empty y127 (ji11)) ++ (⟨#[32]⟩ : ByteArray)).size + t131.size ≤ 9223372036854775807 then (if x3_1.size + (((rdOf ByteArray.empty y127 (ji11)) ++ (⟨#[32]⟩ : ByteArray)) ++ t131).size ≤ 9223372036854775807 then (if ((rd_T47 l0_1 x15_1).f0) = 4 then (if (x3_1 ++ (((rdOf ByteArray.empty y127 (ji11)) ++ (⟨#[32]⟩ : ByteArray)) ++ t131)).size + 1 ≤ 9223372036854775807 then (spec_ciText.l0 k1 ((x3_1 ++ (((rdOf ByteArray.empty y127 (ji11)) ++ (⟨#[32]⟩ : ByteArray)) ++ t131)) ++ (⟨#[10]⟩ : ByteArray)) l0_1 (l0_1.length : Int) (wrap64 (x15_1 + 1)) a0_0 l0_1 l0_2) else (none)) else ((spec_l1Num.f k1 ((rd_T47 l0_1 x15_1).f2)).bind fun t132 => (if 1 + t132.size ≤ 9223372036854775807 then (if (x3_1 ++ (((rdOf ByteArray.empty y127 (ji11)) ++ (⟨#[32]⟩ : ByteArray)) ++ t131)).size + ((⟨#[32]⟩ : ByteArray) ++ t132).size ≤ 9223372036854775807 then (if ((x3_1 ++ (((rdOf ByteArray.empty y127 (ji11)) ++ (⟨#[32]⟩ : ByteArray)) ++ t131)) ++ ((⟨#[32]⟩ : ByteArray) ++ t132)).size + 1 ≤ 9223372036854775807 then (spec_ciText.l0 k1 (((x3_1 ++ (((rdOf ByteArray.empty y127 (ji11)) ++ (⟨#[32]⟩ : ByteArray)) ++ t131)) ++ ((⟨#[32]⟩ : ByteArray) ++ t132)) ++ (⟨#[10]⟩ : ByteArray)) l0_1 (l0_1.length : Int) (wrap64 (x15_1 + 1)) a0_0 l0_1 l0_2) else (none)) else (none)) else (none)))) else (none)) else (none))) else (none)) else (none)) else (none)) = some r := by first | (rw [hji11] at H; exact H) | (simp only [hji11] at H ⊢; exact H)
              have hji11w : (IntKind.i64.wrap (((rd_T47 l0_1 x15_1).f0) - 1)) = ji11 := (i64_w _).trans hji11
              by_cases c12 : 0 ≤ (ji11)
              · rw [if_pos c12] at H
                have c12b0 : decide (0 ≤ (ji11)) = true := decide_eq_true c12
                clear c12
                by_cases c13 : (ji11) < (y127.length : Int)
                · rw [if_pos c13] at H
                  have c13b0 : decide ((ji11) < (y127.length : Int)) = true := decide_eq_true c13
                  clear c13
                  by_cases c14 : (rdOf ByteArray.empty y127 (ji11)).size + 1 ≤ 9223372036854775807
                  · rw [if_pos c14] at H
                    have c14b0 := eq_true c14
                    have c14b1 : decide ((rdOf ByteArray.empty y127 (ji11)).size + 1 ≤ 9223372036854775807) = true := decide_eq_true c14
                    try have c14b2 : (9223372036854775807 < (rdOf ByteArray.empty y127 (ji11)).size + 1) = False := eq_false (Nat.not_lt.2 c14)
                    replace H := Option.bind_eq_some_iff.mp H
                    obtain ⟨t131, A150, H⟩ := H
                    replace H : (if ((rdOf ByteArray.empty y127 (ji11)) ++ (⟨#[32]⟩ : ByteArray)).size + t131.size ≤ 9223372036854775807 then (if x3_1.size + (((rdOf ByteArray.empty y127 (ji11)) ++ (⟨#[32]⟩ : ByteArray)) ++ t131).size ≤ 9223372036854775807 then (if ((rd_T47 l0_1 x15_1).f0) = 4 then (if (x3_1 ++ (((rdOf ByteArray.empty y127 (ji11)) ++ (⟨#[32]⟩ : ByteArray)) ++ t131)).size + 1 ≤ 9223372036854775807 then (spec_ciText.l0 k1 ((x3_1 ++ (((rdOf ByteArray.empty y127 (ji11)) ++ (⟨#[32]⟩ : ByteArray)) ++ t131)) ++ (⟨#[10]⟩ : ByteArray)) l0_1 (l0_1.length : Int) (wrap64 (x15_1 + 1)) a0_0 l0_1 l0_2) else (none)) else ((spec_l1Num.f k1 ((rd_T47 l0_1 x15_1).f2)).bind fun t132 => (if 1 + t132.size ≤ 9223372036854775807 then (if (x3_1 ++ (((rdOf ByteArray.empty y127 (ji11)) ++ (⟨#[32]⟩ : ByteArray)) ++ t131)).size + ((⟨#[32]⟩ : ByteArray) ++ t132).size ≤ 9223372036854775807 then (if ((x3_1 ++ (((rdOf ByteArray.empty y127 (ji11)) ++ (⟨#[32]⟩ : ByteArray)) ++ t131)) ++ ((⟨#[32]⟩ : ByteArray) ++ t132)).size + 1 ≤ 9223372036854775807 then (spec_ciText.l0 k1 (((x3_1 ++ (((rdOf ByteArray.empty y127 (ji11)) ++ (⟨#[32]⟩ : ByteArray)) ++ t131)) ++ ((⟨#[32]⟩ : ByteArray) ++ t132)) ++ (⟨#[10]⟩ : ByteArray)) l0_1 (l0_1.length : Int) (wrap64 (x15_1 + 1)) a0_0 l0_1 l0_2) else (none)) else (none)) else (none)))) else (none)) else (none)) = some r := H
                    have A15 := Aside0.mk A150
                    clear A150
                    by_cases c16 : ((rdOf ByteArray.empty y127 (ji11)) ++ (⟨#[32]⟩ : ByteArray)).size + t131.size ≤ 9223372036854775807
                    · rw [if_pos c16] at H
                      have c16b0 := eq_true c16
                      have c16b1 : decide (((rdOf ByteArray.empty y127 (ji11)) ++ (⟨#[32]⟩ : ByteArray)).size + t131.size ≤ 9223372036854775807) = true := decide_eq_true c16
                      (try have c16b3 : ((rdOf ByteArray.empty y127 (ji11)).size + 1 + t131.size ≤ 9223372036854775807) = True := eq_true (by have h_ := c16; (repeat rw [ByteArray.size_append] at h_); exact h_))
                      (try have c16b4 : (9223372036854775807 < (rdOf ByteArray.empty y127 (ji11)).size + 1 + t131.size) = False := eq_false (by have h_ := c16; (repeat rw [ByteArray.size_append] at h_); exact Nat.not_lt.2 h_))
                      try have c16b2 : (9223372036854775807 < ((rdOf ByteArray.empty y127 (ji11)) ++ (⟨#[32]⟩ : ByteArray)).size + t131.size) = False := eq_false (Nat.not_lt.2 c16)
                      by_cases c17 : x3_1.size + (((rdOf ByteArray.empty y127 (ji11)) ++ (⟨#[32]⟩ : ByteArray)) ++ t131).size ≤ 9223372036854775807
                      · rw [if_pos c17] at H
                        have c17b0 := eq_true c17
                        have c17b1 : decide (x3_1.size + (((rdOf ByteArray.empty y127 (ji11)) ++ (⟨#[32]⟩ : ByteArray)) ++ t131).size ≤ 9223372036854775807) = true := decide_eq_true c17
                        (try have c17b3 : (x3_1.size + ((rdOf ByteArray.empty y127 (ji11)).size + 1 + t131.size) ≤ 9223372036854775807) = True := eq_true (by have h_ := c17; (repeat rw [ByteArray.size_append] at h_); exact h_))
                        (try have c17b4 : (9223372036854775807 < x3_1.size + ((rdOf ByteArray.empty y127 (ji11)).size + 1 + t131.size)) = False := eq_false (by have h_ := c17; (repeat rw [ByteArray.size_append] at h_); exact Nat.not_lt.2 h_))
                        try have c17b2 : (9223372036854775807 < x3_1.size + (((rdOf ByteArray.empty y127 (ji11)) ++ (⟨#[32]⟩ : ByteArray)) ++ t131).size) = False := eq_false (Nat.not_lt.2 c17)
                        by_cases c18 : ((rd_T47 l0_1 x15_1).f0) = 4
                        · rw [if_pos c18] at H
                          have c18b0 : (((rd_T47 l0_1 x15_1).f0) == 4) = true := beq_iff_eq.mpr c18
                          have c18b1 : (((rd_T47 l0_1 x15_1).f0) != 4) = false := bne_eq_false_iff_eq.mpr c18
                          clear c18
                          by_cases c19 : (x3_1 ++ (((rdOf ByteArray.empty y127 (ji11)) ++ (⟨#[32]⟩ : ByteArray)) ++ t131)).size + 1 ≤ 9223372036854775807
                          · rw [if_pos c19] at H
                            have c19b0 := eq_true c19
                            have c19b1 : decide ((x3_1 ++ (((rdOf ByteArray.empty y127 (ji11)) ++ (⟨#[32]⟩ : ByteArray)) ++ t131)).size + 1 ≤ 9223372036854775807) = true := decide_eq_true c19
                            (try have c19b3 : (x3_1.size + ((rdOf ByteArray.empty y127 (ji11)).size + 1 + t131.size) + 1 ≤ 9223372036854775807) = True := eq_true (by have h_ := c19; (repeat rw [ByteArray.size_append] at h_); exact h_))
                            (try have c19b4 : (9223372036854775807 < x3_1.size + ((rdOf ByteArray.empty y127 (ji11)).size + 1 + t131.size) + 1) = False := eq_false (by have h_ := c19; (repeat rw [ByteArray.size_append] at h_); exact Nat.not_lt.2 h_))
                            try have c19b2 : (9223372036854775807 < (x3_1 ++ (((rdOf ByteArray.empty y127 (ji11)) ++ (⟨#[32]⟩ : ByteArray)) ++ t131)).size + 1) = False := eq_false (Nat.not_lt.2 c19)
                            have H' := Aside0.mk H
                            clear H
                            have p125 : 0 ≤ (x15_1 : Int) := of_decide_eq_true (by first | (with_reducible assumption) | assumption)
                            have q125 : x15_1 < (l0_1.length : Int) := of_decide_eq_true (by first | (with_reducible assumption) | assumption)
                            obtain ⟨ad125, e125, hx125_0, hx125_1, hx125_2⟩ := at_T47 HR0_1.out x15_1 p125 q125
                            cases e125
                            (try (replace hx125_0 := (HB.out.cell (World.block_lt_of_cell? w _ hx125_0)).trans hx125_0))
                            (try (replace hx125_1 := (HB.out.cell (World.block_lt_of_cell? w _ hx125_1)).trans hx125_1))
                            (try (replace hx125_2 := (HB.out.cell (World.block_lt_of_cell? w _ hx125_2)).trans hx125_2))
                            replace p125 := eq_true p125
                            replace q125 := eq_true q125
                            try go_wp2_with (first | ((with_reducible refine gate_dst (N := 5) rfl ?_); refine box_event ?hg (N := 5) ?hd (cs := #[.int .i64 0, .int .i64 0, .int .i64 0]) (t := 47) ?hr ?_; (case hd => rfl); (case hg => rfl); (case hr => first | (go_simp; done) | (go_simp; rfl)); intro gb126 hg w20 hbox hb; have n0_ := Aside0.mk (blk_below (g := gb123) (o := .cells #[.int .i64 a0_0, .slice (some ad125) l0_1.length c0_1, .slice A0_2 l0_2.length c0_2] 31 (0, 0)) (by (with_reducible repeat (first | refine blk_drewN ?_ _ | refine blk_drew ?_ | refine blk_alloc ?_ _)); exact BK123.out) hb); have n1_ := Aside0.mk (below_step (by repeat (first | (with_reducible first | exact HB.out | apply below_alloc | apply pw_below_drewN | apply below_drew1 | refine below_set ?_ GE123.out) | exact HB.out)) hb); have n2_ := Aside0.mk (hbox); have n3_ := Aside0.mk ((by rw [hg]; exact (below_size (by repeat (first | (with_reducible first | exact HB.out | apply below_alloc | apply pw_below_drewN | apply below_drew1 | refine below_set ?_ GE123.out) | exact HB.out))) : w.heap.size ≤ gb126)); have n4_ := Aside0.mk ((by rw [hg]; exact (below_size (by repeat (first | (with_reducible first | exact HB.out | apply below_alloc | apply pw_below_drewN | apply below_drew1 | refine below_set ?_ GE123.out) | exact HB.out))) : w.heap.size ≤ gb126)); have n5_ := Aside0.mk ((by rw [hg]; exact Nat.ne_of_lt (blk_lt (g := gb123) (o := .cells #[.int .i64 a0_0, .slice (some ad125) l0_1.length c0_1, .slice A0_2 l0_2.length c0_2] 31 (0, 0)) (by (with_reducible repeat (first | refine blk_drewN ?_ _ | refine blk_drew ?_ | refine blk_alloc ?_ _)); exact BK123.out)) : gb123 ≠ gb126)); have n6_ := Aside0.mk ((by rw [hg]; exact Nat.ne_of_gt (blk_lt (g := gb123) (o := .cells #[.int .i64 a0_0, .slice (some ad125) l0_1.length c0_1, .slice A0_2 l0_2.length c0_2] 31 (0, 0)) (by (with_reducible repeat (first | refine blk_drewN ?_ _ | refine blk_drew ?_ | refine blk_alloc ?_ _)); exact BK123.out)) : gb126 ≠ gb123)); clear BK123; clear HB; have BK123 := n0_; have HB := n1_; have BK126 := n2_; have GW126 := n3_; have GE126 := n4_; have NB123_126 := n5_; have NB126_123 := n6_; clear n0_ n1_ n2_ n3_ n4_ n5_ n6_; clear hb hbox hg; have hnb21 := NB126_123.out; have hnc21 := NB123_126.out; have hcz22_0 : w20.cell? ⟨gb126, 0, none⟩ = some (.int .i64 0) := (blk_cell BK126.out 0).trans rfl; have hcz22_1 : w20.cell? ⟨gb126, 1, none⟩ = some (.int .i64 0) := (blk_cell BK126.out 1).trans rfl; have hcz22_2 : w20.cell? ⟨gb126, 2, none⟩ = some (.int .i64 0) := (blk_cell BK126.out 2).trans rfl; have hfz22_0 := blk_frozen BK126.out 0; have hfz22_1 := blk_frozen BK126.out 1; have hfz22_2 := blk_frozen BK126.out 2))
                            have pi130 : (0 ≤ ((ji11) : Int)) = True := eq_true (of_decide_eq_true (by first | (with_reducible assumption) | assumption))
                            have qi130 : ((ji11) < (y127.length : Int)) = True := eq_true (of_decide_eq_true (by first | (with_reducible assumption) | assumption))
                            have n0_ : Aside0 ((((w20.setCell ⟨gb126, 0, none⟩ (.int .i64 ((rd_T47 l0_1 x15_1).f0))).setCell ⟨gb126, 1, none⟩ (.int .i64 ((rd_T47 l0_1 x15_1).f1))).setCell ⟨gb126, 2, none⟩ (.int .i64 ((rd_T47 l0_1 x15_1).f2))).heap[gb123]? = some (.cells #[.int .i64 a0_0, .slice (some ad125) l0_1.length c0_1, .slice A0_2 l0_2.length c0_2] 31 (0, 0))) := ⟨by (with_reducible repeat (first | refine blk_drewN ?_ _ | refine blk_drew ?_ | refine blk_alloc ?_ _)); refine blk_far ?_ NB123_126.out _; (with_reducible repeat (first | refine blk_drewN ?_ _ | refine blk_drew ?_ | refine blk_alloc ?_ _)); refine blk_far ?_ NB123_126.out _; (with_reducible repeat (first | refine blk_drewN ?_ _ | refine blk_drew ?_ | refine blk_alloc ?_ _)); refine blk_far ?_ NB123_126.out _; (with_reducible repeat (first | refine blk_drewN ?_ _ | refine blk_drew ?_ | refine blk_alloc ?_ _)); exact BK123.out⟩
                            have n1_ : Aside0 ((((w20.setCell ⟨gb126, 0, none⟩ (.int .i64 ((rd_T47 l0_1 x15_1).f0))).setCell ⟨gb126, 1, none⟩ (.int .i64 ((rd_T47 l0_1 x15_1).f1))).setCell ⟨gb126, 2, none⟩ (.int .i64 ((rd_T47 l0_1 x15_1).f2))).heap[gb126]? = some (.cells #[.int .i64 ((rd_T47 l0_1 x15_1).f0), .int .i64 ((rd_T47 l0_1 x15_1).f1), .int .i64 ((rd_T47 l0_1 x15_1).f2)] 47 (0, 0))) := ⟨by (with_reducible repeat (first | refine blk_drewN ?_ _ | refine blk_drew ?_ | refine blk_alloc ?_ _)); refine blk_put (cs := #[.int .i64 ((rd_T47 l0_1 x15_1).f0), .int .i64 ((rd_T47 l0_1 x15_1).f1), .int .i64 0]) ?_ 2 _ rfl; (with_reducible repeat (first | refine blk_drewN ?_ _ | refine blk_drew ?_ | refine blk_alloc ?_ _)); refine blk_put (cs := #[.int .i64 ((rd_T47 l0_1 x15_1).f0), .int .i64 0, .int .i64 0]) ?_ 1 _ rfl; (with_reducible repeat (first | refine blk_drewN ?_ _ | refine blk_drew ?_ | refine blk_alloc ?_ _)); refine blk_put (cs := #[.int .i64 0, .int .i64 0, .int .i64 0]) ?_ 0 _ rfl; (with_reducible repeat (first | refine blk_drewN ?_ _ | refine blk_drew ?_ | refine blk_alloc ?_ _)); exact BK126.out⟩
                            have n2_ : Aside0 (Below w.heap.size w (((w20.setCell ⟨gb126, 0, none⟩ (.int .i64 ((rd_T47 l0_1 x15_1).f0))).setCell ⟨gb126, 1, none⟩ (.int .i64 ((rd_T47 l0_1 x15_1).f1))).setCell ⟨gb126, 2, none⟩ (.int .i64 ((rd_T47 l0_1 x15_1).f2)))) := ⟨by repeat (first | (with_reducible first | exact HB.out | apply below_alloc | apply pw_below_drewN | apply below_drew1 | refine below_set ?_ GE123.out | refine below_set ?_ GE126.out) | exact HB.out)⟩
                            (try clear BK123)
                            (try clear BK126)
                            (try clear HB)
                            generalize (((w20.setCell ⟨gb126, 0, none⟩ (.int .i64 ((rd_T47 l0_1 x15_1).f0))).setCell ⟨gb126, 1, none⟩ (.int .i64 ((rd_T47 l0_1 x15_1).f1))).setCell ⟨gb126, 2, none⟩ (.int .i64 ((rd_T47 l0_1 x15_1).f2))) = w23 at n0_ n1_ n2_ ⊢
                            have BK123 := n0_
                            have BK126 := n1_
                            have HB := n2_
                            clear n0_ n1_ n2_
                            have n0_ := Aside0.mk (blk_drew BK123.out)
                            have n1_ := Aside0.mk (blk_drew BK126.out)
                            have n2_ := Aside0.mk (below_drew1 HB.out)
                            clear BK123
                            clear BK126
                            clear HB
                            have BK123 := n0_
                            have BK126 := n1_
                            have HB := n2_
                            clear n0_ n1_ n2_
                            refine start_ (n := 14) (S := fun w' => True) (ds := []) #[false, false, false, false, false, false, false, false, false, false, false, false, false, false] (by kernel_rfl) rfl rfl trivial (fun hHeld => ?_); refine with_tabW spec_ciText.tab5 spec_ciText.bits5 (fun HT_ HW_ => ?_)
                            generalize w23.drew = w24 at BK123 BK126 HB hHeld ⊢
                            refine pure_ (i := 0) (N := some 19) (v := ?_) (a' := ?_) #[true, false, false, false, false, false, false, false, false, false, false, false, false, false] rfl rfl (any_of HT_.out (by kernel_rfl)) (fun _ _ _ h => h) (Or.inl ⟨by rfl, ?_⟩) ?_ ?_
                            rotate_left
                            · intro w'
                              go_simp
                              with_reducible rfl
                            rotate_left
                            · simp only [Act.put, List.setIfInBounds_toArray, List.set_cons_zero, List.set_cons_succ, i64_w, i32_w]
                              rfl
                            refine pure_ (i := 2) (N := some 21) (v := ?_) (a' := ?_) #[true, false, true, false, false, false, false, false, false, false, false, false, false, false] rfl rfl (any_of HT_.out (by kernel_rfl)) (fun _ _ _ h => h) (Or.inl ⟨by rfl, ?_⟩) ?_ ?_
                            rotate_left
                            · intro w'
                              go_simp
                              with_reducible rfl
                            rotate_left
                            · simp only [Act.put, List.setIfInBounds_toArray, List.set_cons_zero, List.set_cons_succ, i64_w, i32_w]
                              rfl
                            refine pure_ (i := 8) (N := some 27) (v := ?_) (a' := ?_) #[true, false, true, false, false, false, false, false, true, false, false, false, false, false] rfl rfl (any_of HT_.out (by kernel_rfl)) (fun _ _ _ h => h) (Or.inl ⟨by rfl, ?_⟩) ?_ ?_
                            rotate_left
                            · intro w'
                              go_simp
                              with_reducible rfl
                            rotate_left
                            · simp only [Act.put, List.setIfInBounds_toArray, List.set_cons_zero, List.set_cons_succ, i64_w, i32_w]
                              rfl
                            refine inv_at [1, 3, 4, 5, 6, 7, 9, 10, 11, 12, 13] (fun a0_ b a w' => ∃ (v128 : Value) (adz_v128 : Addr) (m5_ : Value), a = putSel a0_ b [(1, 20, v128), (3, 22, .int .i64 ((rd_T47 l0_1 x15_1).f0)), (4, 23, .int .i64 ji11), (5, 24, m5_), (6, 25, .string (rdOf ByteArray.empty y127 (ji11))), (7, 26, .string ((rdOf ByteArray.empty y127 (ji11)) ++ (⟨#[32]⟩ : ByteArray))), (9, 28, .int .i64 ((rd_T47 l0_1 x15_1).f1)), (10, 29, .string t131), (11, 30, .string (((rdOf ByteArray.empty y127 (ji11)) ++ (⟨#[32]⟩ : ByteArray)) ++ t131)), (12, 31, .string (x3_1 ++ (((rdOf ByteArray.empty y127 (ji11)) ++ (⟨#[32]⟩ : ByteArray)) ++ t131))), (13, 3, .string (x3_1 ++ (((rdOf ByteArray.empty y127 (ji11)) ++ (⟨#[32]⟩ : ByteArray)) ++ t131)))] ∧ (w'.heap[gb123]? = some (.cells #[.int .i64 a0_0, .slice (some ad125) l0_1.length c0_1, .slice A0_2 l0_2.length c0_2] 31 (0, 0))) ∧ (w'.heap[gb126]? = some (.cells #[.int .i64 ((rd_T47 l0_1 x15_1).f0), .int .i64 ((rd_T47 l0_1 x15_1).f1), .int .i64 ((rd_T47 l0_1 x15_1).f2)] 47 (0, 0))) ∧ (Below w.heap.size w w') ∧ (b 1 = true → Kd.R Kd.string 9 w' w.heap.size (fun _ => True) v128 y127) ∧ (b 1 = true → ∃ c_, (v128 : Value) = .slice (some adz_v128) y127.length c_) ∧ (b 5 = true → (m5_ : Value) = .pointer (some (adz_v128.add ((ji11)).toNat)))) HT_.out HW_.out (by kernel_rfl) (by kernel_rfl) ?_ ?_ ?_
                            · exact ⟨.bool false, ⟨0, 0, none⟩, .bool false, by simp only [putSel, Bool.false_eq_true, if_false], BK123.out, BK126.out, HB.out, fun h_ => absurd h_ (by decide), fun h_ => absurd h_ (by decide), fun h_ => absurd h_ (by decide)⟩
                            · skip
                              clear BK123 BK126 HB
                              refine steps_cons ?_ ?_
                              · rintro b a w' ⟨v128, adz_v128, m5_, ha, Q_BK123, Q_BK126, Q_HB, Q_HO129, Q_HA_HO129, Q_X5_⟩ hb_ hon hoff
                                refine ⟨_, rfl, fun K hK => ?_⟩
                                replace ha := Aside0.mk ha
                                have BK123 := Aside0.mk Q_BK123
                                have BK126 := Aside0.mk Q_BK126
                                have HB := Aside0.mk Q_HB
                                refine Kd.R_lit_step Kd.string _ 9 ?hg (N := 20) ?hd (xs := ([(⟨#[97, 110, 100]⟩ : ByteArray), (⟨#[111, 114]⟩ : ByteArray), (⟨#[120, 111, 114]⟩ : ByteArray), (⟨#[110, 111, 116]⟩ : ByteArray)] : List ByteArray)) (inner := [.string (⟨#[97, 110, 100]⟩ : ByteArray), .string (⟨#[111, 114]⟩ : ByteArray), .string (⟨#[120, 111, 114]⟩ : ByteArray), .string (⟨#[110, 111, 116]⟩ : ByteArray)]) (ok := fun _ => True) (okp := fun _ => True) ?hr ?hp (fun _ hk => hk) trivial (Below.refl _ _) (Nat.le_refl _) (by simp) ?_; (case hd => rfl); (case hg => rfl); (case hr => first | (go_simp; done) | (go_simp; rfl)); (case hp => exact (Reps.one (show Kd.M Kd.string _ _ _ (⟨#[97, 110, 100]⟩ : ByteArray) [.string (⟨#[97, 110, 100]⟩ : ByteArray)] from rfl) (Reps.one (show Kd.M Kd.string _ _ _ (⟨#[111, 114]⟩ : ByteArray) [.string (⟨#[111, 114]⟩ : ByteArray)] from rfl) (Reps.one (show Kd.M Kd.string _ _ _ (⟨#[120, 111, 114]⟩ : ByteArray) [.string (⟨#[120, 111, 114]⟩ : ByteArray)] from rfl) (Reps.one (show Kd.M Kd.string _ _ _ (⟨#[110, 111, 116]⟩ : ByteArray) [.string (⟨#[110, 111, 116]⟩ : ByteArray)] from rfl) (Reps.none _ _))))))
                                intro v128 w25 ho26 hb hg_ hnew_
                                clear hg_ hnew_
                                (first | rw [← Ny127.out] at ho26 | (simp only [Int.reduceToNat] at ho26; rw [← Ny127.out] at ho26))
                                have n0_ := Aside0.mk (Kd.R_lower ho26 (below_size (by repeat (first | (with_reducible first | exact HB.out | apply below_alloc | apply pw_below_drewN | apply below_drew1 | refine below_set ?_ GE123.out | refine below_set ?_ GE126.out) | exact HB.out))))
                                have n1_ := Aside0.mk (blk_below (g := gb123) (o := .cells #[.int .i64 a0_0, .slice (some ad125) l0_1.length c0_1, .slice A0_2 l0_2.length c0_2] 31 (0, 0)) (by (with_reducible repeat (first | refine blk_drewN ?_ _ | refine blk_drew ?_ | refine blk_alloc ?_ _)); exact BK123.out) hb)
                                have n2_ := Aside0.mk (blk_below (g := gb126) (o := .cells #[.int .i64 ((rd_T47 l0_1 x15_1).f0), .int .i64 ((rd_T47 l0_1 x15_1).f1), .int .i64 ((rd_T47 l0_1 x15_1).f2)] 47 (0, 0)) (by (with_reducible repeat (first | refine blk_drewN ?_ _ | refine blk_drew ?_ | refine blk_alloc ?_ _)); exact BK126.out) hb)
                                have n3_ := Aside0.mk (below_step (by repeat (first | (with_reducible first | exact HB.out | apply below_alloc | apply pw_below_drewN | apply below_drew1 | refine below_set ?_ GE123.out | refine below_set ?_ GE126.out) | exact HB.out)) hb)
                                clear BK123
                                clear BK126
                                clear HB
                                have HO129 := n0_
                                have BK123 := n1_
                                have BK126 := n2_
                                have HB := n3_
                                clear n0_ n1_ n2_ n3_
                                clear hb ho26
                                obtain ⟨Ao27, co27, eo27⟩ := Kd.R_slice HO129.out
                                subst eo27
                                obtain ⟨ado27, fo27, _⟩ := Kd.at_string (Kd.R_reads' HO129.out).2.2 0 (by decide) (by rw [Ny127.out]; simp)
                                cases fo27
                                refine hK.out _ _ ⟨.slice (some ado27) y127.length co27, ado27, m5_, (by rw [ha.out]; exact putSel_upk 0 hb_ rfl rfl rfl), (by (with_reducible repeat (first | refine blk_drewN ?_ _ | refine blk_drew ?_ | refine blk_alloc ?_ _)); exact BK123.out), (by (with_reducible repeat (first | refine blk_drewN ?_ _ | refine blk_drew ?_ | refine blk_alloc ?_ _)); exact BK126.out), (by repeat (first | (with_reducible first | exact HB.out | apply below_alloc | apply pw_below_drewN | apply below_drew1 | refine below_set ?_ GE123.out | refine below_set ?_ GE126.out) | exact HB.out)), fun _ => (by (with_reducible repeat (first | apply Kd.R_alloc | apply Kd.R_drewN | apply Kd.R_drew)); exact HO129.out), fun _ => ⟨_, rfl⟩, fun h0_ => absurd ((hoff 5 (by kernel_rfl)).symm.trans h0_) (by decide)⟩
                              refine steps_cons ?_ ?_
                              · rintro b a w' ⟨v128, adz_v128, m5_, ha, Q_BK123, Q_BK126, Q_HB, Q_HO129, Q_HA_HO129, Q_X5_⟩ hb_ hon hoff
                                refine ⟨_, rfl, fun K hK => ?_⟩
                                have e21 : a.tmps[21]? = some (.pointer (some ⟨gb126, 0, none⟩)) := by rw [ha]; exact (putSel_off rfl).trans rfl
                                replace ha := Aside0.mk ha
                                have BK123 := Aside0.mk Q_BK123
                                have BK126 := Aside0.mk Q_BK126
                                have HB := Aside0.mk Q_HB
                                have hc0_ : w'.cell? ⟨gb126, 0, none⟩ = some (.int .i64 ((rd_T47 l0_1 x15_1).f0)) := (blk_cell BK126.out 0).trans rfl
                                have hc1_ : w'.cell? ⟨gb126, 1, none⟩ = some (.int .i64 ((rd_T47 l0_1 x15_1).f1)) := (blk_cell BK126.out 1).trans rfl
                                have hc2_ : w'.cell? ⟨gb126, 2, none⟩ = some (.int .i64 ((rd_T47 l0_1 x15_1).f2)) := (blk_cell BK126.out 2).trans rfl
                                refine value_ (w1 := w') (v := .int .i64 ((rd_T47 l0_1 x15_1).f0)) (by rfl) rfl ?_ ?_
                                · go_simp
                                  (try simp only [i64_w])
                                  try rfl
                                refine hK.out _ _ ⟨v128, adz_v128, m5_, (by rw [ha.out]; exact putSel_upk 1 hb_ rfl rfl rfl), Q_BK123, Q_BK126, Q_HB, Q_HO129, Q_HA_HO129, fun h0_ => absurd ((hoff 5 (by kernel_rfl)).symm.trans h0_) (by decide)⟩
                              refine steps_cons ?_ ?_
                              · rintro b a w' ⟨v128, adz_v128, m5_, ha, Q_BK123, Q_BK126, Q_HB, Q_HO129, Q_HA_HO129, Q_X5_⟩ hb_ hon hoff
                                refine ⟨_, rfl, fun K hK => ?_⟩
                                have e22 : a.tmps[22]? = some (.int .i64 ((rd_T47 l0_1 x15_1).f0)) := by rw [ha]; exact putSel_on (e := (3, 22, .int .i64 ((rd_T47 l0_1 x15_1).f0))) 1 rfl rfl (hon 3 (by kernel_rfl)) rfl
                                replace ha := Aside0.mk ha
                                have BK123 := Aside0.mk Q_BK123
                                have BK126 := Aside0.mk Q_BK126
                                have HB := Aside0.mk Q_HB
                                refine value_ (w1 := w') (v := .int .i64 ji11) (by rfl) rfl ?_ ?_
                                · go_simp
                                  (try simp only [i64_w])
                                  try rfl
                                refine hK.out _ _ ⟨v128, adz_v128, m5_, (by rw [ha.out]; exact putSel_upk 2 hb_ rfl rfl rfl), Q_BK123, Q_BK126, Q_HB, Q_HO129, Q_HA_HO129, fun h0_ => absurd ((hoff 5 (by kernel_rfl)).symm.trans h0_) (by decide)⟩
                              refine steps_cons ?_ ?_
                              · rintro b a w' ⟨v128, adz_v128, m5_, ha, Q_BK123, Q_BK126, Q_HB, Q_HO129, Q_HA_HO129, Q_X5_⟩ hb_ hon hoff
                                refine ⟨_, rfl, fun K hK => ?_⟩
                                have e20 : a.tmps[20]? = some (v128) := by rw [ha]; exact putSel_on (e := (1, 20, v128)) 0 rfl rfl (hon 1 (by kernel_rfl)) rfl
                                have e23 : a.tmps[23]? = some (.int .i64 ji11) := by rw [ha]; exact putSel_on (e := (4, 23, .int .i64 ji11)) 2 rfl rfl (hon 4 (by kernel_rfl)) rfl
                                replace ha := Aside0.mk ha
                                have BK123 := Aside0.mk Q_BK123
                                have BK126 := Aside0.mk Q_BK126
                                have HB := Aside0.mk Q_HB
                                have HO129 := Aside0.mk (Q_HO129 (hon 1 (by kernel_rfl)))
                                have HA_HO129 := Aside0.mk (Q_HA_HO129 (hon 1 (by kernel_rfl)))
                                obtain ⟨c_, hv_⟩ := HA_HO129.out
                                rw [hv_] at e20
                                refine value_ (w1 := w') (v := .pointer (some (adz_v128.add ((ji11)).toNat))) (by rfl) rfl ?_ ?_
                                · go_simp
                                  (try simp only [i64_w])
                                  try rfl
                                refine hK.out _ _ ⟨v128, adz_v128, (.pointer (some (adz_v128.add ((ji11)).toNat))), (by rw [ha.out]; exact putSel_upk 3 hb_ rfl rfl rfl), Q_BK123, Q_BK126, Q_HB, Q_HO129, Q_HA_HO129, fun _ => rfl⟩
                              refine steps_cons ?_ ?_
                              · rintro b a w' ⟨v128, adz_v128, m5_, ha, Q_BK123, Q_BK126, Q_HB, Q_HO129, Q_HA_HO129, Q_X5_⟩ hb_ hon hoff
                                refine ⟨_, rfl, fun K hK => ?_⟩
                                have e24 : a.tmps[24]? = some (m5_) := by rw [ha]; exact putSel_on (e := (5, 24, m5_)) 3 rfl rfl (hon 5 (by kernel_rfl)) rfl
                                rw [Q_X5_ (hon 5 (by kernel_rfl))] at e24
                                replace ha := Aside0.mk ha
                                have BK123 := Aside0.mk Q_BK123
                                have BK126 := Aside0.mk Q_BK126
                                have HB := Aside0.mk Q_HB
                                have HO129 := Aside0.mk (Q_HO129 (hon 1 (by kernel_rfl)))
                                have HA_HO129 := Aside0.mk (Q_HA_HO129 (hon 1 (by kernel_rfl)))
                                obtain ⟨c_, hv_⟩ := HA_HO129.out
                                have hF_ := HO129.out
                                rw [hv_] at hF_
                                obtain ⟨ad_, ea_, hx_⟩ := Kd.at_string (Kd.R_reads' hF_).2.2 (ji11) (of_eq_true pi130) (of_eq_true qi130)
                                cases ea_
                                refine value_ (w1 := w') (v := .string (rdOf ByteArray.empty y127 (ji11))) (by rfl) rfl ?_ ?_
                                · go_simp
                                  (try simp only [i64_w])
                                  try rfl
                                refine hK.out _ _ ⟨v128, adz_v128, m5_, (by rw [ha.out]; exact putSel_upk 4 hb_ rfl rfl rfl), Q_BK123, Q_BK126, Q_HB, Q_HO129, Q_HA_HO129, Q_X5_⟩
                              refine steps_cons ?_ ?_
                              · rintro b a w' ⟨v128, adz_v128, m5_, ha, Q_BK123, Q_BK126, Q_HB, Q_HO129, Q_HA_HO129, Q_X5_⟩ hb_ hon hoff
                                refine ⟨_, rfl, fun K hK => ?_⟩
                                have e25 : a.tmps[25]? = some (.string (rdOf ByteArray.empty y127 (ji11))) := by rw [ha]; exact putSel_on (e := (6, 25, .string (rdOf ByteArray.empty y127 (ji11)))) 4 rfl rfl (hon 6 (by kernel_rfl)) rfl
                                replace ha := Aside0.mk ha
                                have BK123 := Aside0.mk Q_BK123
                                have BK126 := Aside0.mk Q_BK126
                                have HB := Aside0.mk Q_HB
                                have HO129 := Aside0.mk (Q_HO129 (hon 1 (by kernel_rfl)))
                                have HA_HO129 := Aside0.mk (Q_HA_HO129 (hon 1 (by kernel_rfl)))
                                refine value_ (w1 := w') (v := .string ((rdOf ByteArray.empty y127 (ji11)) ++ (⟨#[32]⟩ : ByteArray))) (by rfl) rfl ?_ ?_
                                · go_simp
                                  (try simp only [i64_w])
                                  try rfl
                                refine hK.out _ _ ⟨v128, adz_v128, m5_, (by rw [ha.out]; exact putSel_upk 5 hb_ rfl rfl rfl), Q_BK123, Q_BK126, Q_HB, Q_HO129, Q_HA_HO129, Q_X5_⟩
                              refine steps_cons ?_ ?_
                              · rintro b a w' ⟨v128, adz_v128, m5_, ha, Q_BK123, Q_BK126, Q_HB, Q_HO129, Q_HA_HO129, Q_X5_⟩ hb_ hon hoff
                                refine ⟨_, rfl, fun K hK => ?_⟩
                                have e27 : a.tmps[27]? = some (.pointer (some ⟨gb126, 1, none⟩)) := by rw [ha]; exact (putSel_off rfl).trans rfl
                                replace ha := Aside0.mk ha
                                have BK123 := Aside0.mk Q_BK123
                                have BK126 := Aside0.mk Q_BK126
                                have HB := Aside0.mk Q_HB
                                have hc0_ : w'.cell? ⟨gb126, 0, none⟩ = some (.int .i64 ((rd_T47 l0_1 x15_1).f0)) := (blk_cell BK126.out 0).trans rfl
                                have hc1_ : w'.cell? ⟨gb126, 1, none⟩ = some (.int .i64 ((rd_T47 l0_1 x15_1).f1)) := (blk_cell BK126.out 1).trans rfl
                                have hc2_ : w'.cell? ⟨gb126, 2, none⟩ = some (.int .i64 ((rd_T47 l0_1 x15_1).f2)) := (blk_cell BK126.out 2).trans rfl
                                refine value_ (w1 := w') (v := .int .i64 ((rd_T47 l0_1 x15_1).f1)) (by rfl) rfl ?_ ?_
                                · go_simp
                                  (try simp only [i64_w])
                                  try rfl
                                refine hK.out _ _ ⟨v128, adz_v128, m5_, (by rw [ha.out]; exact putSel_upk 6 hb_ rfl rfl rfl), Q_BK123, Q_BK126, Q_HB, Q_HO129, Q_HA_HO129, Q_X5_⟩
                              refine steps_cons ?_ ?_
                              · rintro b a w' ⟨v128, adz_v128, m5_, ha, Q_BK123, Q_BK126, Q_HB, Q_HO129, Q_HA_HO129, Q_X5_⟩ hb_ hon hoff
                                refine ⟨_, rfl, fun K hK => ?_⟩
                                have e28 : a.tmps[28]? = some (.int .i64 ((rd_T47 l0_1 x15_1).f1)) := by rw [ha]; exact putSel_on (e := (9, 28, .int .i64 ((rd_T47 l0_1 x15_1).f1))) 6 rfl rfl (hon 9 (by kernel_rfl)) rfl
                                replace ha := Aside0.mk ha
                                have BK123 := Aside0.mk Q_BK123
                                have BK126 := Aside0.mk Q_BK126
                                have HB := Aside0.mk Q_HB
                                refine goes_ Tryd.func39 (by kernel_rfl) rfl #[.int .i64 ((rd_T47 l0_1 x15_1).f1)] (by rfl) rfl rfl (by first | (simp only [List.map_toArray, List.map_cons, List.map_nil, Act.eval, Array.getD_eq_getD_getElem?, Option.getD_some, e28]; done) | (simp only [List.map_toArray, List.map_cons, List.map_nil, Act.eval, Array.getD_eq_getD_getElem?, Option.getD_some, e28]; rfl)) ?_
                                with_reducible refine (spec_l1Num.calls k1 ((rd_T47 l0_1 x15_1).f1) t131 _ A15.out).mono ?_
                                rintro e w25 ⟨rfl, hb⟩
                                refine ⟨_, rfl, ?_⟩
                                have n0_ := Aside0.mk (blk_below (g := gb123) (o := .cells #[.int .i64 a0_0, .slice (some ad125) l0_1.length c0_1, .slice A0_2 l0_2.length c0_2] 31 (0, 0)) (by (with_reducible repeat (first | refine blk_drewN ?_ _ | refine blk_drew ?_ | refine blk_alloc ?_ _)); exact BK123.out) hb)
                                have n1_ := Aside0.mk (blk_below (g := gb126) (o := .cells #[.int .i64 ((rd_T47 l0_1 x15_1).f0), .int .i64 ((rd_T47 l0_1 x15_1).f1), .int .i64 ((rd_T47 l0_1 x15_1).f2)] 47 (0, 0)) (by (with_reducible repeat (first | refine blk_drewN ?_ _ | refine blk_drew ?_ | refine blk_alloc ?_ _)); exact BK126.out) hb)
                                have n2_ := Aside0.mk (below_step (by repeat (first | (with_reducible first | exact HB.out | apply below_alloc | apply pw_below_drewN | apply below_drew1 | refine below_set ?_ GE123.out | refine below_set ?_ GE126.out) | exact HB.out)) hb)
                                have z_HO129 := fun (h0_ : b 1 = true) => (show Kd.R Kd.string 9 w25 w.heap.size (fun _ => True) v128 y127 from by first | exact (Kd.R_below (by (with_reducible repeat (first | apply Kd.R_alloc | apply Kd.R_drewN | apply Kd.R_drew)); exact (Q_HO129 h0_)) hb) | exact Kd.R_mono (Kd.R_below (by (with_reducible repeat (first | apply Kd.R_alloc | apply Kd.R_drewN | apply Kd.R_drew)); exact (Q_HO129 h0_)) hb) (fun _ h_ => by first | trivial | exact h_ | exact h_.1))
                                clear BK123
                                clear BK126
                                clear HB
                                have BK123 := n0_
                                have BK126 := n1_
                                have HB := n2_
                                clear n0_ n1_ n2_
                                (try clear hb)
                                (try clear hb2)
                                (try clear hk)
                                (try clear hi)
                                refine hK.out _ _ ⟨v128, adz_v128, m5_, (by rw [ha.out]; exact putSel_upk 7 hb_ rfl rfl rfl), (by (with_reducible repeat (first | refine blk_drewN ?_ _ | refine blk_drew ?_ | refine blk_alloc ?_ _)); exact BK123.out), (by (with_reducible repeat (first | refine blk_drewN ?_ _ | refine blk_drew ?_ | refine blk_alloc ?_ _)); exact BK126.out), (by repeat (first | (with_reducible first | exact HB.out | apply below_alloc | apply pw_below_drewN | apply below_drew1 | refine below_set ?_ GE123.out | refine below_set ?_ GE126.out) | exact HB.out)), z_HO129, Q_HA_HO129, Q_X5_⟩
                              refine steps_cons ?_ ?_
                              · rintro b a w' ⟨v128, adz_v128, m5_, ha, Q_BK123, Q_BK126, Q_HB, Q_HO129, Q_HA_HO129, Q_X5_⟩ hb_ hon hoff
                                refine ⟨_, rfl, fun K hK => ?_⟩
                                have e26 : a.tmps[26]? = some (.string ((rdOf ByteArray.empty y127 (ji11)) ++ (⟨#[32]⟩ : ByteArray))) := by rw [ha]; exact putSel_on (e := (7, 26, .string ((rdOf ByteArray.empty y127 (ji11)) ++ (⟨#[32]⟩ : ByteArray)))) 5 rfl rfl (hon 7 (by kernel_rfl)) rfl
                                have e29 : a.tmps[29]? = some (.string t131) := by rw [ha]; exact putSel_on (e := (10, 29, .string t131)) 7 rfl rfl (hon 10 (by kernel_rfl)) rfl
                                replace ha := Aside0.mk ha
                                have BK123 := Aside0.mk Q_BK123
                                have BK126 := Aside0.mk Q_BK126
                                have HB := Aside0.mk Q_HB
                                have HO129 := Aside0.mk (Q_HO129 (hon 1 (by kernel_rfl)))
                                have HA_HO129 := Aside0.mk (Q_HA_HO129 (hon 1 (by kernel_rfl)))
                                refine value_ (w1 := w') (v := .string (((rdOf ByteArray.empty y127 (ji11)) ++ (⟨#[32]⟩ : ByteArray)) ++ t131)) (by rfl) rfl ?_ ?_
                                · go_simp
                                  (try simp only [i64_w])
                                  try rfl
                                refine hK.out _ _ ⟨v128, adz_v128, m5_, (by rw [ha.out]; exact putSel_upk 8 hb_ rfl rfl rfl), Q_BK123, Q_BK126, Q_HB, Q_HO129, Q_HA_HO129, Q_X5_⟩
                              refine steps_cons ?_ ?_
                              · rintro b a w' ⟨v128, adz_v128, m5_, ha, Q_BK123, Q_BK126, Q_HB, Q_HO129, Q_HA_HO129, Q_X5_⟩ hb_ hon hoff
                                refine ⟨_, rfl, fun K hK => ?_⟩
                                have e19 : a.tmps[19]? = some (.string x3_1) := by rw [ha]; exact (putSel_off rfl).trans rfl
                                have e30 : a.tmps[30]? = some (.string (((rdOf ByteArray.empty y127 (ji11)) ++ (⟨#[32]⟩ : ByteArray)) ++ t131)) := by rw [ha]; exact putSel_on (e := (11, 30, .string (((rdOf ByteArray.empty y127 (ji11)) ++ (⟨#[32]⟩ : ByteArray)) ++ t131))) 8 rfl rfl (hon 11 (by kernel_rfl)) rfl
                                replace ha := Aside0.mk ha
                                have BK123 := Aside0.mk Q_BK123
                                have BK126 := Aside0.mk Q_BK126
                                have HB := Aside0.mk Q_HB
                                have HO129 := Aside0.mk (Q_HO129 (hon 1 (by kernel_rfl)))
                                have HA_HO129 := Aside0.mk (Q_HA_HO129 (hon 1 (by kernel_rfl)))
                                refine value_ (w1 := w') (v := .string (x3_1 ++ (((rdOf ByteArray.empty y127 (ji11)) ++ (⟨#[32]⟩ : ByteArray)) ++ t131))) (by rfl) rfl ?_ ?_
                                · go_simp
                                  (try simp only [i64_w])
                                  try rfl
                                refine hK.out _ _ ⟨v128, adz_v128, m5_, (by rw [ha.out]; exact putSel_upk 9 hb_ rfl rfl rfl), Q_BK123, Q_BK126, Q_HB, Q_HO129, Q_HA_HO129, Q_X5_⟩
                              refine steps_cons ?_ ?_
                              · rintro b a w' ⟨v128, adz_v128, m5_, ha, Q_BK123, Q_BK126, Q_HB, Q_HO129, Q_HA_HO129, Q_X5_⟩ hb_ hon hoff
                                refine ⟨_, rfl, fun K hK => ?_⟩
                                have e31 : a.tmps[31]? = some (.string (x3_1 ++ (((rdOf ByteArray.empty y127 (ji11)) ++ (⟨#[32]⟩ : ByteArray)) ++ t131))) := by rw [ha]; exact putSel_on (e := (12, 31, .string (x3_1 ++ (((rdOf ByteArray.empty y127 (ji11)) ++ (⟨#[32]⟩ : ByteArray)) ++ t131)))) 9 rfl rfl (hon 12 (by kernel_rfl)) rfl
                                replace ha := Aside0.mk ha
                                have BK123 := Aside0.mk Q_BK123
                                have BK126 := Aside0.mk Q_BK126
                                have HB := Aside0.mk Q_HB
                                have HO129 := Aside0.mk (Q_HO129 (hon 1 (by kernel_rfl)))
                                have HA_HO129 := Aside0.mk (Q_HA_HO129 (hon 1 (by kernel_rfl)))
                                refine value_ (w1 := w') (v := .string (x3_1 ++ (((rdOf ByteArray.empty y127 (ji11)) ++ (⟨#[32]⟩ : ByteArray)) ++ t131))) (by rfl) rfl ?_ ?_
                                · go_simp
                                  (try simp only [i64_w])
                                  try rfl
                                refine hK.out _ _ ⟨v128, adz_v128, m5_, (by rw [ha.out]; exact putSel_upk 10 hb_ rfl rfl rfl), Q_BK123, Q_BK126, Q_HB, Q_HO129, Q_HA_HO129, Q_X5_⟩
                              exact steps_nil
                            rintro b a w29 hall ⟨v128, adz_v128, m5_, ha, Q_BK123, Q_BK126, Q_HB, Q_HO129, Q_HA_HO129, Q_X5_⟩
                            clear BK123 BK126 HB
                            have hb1_ := hall 1 (by kernel_rfl)
                            have hb3_ := hall 3 (by kernel_rfl)
                            have hb4_ := hall 4 (by kernel_rfl)
                            have hb5_ := hall 5 (by kernel_rfl)
                            have hb6_ := hall 6 (by kernel_rfl)
                            have hb7_ := hall 7 (by kernel_rfl)
                            have hb9_ := hall 9 (by kernel_rfl)
                            have hb10_ := hall 10 (by kernel_rfl)
                            have hb11_ := hall 11 (by kernel_rfl)
                            have hb12_ := hall 12 (by kernel_rfl)
                            have hb13_ := hall 13 (by kernel_rfl)
                            subst ha
                            obtain rfl := Q_X5_ hb5_
                            simp only [putSel, hb1_, hb3_, hb4_, hb5_, hb6_, hb7_, hb9_, hb10_, hb11_, hb12_, hb13_, if_true, Act.put, List.setIfInBounds_toArray, List.set_cons_zero, List.set_cons_succ]
                            have BK123 := Aside0.mk Q_BK123
                            clear Q_BK123
                            have BK126 := Aside0.mk Q_BK126
                            clear Q_BK126
                            have HB := Aside0.mk Q_HB
                            clear Q_HB
                            have HO129 := Aside0.mk (Q_HO129 hb1_)
                            clear Q_HO129
                            have HA_HO129 := Aside0.mk (Q_HA_HO129 hb1_)
                            clear Q_HA_HO129
                            clear hall hb1_ hb3_ hb4_ hb5_ hb6_ hb7_ hb9_ hb10_ hb11_ hb12_ hb13_
                            obtain ⟨co30, eo30⟩ := HA_HO129.out
                            clear HA_HO129
                            subst eo30
                            have hcz31_0 : w29.cell? ⟨gb126, 0, none⟩ = some (.int .i64 ((rd_T47 l0_1 x15_1).f0)) := (blk_cell BK126.out 0).trans rfl
                            have hcz31_1 : w29.cell? ⟨gb126, 1, none⟩ = some (.int .i64 ((rd_T47 l0_1 x15_1).f1)) := (blk_cell BK126.out 1).trans rfl
                            have hcz31_2 : w29.cell? ⟨gb126, 2, none⟩ = some (.int .i64 ((rd_T47 l0_1 x15_1).f2)) := (blk_cell BK126.out 2).trans rfl
                            have hfz31_0 := blk_frozen BK126.out 0
                            have hfz31_1 := blk_frozen BK126.out 1
                            have hfz31_2 := blk_frozen BK126.out 2
                            try go_wp2
                            go_roundg k1
                            case measure => have := HK1.out; omega
                            case rel => exact ⟨((x3_1 ++ (((rdOf ByteArray.empty y127 (ji11)) ++ (⟨#[32]⟩ : ByteArray)) ++ t131)) ++ (⟨#[10]⟩ : ByteArray)), (wrap64 (x15_1 + 1)), (by first | rfl | (simp; done) | (simp only [← hji11] <;> (first | rfl | simp)) | (simp [*]; done)), (by first | rfl | (simp; done) | (simp [*]; done)), H', ⟨by have := HK1.out; omega⟩, ⟨by (with_reducible repeat (first | refine blk_drewN ?_ _ | refine blk_drew ?_ | refine blk_alloc ?_ _)); exact BK123.out⟩, ⟨by repeat (first | (with_reducible first | exact HB.out | apply below_alloc | apply pw_below_drewN | apply below_drew1 | refine below_set ?_ GE123.out | refine below_set ?_ GE126.out) | exact HB.out)⟩⟩
                          · rw [if_neg c19] at H
                            exact absurd H (by simp)
                        · rw [if_neg c18] at H
                          have c18b0 : (((rd_T47 l0_1 x15_1).f0) == 4) = false := beq_eq_false_iff_ne.mpr c18
                          have c18b1 : (((rd_T47 l0_1 x15_1).f0) != 4) = true := bne_iff_ne.mpr c18
                          replace H := Option.bind_eq_some_iff.mp H
                          obtain ⟨t132, A320, H⟩ := H
                          replace H : (if 1 + t132.size ≤ 9223372036854775807 then (if (x3_1 ++ (((rdOf ByteArray.empty y127 (ji11)) ++ (⟨#[32]⟩ : ByteArray)) ++ t131)).size + ((⟨#[32]⟩ : ByteArray) ++ t132).size ≤ 9223372036854775807 then (if ((x3_1 ++ (((rdOf ByteArray.empty y127 (ji11)) ++ (⟨#[32]⟩ : ByteArray)) ++ t131)) ++ ((⟨#[32]⟩ : ByteArray) ++ t132)).size + 1 ≤ 9223372036854775807 then (spec_ciText.l0 k1 (((x3_1 ++ (((rdOf ByteArray.empty y127 (ji11)) ++ (⟨#[32]⟩ : ByteArray)) ++ t131)) ++ ((⟨#[32]⟩ : ByteArray) ++ t132)) ++ (⟨#[10]⟩ : ByteArray)) l0_1 (l0_1.length : Int) (wrap64 (x15_1 + 1)) a0_0 l0_1 l0_2) else (none)) else (none)) else (none)) = some r := H
                          have A32 := Aside0.mk A320
                          clear A320
                          by_cases c33 : 1 + t132.size ≤ 9223372036854775807
                          · rw [if_pos c33] at H
                            have c33b0 := eq_true c33
                            have c33b1 : decide (1 + t132.size ≤ 9223372036854775807) = true := decide_eq_true c33
                            try have c33b2 : (9223372036854775807 < 1 + t132.size) = False := eq_false (Nat.not_lt.2 c33)
                            by_cases c34 : (x3_1 ++ (((rdOf ByteArray.empty y127 (ji11)) ++ (⟨#[32]⟩ : ByteArray)) ++ t131)).size + ((⟨#[32]⟩ : ByteArray) ++ t132).size ≤ 9223372036854775807
                            · rw [if_pos c34] at H
                              have c34b0 := eq_true c34
                              have c34b1 : decide ((x3_1 ++ (((rdOf ByteArray.empty y127 (ji11)) ++ (⟨#[32]⟩ : ByteArray)) ++ t131)).size + ((⟨#[32]⟩ : ByteArray) ++ t132).size ≤ 9223372036854775807) = true := decide_eq_true c34
                              (try have c34b3 : (x3_1.size + ((rdOf ByteArray.empty y127 (ji11)).size + 1 + t131.size) + (1 + t132.size) ≤ 9223372036854775807) = True := eq_true (by have h_ := c34; (repeat rw [ByteArray.size_append] at h_); exact h_))
                              (try have c34b4 : (9223372036854775807 < x3_1.size + ((rdOf ByteArray.empty y127 (ji11)).size + 1 + t131.size) + (1 + t132.size)) = False := eq_false (by have h_ := c34; (repeat rw [ByteArray.size_append] at h_); exact Nat.not_lt.2 h_))
                              try have c34b2 : (9223372036854775807 < (x3_1 ++ (((rdOf ByteArray.empty y127 (ji11)) ++ (⟨#[32]⟩ : ByteArray)) ++ t131)).size + ((⟨#[32]⟩ : ByteArray) ++ t132).size) = False := eq_false (Nat.not_lt.2 c34)
                              by_cases c35 : ((x3_1 ++ (((rdOf ByteArray.empty y127 (ji11)) ++ (⟨#[32]⟩ : ByteArray)) ++ t131)) ++ ((⟨#[32]⟩ : ByteArray) ++ t132)).size + 1 ≤ 9223372036854775807
                              · rw [if_pos c35] at H
                                have c35b0 := eq_true c35
                                have c35b1 : decide (((x3_1 ++ (((rdOf ByteArray.empty y127 (ji11)) ++ (⟨#[32]⟩ : ByteArray)) ++ t131)) ++ ((⟨#[32]⟩ : ByteArray) ++ t132)).size + 1 ≤ 9223372036854775807) = true := decide_eq_true c35
                                (try have c35b3 : (x3_1.size + ((rdOf ByteArray.empty y127 (ji11)).size + 1 + t131.size) + (1 + t132.size) + 1 ≤ 9223372036854775807) = True := eq_true (by have h_ := c35; (repeat rw [ByteArray.size_append] at h_); exact h_))
                                (try have c35b4 : (9223372036854775807 < x3_1.size + ((rdOf ByteArray.empty y127 (ji11)).size + 1 + t131.size) + (1 + t132.size) + 1) = False := eq_false (by have h_ := c35; (repeat rw [ByteArray.size_append] at h_); exact Nat.not_lt.2 h_))
                                try have c35b2 : (9223372036854775807 < ((x3_1 ++ (((rdOf ByteArray.empty y127 (ji11)) ++ (⟨#[32]⟩ : ByteArray)) ++ t131)) ++ ((⟨#[32]⟩ : ByteArray) ++ t132)).size + 1) = False := eq_false (Nat.not_lt.2 c35)
                                have H' := Aside0.mk H
                                clear H
                                have p125 : 0 ≤ (x15_1 : Int) := of_decide_eq_true (by first | (with_reducible assumption) | assumption)
                                have q125 : x15_1 < (l0_1.length : Int) := of_decide_eq_true (by first | (with_reducible assumption) | assumption)
                                obtain ⟨ad125, e125, hx125_0, hx125_1, hx125_2⟩ := at_T47 HR0_1.out x15_1 p125 q125
                                cases e125
                                (try (replace hx125_0 := (HB.out.cell (World.block_lt_of_cell? w _ hx125_0)).trans hx125_0))
                                (try (replace hx125_1 := (HB.out.cell (World.block_lt_of_cell? w _ hx125_1)).trans hx125_1))
                                (try (replace hx125_2 := (HB.out.cell (World.block_lt_of_cell? w _ hx125_2)).trans hx125_2))
                                replace p125 := eq_true p125
                                replace q125 := eq_true q125
                                try go_wp2_with (first | ((with_reducible refine gate_dst (N := 5) rfl ?_); refine box_event ?hg (N := 5) ?hd (cs := #[.int .i64 0, .int .i64 0, .int .i64 0]) (t := 47) ?hr ?_; (case hd => rfl); (case hg => rfl); (case hr => first | (go_simp; done) | (go_simp; rfl)); intro gb126 hg w36 hbox hb; have n0_ := Aside0.mk (blk_below (g := gb123) (o := .cells #[.int .i64 a0_0, .slice (some ad125) l0_1.length c0_1, .slice A0_2 l0_2.length c0_2] 31 (0, 0)) (by (with_reducible repeat (first | refine blk_drewN ?_ _ | refine blk_drew ?_ | refine blk_alloc ?_ _)); exact BK123.out) hb); have n1_ := Aside0.mk (below_step (by repeat (first | (with_reducible first | exact HB.out | apply below_alloc | apply pw_below_drewN | apply below_drew1 | refine below_set ?_ GE123.out) | exact HB.out)) hb); have n2_ := Aside0.mk (hbox); have n3_ := Aside0.mk ((by rw [hg]; exact (below_size (by repeat (first | (with_reducible first | exact HB.out | apply below_alloc | apply pw_below_drewN | apply below_drew1 | refine below_set ?_ GE123.out) | exact HB.out))) : w.heap.size ≤ gb126)); have n4_ := Aside0.mk ((by rw [hg]; exact (below_size (by repeat (first | (with_reducible first | exact HB.out | apply below_alloc | apply pw_below_drewN | apply below_drew1 | refine below_set ?_ GE123.out) | exact HB.out))) : w.heap.size ≤ gb126)); have n5_ := Aside0.mk ((by rw [hg]; exact Nat.ne_of_lt (blk_lt (g := gb123) (o := .cells #[.int .i64 a0_0, .slice (some ad125) l0_1.length c0_1, .slice A0_2 l0_2.length c0_2] 31 (0, 0)) (by (with_reducible repeat (first | refine blk_drewN ?_ _ | refine blk_drew ?_ | refine blk_alloc ?_ _)); exact BK123.out)) : gb123 ≠ gb126)); have n6_ := Aside0.mk ((by rw [hg]; exact Nat.ne_of_gt (blk_lt (g := gb123) (o := .cells #[.int .i64 a0_0, .slice (some ad125) l0_1.length c0_1, .slice A0_2 l0_2.length c0_2] 31 (0, 0)) (by (with_reducible repeat (first | refine blk_drewN ?_ _ | refine blk_drew ?_ | refine blk_alloc ?_ _)); exact BK123.out)) : gb126 ≠ gb123)); clear BK123; clear HB; have BK123 := n0_; have HB := n1_; have BK126 := n2_; have GW126 := n3_; have GE126 := n4_; have NB123_126 := n5_; have NB126_123 := n6_; clear n0_ n1_ n2_ n3_ n4_ n5_ n6_; clear hb hbox hg; have hnb37 := NB126_123.out; have hnc37 := NB123_126.out; have hcz38_0 : w36.cell? ⟨gb126, 0, none⟩ = some (.int .i64 0) := (blk_cell BK126.out 0).trans rfl; have hcz38_1 : w36.cell? ⟨gb126, 1, none⟩ = some (.int .i64 0) := (blk_cell BK126.out 1).trans rfl; have hcz38_2 : w36.cell? ⟨gb126, 2, none⟩ = some (.int .i64 0) := (blk_cell BK126.out 2).trans rfl; have hfz38_0 := blk_frozen BK126.out 0; have hfz38_1 := blk_frozen BK126.out 1; have hfz38_2 := blk_frozen BK126.out 2))
                                have pi130 : (0 ≤ ((ji11) : Int)) = True := eq_true (of_decide_eq_true (by first | (with_reducible assumption) | assumption))
                                have qi130 : ((ji11) < (y127.length : Int)) = True := eq_true (of_decide_eq_true (by first | (with_reducible assumption) | assumption))
                                have n0_ : Aside0 ((((w36.setCell ⟨gb126, 0, none⟩ (.int .i64 ((rd_T47 l0_1 x15_1).f0))).setCell ⟨gb126, 1, none⟩ (.int .i64 ((rd_T47 l0_1 x15_1).f1))).setCell ⟨gb126, 2, none⟩ (.int .i64 ((rd_T47 l0_1 x15_1).f2))).heap[gb123]? = some (.cells #[.int .i64 a0_0, .slice (some ad125) l0_1.length c0_1, .slice A0_2 l0_2.length c0_2] 31 (0, 0))) := ⟨by (with_reducible repeat (first | refine blk_drewN ?_ _ | refine blk_drew ?_ | refine blk_alloc ?_ _)); refine blk_far ?_ NB123_126.out _; (with_reducible repeat (first | refine blk_drewN ?_ _ | refine blk_drew ?_ | refine blk_alloc ?_ _)); refine blk_far ?_ NB123_126.out _; (with_reducible repeat (first | refine blk_drewN ?_ _ | refine blk_drew ?_ | refine blk_alloc ?_ _)); refine blk_far ?_ NB123_126.out _; (with_reducible repeat (first | refine blk_drewN ?_ _ | refine blk_drew ?_ | refine blk_alloc ?_ _)); exact BK123.out⟩
                                have n1_ : Aside0 ((((w36.setCell ⟨gb126, 0, none⟩ (.int .i64 ((rd_T47 l0_1 x15_1).f0))).setCell ⟨gb126, 1, none⟩ (.int .i64 ((rd_T47 l0_1 x15_1).f1))).setCell ⟨gb126, 2, none⟩ (.int .i64 ((rd_T47 l0_1 x15_1).f2))).heap[gb126]? = some (.cells #[.int .i64 ((rd_T47 l0_1 x15_1).f0), .int .i64 ((rd_T47 l0_1 x15_1).f1), .int .i64 ((rd_T47 l0_1 x15_1).f2)] 47 (0, 0))) := ⟨by (with_reducible repeat (first | refine blk_drewN ?_ _ | refine blk_drew ?_ | refine blk_alloc ?_ _)); refine blk_put (cs := #[.int .i64 ((rd_T47 l0_1 x15_1).f0), .int .i64 ((rd_T47 l0_1 x15_1).f1), .int .i64 0]) ?_ 2 _ rfl; (with_reducible repeat (first | refine blk_drewN ?_ _ | refine blk_drew ?_ | refine blk_alloc ?_ _)); refine blk_put (cs := #[.int .i64 ((rd_T47 l0_1 x15_1).f0), .int .i64 0, .int .i64 0]) ?_ 1 _ rfl; (with_reducible repeat (first | refine blk_drewN ?_ _ | refine blk_drew ?_ | refine blk_alloc ?_ _)); refine blk_put (cs := #[.int .i64 0, .int .i64 0, .int .i64 0]) ?_ 0 _ rfl; (with_reducible repeat (first | refine blk_drewN ?_ _ | refine blk_drew ?_ | refine blk_alloc ?_ _)); exact BK126.out⟩
                                have n2_ : Aside0 (Below w.heap.size w (((w36.setCell ⟨gb126, 0, none⟩ (.int .i64 ((rd_T47 l0_1 x15_1).f0))).setCell ⟨gb126, 1, none⟩ (.int .i64 ((rd_T47 l0_1 x15_1).f1))).setCell ⟨gb126, 2, none⟩ (.int .i64 ((rd_T47 l0_1 x15_1).f2)))) := ⟨by repeat (first | (with_reducible first | exact HB.out | apply below_alloc | apply pw_below_drewN | apply below_drew1 | refine below_set ?_ GE123.out | refine below_set ?_ GE126.out) | exact HB.out)⟩
                                (try clear BK123)
                                (try clear BK126)
                                (try clear HB)
                                generalize (((w36.setCell ⟨gb126, 0, none⟩ (.int .i64 ((rd_T47 l0_1 x15_1).f0))).setCell ⟨gb126, 1, none⟩ (.int .i64 ((rd_T47 l0_1 x15_1).f1))).setCell ⟨gb126, 2, none⟩ (.int .i64 ((rd_T47 l0_1 x15_1).f2))) = w39 at n0_ n1_ n2_ ⊢
                                have BK123 := n0_
                                have BK126 := n1_
                                have HB := n2_
                                clear n0_ n1_ n2_
                                have n0_ := Aside0.mk (blk_drew BK123.out)
                                have n1_ := Aside0.mk (blk_drew BK126.out)
                                have n2_ := Aside0.mk (below_drew1 HB.out)
                                clear BK123
                                clear BK126
                                clear HB
                                have BK123 := n0_
                                have BK126 := n1_
                                have HB := n2_
                                clear n0_ n1_ n2_
                                refine start_ (n := 14) (S := fun w' => True) (ds := []) #[false, false, false, false, false, false, false, false, false, false, false, false, false, false] (by kernel_rfl) rfl rfl trivial (fun hHeld => ?_); refine with_tabW spec_ciText.tab5 spec_ciText.bits5 (fun HT_ HW_ => ?_)
                                generalize w39.drew = w40 at BK123 BK126 HB hHeld ⊢
                                refine pure_ (i := 0) (N := some 19) (v := ?_) (a' := ?_) #[true, false, false, false, false, false, false, false, false, false, false, false, false, false] rfl rfl (any_of HT_.out (by kernel_rfl)) (fun _ _ _ h => h) (Or.inl ⟨by rfl, ?_⟩) ?_ ?_
                                rotate_left
                                · intro w'
                                  go_simp
                                  with_reducible rfl
                                rotate_left
                                · simp only [Act.put, List.setIfInBounds_toArray, List.set_cons_zero, List.set_cons_succ, i64_w, i32_w]
                                  rfl
                                refine pure_ (i := 2) (N := some 21) (v := ?_) (a' := ?_) #[true, false, true, false, false, false, false, false, false, false, false, false, false, false] rfl rfl (any_of HT_.out (by kernel_rfl)) (fun _ _ _ h => h) (Or.inl ⟨by rfl, ?_⟩) ?_ ?_
                                rotate_left
                                · intro w'
                                  go_simp
                                  with_reducible rfl
                                rotate_left
                                · simp only [Act.put, List.setIfInBounds_toArray, List.set_cons_zero, List.set_cons_succ, i64_w, i32_w]
                                  rfl
                                refine pure_ (i := 8) (N := some 27) (v := ?_) (a' := ?_) #[true, false, true, false, false, false, false, false, true, false, false, false, false, false] rfl rfl (any_of HT_.out (by kernel_rfl)) (fun _ _ _ h => h) (Or.inl ⟨by rfl, ?_⟩) ?_ ?_
                                rotate_left
                                · intro w'
                                  go_simp
                                  with_reducible rfl
                                rotate_left
                                · simp only [Act.put, List.setIfInBounds_toArray, List.set_cons_zero, List.set_cons_succ, i64_w, i32_w]
                                  rfl
                                refine inv_at [1, 3, 4, 5, 6, 7, 9, 10, 11, 12, 13] (fun a0_ b a w' => ∃ (v128 : Value) (adz_v128 : Addr) (m5_ : Value), a = putSel a0_ b [(1, 20, v128), (3, 22, .int .i64 ((rd_T47 l0_1 x15_1).f0)), (4, 23, .int .i64 ji11), (5, 24, m5_), (6, 25, .string (rdOf ByteArray.empty y127 (ji11))), (7, 26, .string ((rdOf ByteArray.empty y127 (ji11)) ++ (⟨#[32]⟩ : ByteArray))), (9, 28, .int .i64 ((rd_T47 l0_1 x15_1).f1)), (10, 29, .string t131), (11, 30, .string (((rdOf ByteArray.empty y127 (ji11)) ++ (⟨#[32]⟩ : ByteArray)) ++ t131)), (12, 31, .string (x3_1 ++ (((rdOf ByteArray.empty y127 (ji11)) ++ (⟨#[32]⟩ : ByteArray)) ++ t131))), (13, 3, .string (x3_1 ++ (((rdOf ByteArray.empty y127 (ji11)) ++ (⟨#[32]⟩ : ByteArray)) ++ t131)))] ∧ (w'.heap[gb123]? = some (.cells #[.int .i64 a0_0, .slice (some ad125) l0_1.length c0_1, .slice A0_2 l0_2.length c0_2] 31 (0, 0))) ∧ (w'.heap[gb126]? = some (.cells #[.int .i64 ((rd_T47 l0_1 x15_1).f0), .int .i64 ((rd_T47 l0_1 x15_1).f1), .int .i64 ((rd_T47 l0_1 x15_1).f2)] 47 (0, 0))) ∧ (Below w.heap.size w w') ∧ (b 1 = true → Kd.R Kd.string 9 w' w.heap.size (fun _ => True) v128 y127) ∧ (b 1 = true → ∃ c_, (v128 : Value) = .slice (some adz_v128) y127.length c_) ∧ (b 5 = true → (m5_ : Value) = .pointer (some (adz_v128.add ((ji11)).toNat)))) HT_.out HW_.out (by kernel_rfl) (by kernel_rfl) ?_ ?_ ?_
                                · exact ⟨.bool false, ⟨0, 0, none⟩, .bool false, by simp only [putSel, Bool.false_eq_true, if_false], BK123.out, BK126.out, HB.out, fun h_ => absurd h_ (by decide), fun h_ => absurd h_ (by decide), fun h_ => absurd h_ (by decide)⟩
                                · skip
                                  clear BK123 BK126 HB
                                  refine steps_cons ?_ ?_
                                  · rintro b a w' ⟨v128, adz_v128, m5_, ha, Q_BK123, Q_BK126, Q_HB, Q_HO129, Q_HA_HO129, Q_X5_⟩ hb_ hon hoff
                                    refine ⟨_, rfl, fun K hK => ?_⟩
                                    replace ha := Aside0.mk ha
                                    have BK123 := Aside0.mk Q_BK123
                                    have BK126 := Aside0.mk Q_BK126
                                    have HB := Aside0.mk Q_HB
                                    refine Kd.R_lit_step Kd.string _ 9 ?hg (N := 20) ?hd (xs := ([(⟨#[97, 110, 100]⟩ : ByteArray), (⟨#[111, 114]⟩ : ByteArray), (⟨#[120, 111, 114]⟩ : ByteArray), (⟨#[110, 111, 116]⟩ : ByteArray)] : List ByteArray)) (inner := [.string (⟨#[97, 110, 100]⟩ : ByteArray), .string (⟨#[111, 114]⟩ : ByteArray), .string (⟨#[120, 111, 114]⟩ : ByteArray), .string (⟨#[110, 111, 116]⟩ : ByteArray)]) (ok := fun _ => True) (okp := fun _ => True) ?hr ?hp (fun _ hk => hk) trivial (Below.refl _ _) (Nat.le_refl _) (by simp) ?_; (case hd => rfl); (case hg => rfl); (case hr => first | (go_simp; done) | (go_simp; rfl)); (case hp => exact (Reps.one (show Kd.M Kd.string _ _ _ (⟨#[97, 110, 100]⟩ : ByteArray) [.string (⟨#[97, 110, 100]⟩ : ByteArray)] from rfl) (Reps.one (show Kd.M Kd.string _ _ _ (⟨#[111, 114]⟩ : ByteArray) [.string (⟨#[111, 114]⟩ : ByteArray)] from rfl) (Reps.one (show Kd.M Kd.string _ _ _ (⟨#[120, 111, 114]⟩ : ByteArray) [.string (⟨#[120, 111, 114]⟩ : ByteArray)] from rfl) (Reps.one (show Kd.M Kd.string _ _ _ (⟨#[110, 111, 116]⟩ : ByteArray) [.string (⟨#[110, 111, 116]⟩ : ByteArray)] from rfl) (Reps.none _ _))))))
                                    intro v128 w41 ho42 hb hg_ hnew_
                                    clear hg_ hnew_
                                    (first | rw [← Ny127.out] at ho42 | (simp only [Int.reduceToNat] at ho42; rw [← Ny127.out] at ho42))
                                    have n0_ := Aside0.mk (Kd.R_lower ho42 (below_size (by repeat (first | (with_reducible first | exact HB.out | apply below_alloc | apply pw_below_drewN | apply below_drew1 | refine below_set ?_ GE123.out | refine below_set ?_ GE126.out) | exact HB.out))))
                                    have n1_ := Aside0.mk (blk_below (g := gb123) (o := .cells #[.int .i64 a0_0, .slice (some ad125) l0_1.length c0_1, .slice A0_2 l0_2.length c0_2] 31 (0, 0)) (by (with_reducible repeat (first | refine blk_drewN ?_ _ | refine blk_drew ?_ | refine blk_alloc ?_ _)); exact BK123.out) hb)
                                    have n2_ := Aside0.mk (blk_below (g := gb126) (o := .cells #[.int .i64 ((rd_T47 l0_1 x15_1).f0), .int .i64 ((rd_T47 l0_1 x15_1).f1), .int .i64 ((rd_T47 l0_1 x15_1).f2)] 47 (0, 0)) (by (with_reducible repeat (first | refine blk_drewN ?_ _ | refine blk_drew ?_ | refine blk_alloc ?_ _)); exact BK126.out) hb)
                                    have n3_ := Aside0.mk (below_step (by repeat (first | (with_reducible first | exact HB.out | apply below_alloc | apply pw_below_drewN | apply below_drew1 | refine below_set ?_ GE123.out | refine below_set ?_ GE126.out) | exact HB.out)) hb)
                                    clear BK123
                                    clear BK126
                                    clear HB
                                    have HO129 := n0_
                                    have BK123 := n1_
                                    have BK126 := n2_
                                    have HB := n3_
                                    clear n0_ n1_ n2_ n3_
                                    clear hb ho42
                                    obtain ⟨Ao43, co43, eo43⟩ := Kd.R_slice HO129.out
                                    subst eo43
                                    obtain ⟨ado43, fo43, _⟩ := Kd.at_string (Kd.R_reads' HO129.out).2.2 0 (by decide) (by rw [Ny127.out]; simp)
                                    cases fo43
                                    refine hK.out _ _ ⟨.slice (some ado43) y127.length co43, ado43, m5_, (by rw [ha.out]; exact putSel_upk 0 hb_ rfl rfl rfl), (by (with_reducible repeat (first | refine blk_drewN ?_ _ | refine blk_drew ?_ | refine blk_alloc ?_ _)); exact BK123.out), (by (with_reducible repeat (first | refine blk_drewN ?_ _ | refine blk_drew ?_ | refine blk_alloc ?_ _)); exact BK126.out), (by repeat (first | (with_reducible first | exact HB.out | apply below_alloc | apply pw_below_drewN | apply below_drew1 | refine below_set ?_ GE123.out | refine below_set ?_ GE126.out) | exact HB.out)), fun _ => (by (with_reducible repeat (first | apply Kd.R_alloc | apply Kd.R_drewN | apply Kd.R_drew)); exact HO129.out), fun _ => ⟨_, rfl⟩, fun h0_ => absurd ((hoff 5 (by kernel_rfl)).symm.trans h0_) (by decide)⟩
                                  refine steps_cons ?_ ?_
                                  · rintro b a w' ⟨v128, adz_v128, m5_, ha, Q_BK123, Q_BK126, Q_HB, Q_HO129, Q_HA_HO129, Q_X5_⟩ hb_ hon hoff
                                    refine ⟨_, rfl, fun K hK => ?_⟩
                                    have e21 : a.tmps[21]? = some (.pointer (some ⟨gb126, 0, none⟩)) := by rw [ha]; exact (putSel_off rfl).trans rfl
                                    replace ha := Aside0.mk ha
                                    have BK123 := Aside0.mk Q_BK123
                                    have BK126 := Aside0.mk Q_BK126
                                    have HB := Aside0.mk Q_HB
                                    have hc0_ : w'.cell? ⟨gb126, 0, none⟩ = some (.int .i64 ((rd_T47 l0_1 x15_1).f0)) := (blk_cell BK126.out 0).trans rfl
                                    have hc1_ : w'.cell? ⟨gb126, 1, none⟩ = some (.int .i64 ((rd_T47 l0_1 x15_1).f1)) := (blk_cell BK126.out 1).trans rfl
                                    have hc2_ : w'.cell? ⟨gb126, 2, none⟩ = some (.int .i64 ((rd_T47 l0_1 x15_1).f2)) := (blk_cell BK126.out 2).trans rfl
                                    refine value_ (w1 := w') (v := .int .i64 ((rd_T47 l0_1 x15_1).f0)) (by rfl) rfl ?_ ?_
                                    · go_simp
                                      (try simp only [i64_w])
                                      try rfl
                                    refine hK.out _ _ ⟨v128, adz_v128, m5_, (by rw [ha.out]; exact putSel_upk 1 hb_ rfl rfl rfl), Q_BK123, Q_BK126, Q_HB, Q_HO129, Q_HA_HO129, fun h0_ => absurd ((hoff 5 (by kernel_rfl)).symm.trans h0_) (by decide)⟩
                                  refine steps_cons ?_ ?_
                                  · rintro b a w' ⟨v128, adz_v128, m5_, ha, Q_BK123, Q_BK126, Q_HB, Q_HO129, Q_HA_HO129, Q_X5_⟩ hb_ hon hoff
                                    refine ⟨_, rfl, fun K hK => ?_⟩
                                    have e22 : a.tmps[22]? = some (.int .i64 ((rd_T47 l0_1 x15_1).f0)) := by rw [ha]; exact putSel_on (e := (3, 22, .int .i64 ((rd_T47 l0_1 x15_1).f0))) 1 rfl rfl (hon 3 (by kernel_rfl)) rfl
                                    replace ha := Aside0.mk ha
                                    have BK123 := Aside0.mk Q_BK123
                                    have BK126 := Aside0.mk Q_BK126
                                    have HB := Aside0.mk Q_HB
                                    refine value_ (w1 := w') (v := .int .i64 ji11) (by rfl) rfl ?_ ?_
                                    · go_simp
                                      (try simp only [i64_w])
                                      try rfl
                                    refine hK.out _ _ ⟨v128, adz_v128, m5_, (by rw [ha.out]; exact putSel_upk 2 hb_ rfl rfl rfl), Q_BK123, Q_BK126, Q_HB, Q_HO129, Q_HA_HO129, fun h0_ => absurd ((hoff 5 (by kernel_rfl)).symm.trans h0_) (by decide)⟩
                                  refine steps_cons ?_ ?_
                                  · rintro b a w' ⟨v128, adz_v128, m5_, ha, Q_BK123, Q_BK126, Q_HB, Q_HO129, Q_HA_HO129, Q_X5_⟩ hb_ hon hoff
                                    refine ⟨_, rfl, fun K hK => ?_⟩
                                    have e20 : a.tmps[20]? = some (v128) := by rw [ha]; exact putSel_on (e := (1, 20, v128)) 0 rfl rfl (hon 1 (by kernel_rfl)) rfl
                                    have e23 : a.tmps[23]? = some (.int .i64 ji11) := by rw [ha]; exact putSel_on (e := (4, 23, .int .i64 ji11)) 2 rfl rfl (hon 4 (by kernel_rfl)) rfl
                                    replace ha := Aside0.mk ha
                                    have BK123 := Aside0.mk Q_BK123
                                    have BK126 := Aside0.mk Q_BK126
                                    have HB := Aside0.mk Q_HB
                                    have HO129 := Aside0.mk (Q_HO129 (hon 1 (by kernel_rfl)))
                                    have HA_HO129 := Aside0.mk (Q_HA_HO129 (hon 1 (by kernel_rfl)))
                                    obtain ⟨c_, hv_⟩ := HA_HO129.out
                                    rw [hv_] at e20
                                    refine value_ (w1 := w') (v := .pointer (some (adz_v128.add ((ji11)).toNat))) (by rfl) rfl ?_ ?_
                                    · go_simp
                                      (try simp only [i64_w])
                                      try rfl
                                    refine hK.out _ _ ⟨v128, adz_v128, (.pointer (some (adz_v128.add ((ji11)).toNat))), (by rw [ha.out]; exact putSel_upk 3 hb_ rfl rfl rfl), Q_BK123, Q_BK126, Q_HB, Q_HO129, Q_HA_HO129, fun _ => rfl⟩
                                  refine steps_cons ?_ ?_
                                  · rintro b a w' ⟨v128, adz_v128, m5_, ha, Q_BK123, Q_BK126, Q_HB, Q_HO129, Q_HA_HO129, Q_X5_⟩ hb_ hon hoff
                                    refine ⟨_, rfl, fun K hK => ?_⟩
                                    have e24 : a.tmps[24]? = some (m5_) := by rw [ha]; exact putSel_on (e := (5, 24, m5_)) 3 rfl rfl (hon 5 (by kernel_rfl)) rfl
                                    rw [Q_X5_ (hon 5 (by kernel_rfl))] at e24
                                    replace ha := Aside0.mk ha
                                    have BK123 := Aside0.mk Q_BK123
                                    have BK126 := Aside0.mk Q_BK126
                                    have HB := Aside0.mk Q_HB
                                    have HO129 := Aside0.mk (Q_HO129 (hon 1 (by kernel_rfl)))
                                    have HA_HO129 := Aside0.mk (Q_HA_HO129 (hon 1 (by kernel_rfl)))
                                    obtain ⟨c_, hv_⟩ := HA_HO129.out
                                    have hF_ := HO129.out
                                    rw [hv_] at hF_
                                    obtain ⟨ad_, ea_, hx_⟩ := Kd.at_string (Kd.R_reads' hF_).2.2 (ji11) (of_eq_true pi130) (of_eq_true qi130)
                                    cases ea_
                                    refine value_ (w1 := w') (v := .string (rdOf ByteArray.empty y127 (ji11))) (by rfl) rfl ?_ ?_
                                    · go_simp
                                      (try simp only [i64_w])
                                      try rfl
                                    refine hK.out _ _ ⟨v128, adz_v128, m5_, (by rw [ha.out]; exact putSel_upk 4 hb_ rfl rfl rfl), Q_BK123, Q_BK126, Q_HB, Q_HO129, Q_HA_HO129, Q_X5_⟩
                                  refine steps_cons ?_ ?_
                                  · rintro b a w' ⟨v128, adz_v128, m5_, ha, Q_BK123, Q_BK126, Q_HB, Q_HO129, Q_HA_HO129, Q_X5_⟩ hb_ hon hoff
                                    refine ⟨_, rfl, fun K hK => ?_⟩
                                    have e25 : a.tmps[25]? = some (.string (rdOf ByteArray.empty y127 (ji11))) := by rw [ha]; exact putSel_on (e := (6, 25, .string (rdOf ByteArray.empty y127 (ji11)))) 4 rfl rfl (hon 6 (by kernel_rfl)) rfl
                                    replace ha := Aside0.mk ha
                                    have BK123 := Aside0.mk Q_BK123
                                    have BK126 := Aside0.mk Q_BK126
                                    have HB := Aside0.mk Q_HB
                                    have HO129 := Aside0.mk (Q_HO129 (hon 1 (by kernel_rfl)))
                                    have HA_HO129 := Aside0.mk (Q_HA_HO129 (hon 1 (by kernel_rfl)))
                                    refine value_ (w1 := w') (v := .string ((rdOf ByteArray.empty y127 (ji11)) ++ (⟨#[32]⟩ : ByteArray))) (by rfl) rfl ?_ ?_
                                    · go_simp
                                      (try simp only [i64_w])
                                      try rfl
                                    refine hK.out _ _ ⟨v128, adz_v128, m5_, (by rw [ha.out]; exact putSel_upk 5 hb_ rfl rfl rfl), Q_BK123, Q_BK126, Q_HB, Q_HO129, Q_HA_HO129, Q_X5_⟩
                                  refine steps_cons ?_ ?_
                                  · rintro b a w' ⟨v128, adz_v128, m5_, ha, Q_BK123, Q_BK126, Q_HB, Q_HO129, Q_HA_HO129, Q_X5_⟩ hb_ hon hoff
                                    refine ⟨_, rfl, fun K hK => ?_⟩
                                    have e27 : a.tmps[27]? = some (.pointer (some ⟨gb126, 1, none⟩)) := by rw [ha]; exact (putSel_off rfl).trans rfl
                                    replace ha := Aside0.mk ha
                                    have BK123 := Aside0.mk Q_BK123
                                    have BK126 := Aside0.mk Q_BK126
                                    have HB := Aside0.mk Q_HB
                                    have hc0_ : w'.cell? ⟨gb126, 0, none⟩ = some (.int .i64 ((rd_T47 l0_1 x15_1).f0)) := (blk_cell BK126.out 0).trans rfl
                                    have hc1_ : w'.cell? ⟨gb126, 1, none⟩ = some (.int .i64 ((rd_T47 l0_1 x15_1).f1)) := (blk_cell BK126.out 1).trans rfl
                                    have hc2_ : w'.cell? ⟨gb126, 2, none⟩ = some (.int .i64 ((rd_T47 l0_1 x15_1).f2)) := (blk_cell BK126.out 2).trans rfl
                                    refine value_ (w1 := w') (v := .int .i64 ((rd_T47 l0_1 x15_1).f1)) (by rfl) rfl ?_ ?_
                                    · go_simp
                                      (try simp only [i64_w])
                                      try rfl
                                    refine hK.out _ _ ⟨v128, adz_v128, m5_, (by rw [ha.out]; exact putSel_upk 6 hb_ rfl rfl rfl), Q_BK123, Q_BK126, Q_HB, Q_HO129, Q_HA_HO129, Q_X5_⟩
                                  refine steps_cons ?_ ?_
                                  · rintro b a w' ⟨v128, adz_v128, m5_, ha, Q_BK123, Q_BK126, Q_HB, Q_HO129, Q_HA_HO129, Q_X5_⟩ hb_ hon hoff
                                    refine ⟨_, rfl, fun K hK => ?_⟩
                                    have e28 : a.tmps[28]? = some (.int .i64 ((rd_T47 l0_1 x15_1).f1)) := by rw [ha]; exact putSel_on (e := (9, 28, .int .i64 ((rd_T47 l0_1 x15_1).f1))) 6 rfl rfl (hon 9 (by kernel_rfl)) rfl
                                    replace ha := Aside0.mk ha
                                    have BK123 := Aside0.mk Q_BK123
                                    have BK126 := Aside0.mk Q_BK126
                                    have HB := Aside0.mk Q_HB
                                    refine goes_ Tryd.func39 (by kernel_rfl) rfl #[.int .i64 ((rd_T47 l0_1 x15_1).f1)] (by rfl) rfl rfl (by first | (simp only [List.map_toArray, List.map_cons, List.map_nil, Act.eval, Array.getD_eq_getD_getElem?, Option.getD_some, e28]; done) | (simp only [List.map_toArray, List.map_cons, List.map_nil, Act.eval, Array.getD_eq_getD_getElem?, Option.getD_some, e28]; rfl)) ?_
                                    with_reducible refine (spec_l1Num.calls k1 ((rd_T47 l0_1 x15_1).f1) t131 _ A15.out).mono ?_
                                    rintro e w41 ⟨rfl, hb⟩
                                    refine ⟨_, rfl, ?_⟩
                                    have n0_ := Aside0.mk (blk_below (g := gb123) (o := .cells #[.int .i64 a0_0, .slice (some ad125) l0_1.length c0_1, .slice A0_2 l0_2.length c0_2] 31 (0, 0)) (by (with_reducible repeat (first | refine blk_drewN ?_ _ | refine blk_drew ?_ | refine blk_alloc ?_ _)); exact BK123.out) hb)
                                    have n1_ := Aside0.mk (blk_below (g := gb126) (o := .cells #[.int .i64 ((rd_T47 l0_1 x15_1).f0), .int .i64 ((rd_T47 l0_1 x15_1).f1), .int .i64 ((rd_T47 l0_1 x15_1).f2)] 47 (0, 0)) (by (with_reducible repeat (first | refine blk_drewN ?_ _ | refine blk_drew ?_ | refine blk_alloc ?_ _)); exact BK126.out) hb)
                                    have n2_ := Aside0.mk (below_step (by repeat (first | (with_reducible first | exact HB.out | apply below_alloc | apply pw_below_drewN | apply below_drew1 | refine below_set ?_ GE123.out | refine below_set ?_ GE126.out) | exact HB.out)) hb)
                                    have z_HO129 := fun (h0_ : b 1 = true) => (show Kd.R Kd.string 9 w41 w.heap.size (fun _ => True) v128 y127 from by first | exact (Kd.R_below (by (with_reducible repeat (first | apply Kd.R_alloc | apply Kd.R_drewN | apply Kd.R_drew)); exact (Q_HO129 h0_)) hb) | exact Kd.R_mono (Kd.R_below (by (with_reducible repeat (first | apply Kd.R_alloc | apply Kd.R_drewN | apply Kd.R_drew)); exact (Q_HO129 h0_)) hb) (fun _ h_ => by first | trivial | exact h_ | exact h_.1))
                                    clear BK123
                                    clear BK126
                                    clear HB
                                    have BK123 := n0_
                                    have BK126 := n1_
                                    have HB := n2_
                                    clear n0_ n1_ n2_
                                    (try clear hb)
                                    (try clear hb2)
                                    (try clear hk)
                                    (try clear hi)
                                    refine hK.out _ _ ⟨v128, adz_v128, m5_, (by rw [ha.out]; exact putSel_upk 7 hb_ rfl rfl rfl), (by (with_reducible repeat (first | refine blk_drewN ?_ _ | refine blk_drew ?_ | refine blk_alloc ?_ _)); exact BK123.out), (by (with_reducible repeat (first | refine blk_drewN ?_ _ | refine blk_drew ?_ | refine blk_alloc ?_ _)); exact BK126.out), (by repeat (first | (with_reducible first | exact HB.out | apply below_alloc | apply pw_below_drewN | apply below_drew1 | refine below_set ?_ GE123.out | refine below_set ?_ GE126.out) | exact HB.out)), z_HO129, Q_HA_HO129, Q_X5_⟩
                                  refine steps_cons ?_ ?_
                                  · rintro b a w' ⟨v128, adz_v128, m5_, ha, Q_BK123, Q_BK126, Q_HB, Q_HO129, Q_HA_HO129, Q_X5_⟩ hb_ hon hoff
                                    refine ⟨_, rfl, fun K hK => ?_⟩
                                    have e26 : a.tmps[26]? = some (.string ((rdOf ByteArray.empty y127 (ji11)) ++ (⟨#[32]⟩ : ByteArray))) := by rw [ha]; exact putSel_on (e := (7, 26, .string ((rdOf ByteArray.empty y127 (ji11)) ++ (⟨#[32]⟩ : ByteArray)))) 5 rfl rfl (hon 7 (by kernel_rfl)) rfl
                                    have e29 : a.tmps[29]? = some (.string t131) := by rw [ha]; exact putSel_on (e := (10, 29, .string t131)) 7 rfl rfl (hon 10 (by kernel_rfl)) rfl
                                    replace ha := Aside0.mk ha
                                    have BK123 := Aside0.mk Q_BK123
                                    have BK126 := Aside0.mk Q_BK126
                                    have HB := Aside0.mk Q_HB
                                    have HO129 := Aside0.mk (Q_HO129 (hon 1 (by kernel_rfl)))
                                    have HA_HO129 := Aside0.mk (Q_HA_HO129 (hon 1 (by kernel_rfl)))
                                    refine value_ (w1 := w') (v := .string (((rdOf ByteArray.empty y127 (ji11)) ++ (⟨#[32]⟩ : ByteArray)) ++ t131)) (by rfl) rfl ?_ ?_
                                    · go_simp
                                      (try simp only [i64_w])
                                      try rfl
                                    refine hK.out _ _ ⟨v128, adz_v128, m5_, (by rw [ha.out]; exact putSel_upk 8 hb_ rfl rfl rfl), Q_BK123, Q_BK126, Q_HB, Q_HO129, Q_HA_HO129, Q_X5_⟩
                                  refine steps_cons ?_ ?_
                                  · rintro b a w' ⟨v128, adz_v128, m5_, ha, Q_BK123, Q_BK126, Q_HB, Q_HO129, Q_HA_HO129, Q_X5_⟩ hb_ hon hoff
                                    refine ⟨_, rfl, fun K hK => ?_⟩
                                    have e19 : a.tmps[19]? = some (.string x3_1) := by rw [ha]; exact (putSel_off rfl).trans rfl
                                    have e30 : a.tmps[30]? = some (.string (((rdOf ByteArray.empty y127 (ji11)) ++ (⟨#[32]⟩ : ByteArray)) ++ t131)) := by rw [ha]; exact putSel_on (e := (11, 30, .string (((rdOf ByteArray.empty y127 (ji11)) ++ (⟨#[32]⟩ : ByteArray)) ++ t131))) 8 rfl rfl (hon 11 (by kernel_rfl)) rfl
                                    replace ha := Aside0.mk ha
                                    have BK123 := Aside0.mk Q_BK123
                                    have BK126 := Aside0.mk Q_BK126
                                    have HB := Aside0.mk Q_HB
                                    have HO129 := Aside0.mk (Q_HO129 (hon 1 (by kernel_rfl)))
                                    have HA_HO129 := Aside0.mk (Q_HA_HO129 (hon 1 (by kernel_rfl)))
                                    refine value_ (w1 := w') (v := .string (x3_1 ++ (((rdOf ByteArray.empty y127 (ji11)) ++ (⟨#[32]⟩ : ByteArray)) ++ t131))) (by rfl) rfl ?_ ?_
                                    · go_simp
                                      (try simp only [i64_w])
                                      try rfl
                                    refine hK.out _ _ ⟨v128, adz_v128, m5_, (by rw [ha.out]; exact putSel_upk 9 hb_ rfl rfl rfl), Q_BK123, Q_BK126, Q_HB, Q_HO129, Q_HA_HO129, Q_X5_⟩
                                  refine steps_cons ?_ ?_
                                  · rintro b a w' ⟨v128, adz_v128, m5_, ha, Q_BK123, Q_BK126, Q_HB, Q_HO129, Q_HA_HO129, Q_X5_⟩ hb_ hon hoff
                                    refine ⟨_, rfl, fun K hK => ?_⟩
                                    have e31 : a.tmps[31]? = some (.string (x3_1 ++ (((rdOf ByteArray.empty y127 (ji11)) ++ (⟨#[32]⟩ : ByteArray)) ++ t131))) := by rw [ha]; exact putSel_on (e := (12, 31, .string (x3_1 ++ (((rdOf ByteArray.empty y127 (ji11)) ++ (⟨#[32]⟩ : ByteArray)) ++ t131)))) 9 rfl rfl (hon 12 (by kernel_rfl)) rfl
                                    replace ha := Aside0.mk ha
                                    have BK123 := Aside0.mk Q_BK123
                                    have BK126 := Aside0.mk Q_BK126
                                    have HB := Aside0.mk Q_HB
                                    have HO129 := Aside0.mk (Q_HO129 (hon 1 (by kernel_rfl)))
                                    have HA_HO129 := Aside0.mk (Q_HA_HO129 (hon 1 (by kernel_rfl)))
                                    refine value_ (w1 := w') (v := .string (x3_1 ++ (((rdOf ByteArray.empty y127 (ji11)) ++ (⟨#[32]⟩ : ByteArray)) ++ t131))) (by rfl) rfl ?_ ?_
                                    · go_simp
                                      (try simp only [i64_w])
                                      try rfl
                                    refine hK.out _ _ ⟨v128, adz_v128, m5_, (by rw [ha.out]; exact putSel_upk 10 hb_ rfl rfl rfl), Q_BK123, Q_BK126, Q_HB, Q_HO129, Q_HA_HO129, Q_X5_⟩
                                  exact steps_nil
                                rintro b a w45 hall ⟨v128, adz_v128, m5_, ha, Q_BK123, Q_BK126, Q_HB, Q_HO129, Q_HA_HO129, Q_X5_⟩
                                clear BK123 BK126 HB
                                have hb1_ := hall 1 (by kernel_rfl)
                                have hb3_ := hall 3 (by kernel_rfl)
                                have hb4_ := hall 4 (by kernel_rfl)
                                have hb5_ := hall 5 (by kernel_rfl)
                                have hb6_ := hall 6 (by kernel_rfl)
                                have hb7_ := hall 7 (by kernel_rfl)
                                have hb9_ := hall 9 (by kernel_rfl)
                                have hb10_ := hall 10 (by kernel_rfl)
                                have hb11_ := hall 11 (by kernel_rfl)
                                have hb12_ := hall 12 (by kernel_rfl)
                                have hb13_ := hall 13 (by kernel_rfl)
                                subst ha
                                obtain rfl := Q_X5_ hb5_
                                simp only [putSel, hb1_, hb3_, hb4_, hb5_, hb6_, hb7_, hb9_, hb10_, hb11_, hb12_, hb13_, if_true, Act.put, List.setIfInBounds_toArray, List.set_cons_zero, List.set_cons_succ]
                                have BK123 := Aside0.mk Q_BK123
                                clear Q_BK123
                                have BK126 := Aside0.mk Q_BK126
                                clear Q_BK126
                                have HB := Aside0.mk Q_HB
                                clear Q_HB
                                have HO129 := Aside0.mk (Q_HO129 hb1_)
                                clear Q_HO129
                                have HA_HO129 := Aside0.mk (Q_HA_HO129 hb1_)
                                clear Q_HA_HO129
                                clear hall hb1_ hb3_ hb4_ hb5_ hb6_ hb7_ hb9_ hb10_ hb11_ hb12_ hb13_
                                obtain ⟨co46, eo46⟩ := HA_HO129.out
                                clear HA_HO129
                                subst eo46
                                have hcz47_0 : w45.cell? ⟨gb126, 0, none⟩ = some (.int .i64 ((rd_T47 l0_1 x15_1).f0)) := (blk_cell BK126.out 0).trans rfl
                                have hcz47_1 : w45.cell? ⟨gb126, 1, none⟩ = some (.int .i64 ((rd_T47 l0_1 x15_1).f1)) := (blk_cell BK126.out 1).trans rfl
                                have hcz47_2 : w45.cell? ⟨gb126, 2, none⟩ = some (.int .i64 ((rd_T47 l0_1 x15_1).f2)) := (blk_cell BK126.out 2).trans rfl
                                have hfz47_0 := blk_frozen BK126.out 0
                                have hfz47_1 := blk_frozen BK126.out 1
                                have hfz47_2 := blk_frozen BK126.out 2
                                try go_wp2_with (first | ((with_reducible refine gate_callee (f := 39) rfl ?_); refine goesL_ (some 38) rfl rfl Tryd.func39 (by kernel_rfl) rfl #[.int .i64 ((rd_T47 l0_1 x15_1).f2)] rfl (by (try simp only [List.map_toArray, List.map_cons, List.map_nil]); first | done | rfl | (simp only [List.length_drop, List.length_take]; rfl)) ?_; (with_reducible refine (spec_l1Num.calls k1 ((rd_T47 l0_1 x15_1).f2) t132 _ A32.out).mono ?_); rintro e w48 ⟨rfl, hb⟩; refine ⟨_, rfl, ?_⟩; have n0_ := Aside0.mk (Kd.R_below (by (with_reducible repeat (first | apply Kd.R_alloc | apply Kd.R_drewN | apply Kd.R_drew)); exact HO129.out) hb); have n1_ := Aside0.mk (blk_below (g := gb123) (o := .cells #[.int .i64 a0_0, .slice (some ad125) l0_1.length c0_1, .slice A0_2 l0_2.length c0_2] 31 (0, 0)) (by (with_reducible repeat (first | refine blk_drewN ?_ _ | refine blk_drew ?_ | refine blk_alloc ?_ _)); exact BK123.out) hb); have n2_ := Aside0.mk (blk_below (g := gb126) (o := .cells #[.int .i64 ((rd_T47 l0_1 x15_1).f0), .int .i64 ((rd_T47 l0_1 x15_1).f1), .int .i64 ((rd_T47 l0_1 x15_1).f2)] 47 (0, 0)) (by (with_reducible repeat (first | refine blk_drewN ?_ _ | refine blk_drew ?_ | refine blk_alloc ?_ _)); exact BK126.out) hb); have n3_ := Aside0.mk (below_step (by repeat (first | (with_reducible first | exact HB.out | apply below_alloc | apply pw_below_drewN | apply below_drew1 | refine below_set ?_ GE123.out | refine below_set ?_ GE126.out) | exact HB.out)) hb); clear HO129; clear BK123; clear BK126; clear HB; have HO129 := n0_; have BK123 := n1_; have BK126 := n2_; have HB := n3_; clear n0_ n1_ n2_ n3_; (try clear hb); (try clear hb2); (try clear hk); (try clear hi)))
                                go_roundg k1
                                case measure => have := HK1.out; omega
                                case rel => exact ⟨(((x3_1 ++ (((rdOf ByteArray.empty y127 (ji11)) ++ (⟨#[32]⟩ : ByteArray)) ++ t131)) ++ ((⟨#[32]⟩ : ByteArray) ++ t132)) ++ (⟨#[10]⟩ : ByteArray)), (wrap64 (x15_1 + 1)), (by first | rfl | (simp; done) | (simp only [← hji11] <;> (first | rfl | simp)) | (simp [*]; done)), (by first | rfl | (simp; done) | (simp [*]; done)), H', ⟨by have := HK1.out; omega⟩, ⟨by (with_reducible repeat (first | refine blk_drewN ?_ _ | refine blk_drew ?_ | refine blk_alloc ?_ _)); exact BK123.out⟩, ⟨by repeat (first | (with_reducible first | exact HB.out | apply below_alloc | apply pw_below_drewN | apply below_drew1 | refine below_set ?_ GE123.out | refine below_set ?_ GE126.out) | exact HB.out)⟩⟩
                              · rw [if_neg c35] at H
                                exact absurd H (by simp)
                            · rw [if_neg c34] at H
                              exact absurd H (by simp)
                          · rw [if_neg c33] at H
                            exact absurd H (by simp)
                      · rw [if_neg c17] at H
                        exact absurd H (by simp)
                    · rw [if_neg c16] at H
                      exact absurd H (by simp)
                  · rw [if_neg c14] at H
                    exact absurd H (by simp)
                · rw [if_neg c13] at H
                  exact absurd H (by simp)
              · rw [if_neg c12] at H
                exact absurd H (by simp)
            · rw [if_neg c10] at H
              exact absurd H (by simp)
          · rw [if_neg c9] at H
            exact absurd H (by simp)
        · rw [if_neg c8] at H
          have c8b0 : decide (x15_1 < (l0_1.length : Int)) = false := decide_eq_false c8
          clear c8
          by_cases c49 : x3_1.size + 3 ≤ 9223372036854775807
          · rw [if_pos c49] at H
            have c49b0 := eq_true c49
            have c49b1 : decide (x3_1.size + 3 ≤ 9223372036854775807) = true := decide_eq_true c49
            try have c49b2 : (9223372036854775807 < x3_1.size + 3) = False := eq_false (Nat.not_lt.2 c49)
            have H' := Aside0.mk H
            clear H
            have hcz50_0 : wr.cell? ⟨gb123, 0, none⟩ = some (.int .i64 a0_0) := (blk_cell BK123.out 0).trans rfl
            have hcz50_1 : wr.cell? ⟨gb123, 1, none⟩ = some (.slice A0_1 l0_1.length c0_1) := (blk_cell BK123.out 1).trans rfl
            have hcz50_2 : wr.cell? ⟨gb123, 2, none⟩ = some (.slice A0_2 l0_2.length c0_2) := (blk_cell BK123.out 2).trans rfl
            have hfz50_0 := blk_frozen BK123.out 0
            have hfz50_1 := blk_frozen BK123.out 1
            have hfz50_2 := blk_frozen BK123.out 2
            go_wp2
            go_loopg [3, 49] k1 (fun kq v3 v49 w' => ∃ (x3_2 : ByteArray) (x49_2 : Int), v3 = .string x3_2 ∧ v49 = .int .i64 x49_2 ∧ Aside0 (spec_ciText.l1 kq x3_2 l0_2 (l0_2.length : Int) x49_2 = some r) ∧ Aside0 (kq ≤ k1) ∧ Aside0 (w'.heap[gb123]? = some (.cells #[.int .i64 a0_0, (.slice A0_1 l0_1.length c0_1), (.slice A0_2 l0_2.length c0_2)] 31 (0, 0))) ∧ Aside0 (Below w.heap.size w w'))
            case atStart => exact ⟨(x3_1 ++ (⟨#[111, 117, 116]⟩ : ByteArray)), (0), (by first | rfl | (simp; done) | (simp [*]; done)), (by first | rfl | (simp; done) | (simp [*]; done)), H', ⟨Nat.le_refl _⟩, ⟨by (with_reducible repeat (first | refine blk_drewN ?_ _ | refine blk_drew ?_ | refine blk_alloc ?_ _)); exact BK123.out⟩, ⟨by repeat (first | (with_reducible first | exact HB.out | apply below_alloc | apply pw_below_drewN | apply below_drew1 | refine below_set ?_ GE123.out) | exact HB.out)⟩⟩
            case round =>
              clear H'
              try clear c1
              try clear p1
              try clear q1
              try clear hx1
              try clear qi1
              try clear c2
              try clear p2
              try clear c3
              try clear c4
              try clear p6
              try clear c8
              try clear c8b0
              try clear c9
              try clear c10
              try clear c12
              try clear p12
              try clear q12
              try clear hx12
              try clear c13
              try clear qi13
              try clear c14
              try clear c16
              try clear c17
              try clear c18
              try clear c18b0
              try clear c18b1
              try clear c19
              try clear c33
              try clear c33b0
              try clear c33b1
              try clear c33b2
              try clear c34
              try clear c34b0
              try clear c34b1
              try clear c34b2
              try clear c35
              try clear c35b0
              try clear c35b1
              try clear c35b2
              try clear c37
              try clear c39
              try clear c49
              try clear c49b0
              try clear c49b1
              try clear c49b2
              try clear hcz31_0
              try clear hcz31_1
              try clear hcz31_2
              try clear hcz38_0
              try clear hcz38_1
              try clear hcz38_2
              try clear hcz47_0
              try clear hcz47_1
              try clear hcz47_2
              try clear hcz50_0
              try clear hcz50_1
              try clear hcz50_2
              try clear hfz31_0
              try clear hfz31_1
              try clear hfz31_2
              try clear hfz38_0
              try clear hfz38_1
              try clear hfz38_2
              try clear hfz47_0
              try clear hfz47_1
              try clear hfz47_2
              try clear hfz50_0
              try clear hfz50_1
              try clear hfz50_2
              try clear hx125_0
              try clear hx125_1
              try clear hx125_2
              try clear p125
              try clear q125
              obtain ⟨x3_2, x49_2, rfl, rfl, HA, HK2, BK123, HB⟩ := hrel
              cases gk with
              | zero => exact absurd HA.out (by simp [spec_ciText.l1])
              | succ k2 =>
                have H := HA.out
                clear HA
                simp only [spec_ciText.l1] at H
                by_cases c51 : x49_2 < (l0_2.length : Int)
                · rw [if_pos c51] at H
                  have c51b0 : decide (x49_2 < (l0_2.length : Int)) = true := decide_eq_true c51
                  clear c51
                  by_cases c52 : 0 ≤ x49_2
                  · rw [if_pos c52] at H
                    have c52b0 : decide (0 ≤ x49_2) = true := decide_eq_true c52
                    clear c52
                    by_cases c53 : x49_2 < (l0_2.length : Int)
                    · rw [if_pos c53] at H
                      have c53b0 : decide (x49_2 < (l0_2.length : Int)) = true := decide_eq_true c53
                      clear c53
                      replace H := Option.bind_eq_some_iff.mp H
                      obtain ⟨t134, A540, H⟩ := H
                      replace H : (if 1 + t134.size ≤ 9223372036854775807 then (if x3_2.size + ((⟨#[32]⟩ : ByteArray) ++ t134).size ≤ 9223372036854775807 then (spec_ciText.l1 k2 (x3_2 ++ ((⟨#[32]⟩ : ByteArray) ++ t134)) l0_2 (l0_2.length : Int) (wrap64 (x49_2 + 1))) else (none)) else (none)) = some r := H
                      have A54 := Aside0.mk A540
                      clear A540
                      by_cases c55 : 1 + t134.size ≤ 9223372036854775807
                      · rw [if_pos c55] at H
                        have c55b0 := eq_true c55
                        have c55b1 : decide (1 + t134.size ≤ 9223372036854775807) = true := decide_eq_true c55
                        try have c55b2 : (9223372036854775807 < 1 + t134.size) = False := eq_false (Nat.not_lt.2 c55)
                        by_cases c56 : x3_2.size + ((⟨#[32]⟩ : ByteArray) ++ t134).size ≤ 9223372036854775807
                        · rw [if_pos c56] at H
                          have c56b0 := eq_true c56
                          have c56b1 : decide (x3_2.size + ((⟨#[32]⟩ : ByteArray) ++ t134).size ≤ 9223372036854775807) = true := decide_eq_true c56
                          (try have c56b3 : (x3_2.size + (1 + t134.size) ≤ 9223372036854775807) = True := eq_true (by have h_ := c56; (repeat rw [ByteArray.size_append] at h_); exact h_))
                          (try have c56b4 : (9223372036854775807 < x3_2.size + (1 + t134.size)) = False := eq_false (by have h_ := c56; (repeat rw [ByteArray.size_append] at h_); exact Nat.not_lt.2 h_))
                          try have c56b2 : (9223372036854775807 < x3_2.size + ((⟨#[32]⟩ : ByteArray) ++ t134).size) = False := eq_false (Nat.not_lt.2 c56)
                          have H' := Aside0.mk H
                          clear H
                          have p133 : 0 ≤ (x49_2 : Int) := of_decide_eq_true (by first | (with_reducible assumption) | assumption)
                          have q133 : x49_2 < (l0_2.length : Int) := of_decide_eq_true (by first | (with_reducible assumption) | assumption)
                          obtain ⟨ad133, e133, hx133_0⟩ := Kd.at_int HR0_2.out x49_2 p133 q133
                          cases e133
                          (try (replace hx133_0 := (HB.out.cell (World.block_lt_of_cell? w _ hx133_0)).trans hx133_0))
                          replace p133 := eq_true p133
                          replace q133 := eq_true q133
                          go_wp2_with (first | ((with_reducible refine gate_callee (f := 39) rfl ?_); refine goesL_ (some 55) rfl rfl Tryd.func39 (by kernel_rfl) rfl #[.int .i64 (rd l0_2 x49_2)] rfl (by (try simp only [List.map_toArray, List.map_cons, List.map_nil]); first | done | rfl | (simp only [List.length_drop, List.length_take]; rfl)) ?_; (with_reducible refine (spec_l1Num.calls k2 (rd l0_2 x49_2) t134 _ A54.out).mono ?_); rintro e w57 ⟨rfl, hb⟩; refine ⟨_, rfl, ?_⟩; have n0_ := Aside0.mk (blk_below (g := gb123) (o := .cells #[.int .i64 a0_0, .slice A0_1 l0_1.length c0_1, .slice (some ad133) l0_2.length c0_2] 31 (0, 0)) (by (with_reducible repeat (first | refine blk_drewN ?_ _ | refine blk_drew ?_ | refine blk_alloc ?_ _)); exact BK123.out) hb); have n1_ := Aside0.mk (below_step (by repeat (first | (with_reducible first | exact HB.out | apply below_alloc | apply pw_below_drewN | apply below_drew1 | refine below_set ?_ GE123.out) | exact HB.out)) hb); clear BK123; clear HB; have BK123 := n0_; have HB := n1_; clear n0_ n1_; (try clear hb); (try clear hb2); (try clear hk); (try clear hi)))
                          go_roundg k2
                          case measure => have := HK1.out; have := HK2.out; omega
                          case rel => exact ⟨(x3_2 ++ ((⟨#[32]⟩ : ByteArray) ++ t134)), (wrap64 (x49_2 + 1)), (by first | rfl | (simp; done) | (simp [*]; done)), (by first | rfl | (simp; done) | (simp [*]; done)), H', ⟨by have := HK1.out; have := HK2.out; omega⟩, ⟨by (with_reducible repeat (first | refine blk_drewN ?_ _ | refine blk_drew ?_ | refine blk_alloc ?_ _)); exact BK123.out⟩, ⟨by repeat (first | (with_reducible first | exact HB.out | apply below_alloc | apply pw_below_drewN | apply below_drew1 | refine below_set ?_ GE123.out) | exact HB.out)⟩⟩
                        · rw [if_neg c56] at H
                          exact absurd H (by simp)
                      · rw [if_neg c55] at H
                        exact absurd H (by simp)
                    · rw [if_neg c53] at H
                      exact absurd H (by simp)
                  · rw [if_neg c52] at H
                    exact absurd H (by simp)
                · rw [if_neg c51] at H
                  have c51b0 : decide (x49_2 < (l0_2.length : Int)) = false := decide_eq_false c51
                  clear c51
                  by_cases c58 : x3_2.size + 1 ≤ 9223372036854775807
                  · rw [if_pos c58] at H
                    have c58b0 := eq_true c58
                    have c58b1 : decide (x3_2.size + 1 ≤ 9223372036854775807) = true := decide_eq_true c58
                    try have c58b2 : (9223372036854775807 < x3_2.size + 1) = False := eq_false (Nat.not_lt.2 c58)
                    obtain rfl := Option.some.inj H
                    go_wp2
                    go_ret
                    exact ⟨by first | rfl | (simp [errW_none, errW_some] <;> rfl) | (simp [*, errW_none, errW_some] <;> rfl), by repeat (first | (with_reducible first | exact HB.out | apply below_alloc | apply pw_below_drewN | apply below_drew1 | refine below_set ?_ GE123.out) | exact HB.out)⟩
                  · rw [if_neg c58] at H
                    exact absurd H (by simp)
          · rw [if_neg c49] at H
            exact absurd H (by simp)
  · rw [if_neg c3] at H
    exact absurd H (by simp)

end Go.Proofs.YtanpidphaanjiaaDoor.QFnExactCircuitText
