/- Functions of the law FnTracks, each as a Lean function, and the proofs that the Go code comes to their answers. Made by wip/gen/slim.py. Conditions: those of each theorem. -/
import Derived.Test.YtbkighlfgaifeaaSFnTracksx0
import Derived.Test.YtbkighlfgaifeaaSFnTracksx5
import Derived.Test.YtbkighlfgaifeaaSFnTracksx6
import Derived.Test.YtbkighlfgaifeaaSFnTracksx9
namespace Go.Proofs.Ytbkighlfgaifeaa.QFnTracks
open Go.RowKit Go.Proofs.YtbkighlfgaifeaaW.PrintWords Go.Proofs.YtbkighlfgaifeaaW.PrintLast Go.Proofs.YtbkighlfgaifeaaW.PrintMore
open Go.Proofs.YtbkighlfgaifeaaW.PrintWords renaming pw_below_drewN → pN, below_drew1 → p1, below_alloc → pA
open Go.Proofs.YtbkighlfgaifeaaW.PrintWords.Kd renaming R_alloc → kA, R_drewN → kN, R_drew → kD, Q_alloc → qA, Q_drewN → qN, Q_drew → qD, C_alloc → cA, C_drewN → cN, C_drew → cD
open Go.Proofs.YtbkighlfgaifeaaW.PrintWords.Aside0 renaming mk → aM
open List renaming setIfInBounds_toArray → sI, set_cons_zero → s0, set_cons_succ → sS, map_toArray → mT, length_take → lT, length_drop → lD, map_cons → mC, map_nil → mN
open Option renaming bind_eq_some_iff → oB, bind_some → oS
attribute [local go_sem] max2_int min2_int max_two min_two max_three min_three max_four min_four
set_option maxHeartbeats 8000000
set_option maxRecDepth 100000
set_option linter.unusedVariables false
set_option linter.unusedSimpArgs false
mutual
def impl_FreeTracks.j0 : Nat → List (S32) → List Int → Bool → Int → Int → Option (List Int × Bool)
 | 0, _, _, _, _, _ => none
 | k + 1, x0, x1, x38, x280000, x280001 => if x38 = true then (some (([] : List Int), false)) else (impl_FreeTracks.l0 k x0 x1 (([] : List Int)) 0 x280000 x280001)
def impl_FreeTracks.l0 : Nat → List (S32) → List Int → List Int → Int → Int → Int → Option (List Int × Bool)
 | 0, _, _, _, _, _, _ => none
 | k + 1, x0, x1, x8, x9, x280000, x280001 => (impl_greatest.f k x1).bind fun t287 => (if x9 ≤ t287 then (impl_FreeTracks.l1 k x0 x1 x8 x9 true x0 (x0.length : Int) 0 x280000 x280001) else (some (x8, true)))
def impl_FreeTracks.l1 : Nat → List (S32) → List Int → List Int → Int → Bool → List (S32) → Int → Int → Int → Int → Option (List Int × Bool)
 | 0, _, _, _, _, _, _, _, _, _, _ => none
 | k + 1, x0, x1, x8, x9, x10, x46, x47, x48, x280000, x280001 => if x48 < x47 then (if 0 ≤ x48 then (if x48 < (x46.length : Int) then (if x48 < (x1.length : Int) then (if (rd x1 x48) = x9 then ((impl_wiresMeet.f ((rd_T32 x46 x48).f0) ((rd_T32 x46 x48).f1) x280000 x280001).bind fun t291 => (if t291 = true then (impl_FreeTracks.l1 k x0 x1 x8 x9 false x46 x47 (wrap64 (x48 + 1)) x280000 x280001) else (impl_FreeTracks.l1 k x0 x1 x8 x9 x10 x46 x47 (wrap64 (x48 + 1)) x280000 x280001))) else (impl_FreeTracks.l1 k x0 x1 x8 x9 x10 x46 x47 (wrap64 (x48 + 1)) x280000 x280001)) else (none)) else (none)) else (none)) else (if x10 = true then (if x8.length < 17592186044416 then (impl_FreeTracks.l0 k x0 x1 (x8 ++ [x9]) (wrap64 (x9 + 1)) x280000 x280001) else (none)) else (impl_FreeTracks.l0 k x0 x1 x8 (wrap64 (x9 + 1)) x280000 x280001))
end
def impl_FreeTracks.f (k : Nat) (l0 : List (S32)) (l1 : List Int) (a2_0 : Int) (a2_1 : Int) : Option (List Int × Bool) := (impl_AreChannelWires.f k l0).bind fun t280 => (if t280 = true then ((impl_areTracks.f k l1).bind fun t281 => (if t281 = true then ((impl_isWire.f a2_0 a2_1).bind fun t282 => (if t282 = true then (if (l1.length : Int) = (l0.length : Int) then ((impl_isRouting.f k l0 l1).bind fun t283 => (impl_FreeTracks.j0 k l0 l1 (!t283) a2_0 a2_1)) else (impl_FreeTracks.j0 k l0 l1 true a2_0 a2_1)) else (impl_FreeTracks.j0 k l0 l1 true a2_0 a2_1))) else (impl_FreeTracks.j0 k l0 l1 true a2_0 a2_1))) else (impl_FreeTracks.j0 k l0 l1 true a2_0 a2_1))
theorem impl_FreeTracks.calls (k : Nat) (A0 : Option Addr) (c0 : Nat) (l0 : List (S32)) (A1 : Option Addr) (c1 : Nat) (l1 : List Int) (a2_0 : Int) (a2_1 : Int) (r1 : List Int) (r2 : Bool) (w : World) (hr0 : Kd.C k32 w A0 l0.length l0) (hc0 : l0.length ≤ c0) (hr1 : Kd.C (Kd.int .i64) w A1 l1.length l1) (hc1 : l1.length ≤ c1) (h : impl_FreeTracks.f k l0 l1 a2_0 a2_1 = some (r1, r2)) :
  Calls Try.prog 15 #[.slice A0 l0.length c0, .slice A1 l1.length c1, .agg #[.int .i64 a2_0, .int .i64 a2_1]] w fun e w' => ∃ v0_ : Value, e = .returned (.tuple #[v0_, .bool r2]) ∧ Kd.R (Kd.int .i64) 3 w' w.heap.size (fun _ => True) v0_ r1 ∧ Below w.heap.size w w' := by
 have hu32 := Try.underlying32
 have HR0 := aM hr0
 have HC0 := aM hc0
 clear hr0 hc0
 have HR1 := aM hr1
 have HC1 := aM hc1
 clear hr1 hc1
 have HB := aM (Below.refl w.heap.size w)
 have H : ((impl_AreChannelWires.f k l0).bind fun t280 => (if t280 = true then ((impl_areTracks.f k l1).bind fun t281 => (if t281 = true then ((impl_isWire.f a2_0 a2_1).bind fun t282 => (if t282 = true then (if (l1.length : Int) = (l0.length : Int) then ((impl_isRouting.f k l0 l1).bind fun t283 => (impl_FreeTracks.j0 k l0 l1 (!t283) a2_0 a2_1)) else (impl_FreeTracks.j0 k l0 l1 true a2_0 a2_1)) else (impl_FreeTracks.j0 k l0 l1 true a2_0 a2_1))) else (impl_FreeTracks.j0 k l0 l1 true a2_0 a2_1))) else (impl_FreeTracks.j0 k l0 l1 true a2_0 a2_1))) = some (r1, r2) := h
 clear h
 have HC4 := aM H
 clear H
 go_enter Try.func15, Try.ntmps15
 go_upto_region 1 with (first | ((with_reducible refine gate_dst (N := 5) rfl ?_); (try (refine gate_guard (by rfl) ?_; dsimp only)); refine box_event ?hg (N := 5) ?hd (cs := #[.int .i64 a2_0, .int .i64 a2_1]) (t := 32) ?hr ?_; (case hd => rfl); (case hg => rfl); (case hr => exact zf_); intro gb279 hg w5 hbox hb; have n_ := z (below_step za_ hb) <| z (hbox) <| z ((by rw [hg]; exact (below_size za_) : w.heap.size ≤ gb279)) <| z1 ((by rw [hg]; exact (below_size za_) : w.heap.size ≤ gb279)); clear HB; obtain ⟨HB, BK279, GW279, GE279⟩ := n_; clear hb hbox hg))
 (try simp only [Act.put, sI, s0, sS])
 go_cut [38] (fun v38 wc => ∃ (kq : Nat) (x38_3 : Bool), v38 = .bool x38_3 ∧ Aside0 (impl_FreeTracks.j0 kq l0 l1 x38_3 a2_0 a2_1 = some (r1, r2)) ∧ Aside0 (kq ≤ k) ∧ Aside0 (wc.heap[gb279]? = some (.cells #[.int .i64 a2_0, .int .i64 a2_1] 32 (0, 0))) ∧ Aside0 (Below w.heap.size w wc))
 case first =>
  have H := HC4.out
  clear HC4
  replace H := oB.mp H
  obtain ⟨t280, A60, H⟩ := H
  replace H : (if t280 = true then ((impl_areTracks.f k l1).bind fun t281 => (if t281 = true then ((impl_isWire.f a2_0 a2_1).bind fun t282 => (if t282 = true then (if (l1.length : Int) = (l0.length : Int) then ((impl_isRouting.f k l0 l1).bind fun t283 => (impl_FreeTracks.j0 k l0 l1 (!t283) a2_0 a2_1)) else (impl_FreeTracks.j0 k l0 l1 true a2_0 a2_1)) else (impl_FreeTracks.j0 k l0 l1 true a2_0 a2_1))) else (impl_FreeTracks.j0 k l0 l1 true a2_0 a2_1))) else (impl_FreeTracks.j0 k l0 l1 true a2_0 a2_1)) = some (r1, r2) := H
  have A6 := aM A60
  clear A60
  by_cases c7 : t280 = true
  ·subst c7
   have H1 : ((impl_areTracks.f k l1).bind fun t281 => (if t281 = true then ((impl_isWire.f a2_0 a2_1).bind fun t282 => (if t282 = true then (if (l1.length : Int) = (l0.length : Int) then ((impl_isRouting.f k l0 l1).bind fun t283 => (impl_FreeTracks.j0 k l0 l1 (!t283) a2_0 a2_1)) else (impl_FreeTracks.j0 k l0 l1 true a2_0 a2_1)) else (impl_FreeTracks.j0 k l0 l1 true a2_0 a2_1))) else (impl_FreeTracks.j0 k l0 l1 true a2_0 a2_1))) = some (r1, r2) := by rw [if_pos rfl] at H; exact H
   clear H
   have H := H1
   clear H1
   replace H := oB.mp H
   obtain ⟨t281, A80, H⟩ := H
   replace H : (if t281 = true then ((impl_isWire.f a2_0 a2_1).bind fun t282 => (if t282 = true then (if (l1.length : Int) = (l0.length : Int) then ((impl_isRouting.f k l0 l1).bind fun t283 => (impl_FreeTracks.j0 k l0 l1 (!t283) a2_0 a2_1)) else (impl_FreeTracks.j0 k l0 l1 true a2_0 a2_1)) else (impl_FreeTracks.j0 k l0 l1 true a2_0 a2_1))) else (impl_FreeTracks.j0 k l0 l1 true a2_0 a2_1)) = some (r1, r2) := H
   have A8 := aM A80
   clear A80
   by_cases c9 : t281 = true
   ·subst c9
    have H1 : ((impl_isWire.f a2_0 a2_1).bind fun t282 => (if t282 = true then (if (l1.length : Int) = (l0.length : Int) then ((impl_isRouting.f k l0 l1).bind fun t283 => (impl_FreeTracks.j0 k l0 l1 (!t283) a2_0 a2_1)) else (impl_FreeTracks.j0 k l0 l1 true a2_0 a2_1)) else (impl_FreeTracks.j0 k l0 l1 true a2_0 a2_1))) = some (r1, r2) := by rw [if_pos rfl] at H; exact H
    clear H
    have H := H1
    clear H1
    replace H := oB.mp H
    obtain ⟨t282, A100, H⟩ := H
    replace H : (if t282 = true then (if (l1.length : Int) = (l0.length : Int) then ((impl_isRouting.f k l0 l1).bind fun t283 => (impl_FreeTracks.j0 k l0 l1 (!t283) a2_0 a2_1)) else (impl_FreeTracks.j0 k l0 l1 true a2_0 a2_1)) else (impl_FreeTracks.j0 k l0 l1 true a2_0 a2_1)) = some (r1, r2) := H
    have A10 := aM A100
    clear A100
    by_cases c11 : t282 = true
    ·subst c11
     have H1 : (if (l1.length : Int) = (l0.length : Int) then ((impl_isRouting.f k l0 l1).bind fun t283 => (impl_FreeTracks.j0 k l0 l1 (!t283) a2_0 a2_1)) else (impl_FreeTracks.j0 k l0 l1 true a2_0 a2_1)) = some (r1, r2) := by rw [if_pos rfl] at H; exact H
     clear H
     have H := H1
     clear H1
     by_cases c12 : (l1.length : Int) = (l0.length : Int)
     ·rw [if_pos c12] at H
      have c12b0 : ((l1.length : Int) == (l0.length : Int)) = true := beq_iff_eq.mpr c12
      have c12b1 : ((l1.length : Int) != (l0.length : Int)) = false := bne_eq_false_iff_eq.mpr c12
      have c12b2 : (l1.length == l0.length) = true := by first | simpa using c12 | (simp at c12 ⊢; omega)
      clear c12
      (first | rw [c12b0] | (simp only [i64_w, i32_w]; rw [c12b0]) | skip)
      replace H := oB.mp H
      obtain ⟨t283, A130, H⟩ := H
      replace H : (impl_FreeTracks.j0 k l0 l1 (!t283) a2_0 a2_1) = some (r1, r2) := H
      have A13 := aM A130
      clear A130
      have H' := aM H
      clear H
      go_wp2_with (first | ((with_reducible refine gate_callee (f := 87) rfl ?_); refine goesL_ (some 14) rfl rfl Try.func87 (by kernel_rfl) rfl #[.slice A0 l0.length c0] rfl zd_ ?_; (with_reducible refine (impl_AreChannelWires.calls k _ _ l0 true _ ?side1 ?side2 A6.out).mono ?_); (case side1 => exact zbe_); (case side2 => exact HC0.out); rintro e w14 ⟨rfl, hb⟩; refine ⟨_, rfl, ?_⟩; have n_ := z (blk_below (g := gb279) (o := .cells #[.int .i64 a2_0, .int .i64 a2_1] 32 (0, 0)) (zb BK279.out) hb) <| z1 (below_step zba_ hb); clear BK279 HB; obtain ⟨BK279, HB⟩ := n_; (try clear hb)) | (go_at_call 101; (with_reducible refine (impl_areTracks.calls k _ _ l1 true _ ?side1 ?side2 A8.out).mono ?_); (case side1 => exact zbb_); (case side2 => exact HC1.out); rintro e w' ⟨rfl, ⟨nd, rfl⟩⟩; have hcz15_0 : w14.cell? ⟨gb279, 0, none⟩ = some (.int .i64 a2_0) := (blk_cell BK279.out 0).trans rfl; have hcz15_1 : w14.cell? ⟨gb279, 1, none⟩ = some (.int .i64 a2_1) := (blk_cell BK279.out 1).trans rfl; have hfz15_0 := blk_frozen BK279.out 0; have hfz15_1 := blk_frozen BK279.out 1) | (go_at_call 111; (with_reducible refine (impl_isWire.calls a2_0 a2_1 true _ A10.out).mono ?_); rintro e w16 ⟨rfl, hb⟩; have n_ := z (blk_below (g := gb279) (o := .cells #[.int .i64 a2_0, .int .i64 a2_1] 32 (0, 0)) (zb BK279.out) hb) <| z1 (below_step zba_ hb); clear BK279 HB; obtain ⟨BK279, HB⟩ := n_; (try clear hb)) | (go_at_call 102; (with_reducible refine (impl_isRouting.calls k _ _ l0 _ _ l1 t283 _ ?side1 ?side2 ?side3 ?side4 A13.out).mono ?_); (case side1 => exact zbe_); (case side2 => exact HC0.out); (case side3 => exact zbb_); (case side4 => exact HC1.out); rintro e w17 ⟨rfl, hb⟩; have n_ := z (blk_below (g := gb279) (o := .cells #[.int .i64 a2_0, .int .i64 a2_1] 32 (0, 0)) (zb BK279.out) hb) <| z1 (below_step zba_ hb); clear BK279 HB; obtain ⟨BK279, HB⟩ := n_; (try clear hb)))
      go_meet
      case rel => exact ⟨_, (!t283), zc_, H', ⟨zbg_⟩, ⟨zb BK279.out⟩, ⟨zba_⟩⟩
     ·rw [if_neg c12] at H
      have c12b0 : ((l1.length : Int) == (l0.length : Int)) = false := beq_eq_false_iff_ne.mpr c12
      have c12b1 : ((l1.length : Int) != (l0.length : Int)) = true := bne_iff_ne.mpr c12
      have c12b2 : (l1.length == l0.length) = false := by first | simpa using c12 | (simp at c12 ⊢; omega)
      (first | rw [c12b0] | (simp only [i64_w, i32_w]; rw [c12b0]) | skip)
      have H' := aM H
      clear H
      go_wp2_with (first | ((with_reducible refine gate_callee (f := 87) rfl ?_); refine goesL_ (some 14) rfl rfl Try.func87 (by kernel_rfl) rfl #[.slice A0 l0.length c0] rfl zd_ ?_; (with_reducible refine (impl_AreChannelWires.calls k _ _ l0 true _ ?side1 ?side2 A6.out).mono ?_); (case side1 => exact zbe_); (case side2 => exact HC0.out); rintro e w18 ⟨rfl, hb⟩; refine ⟨_, rfl, ?_⟩; have n_ := z (blk_below (g := gb279) (o := .cells #[.int .i64 a2_0, .int .i64 a2_1] 32 (0, 0)) (zb BK279.out) hb) <| z1 (below_step zba_ hb); clear BK279 HB; obtain ⟨BK279, HB⟩ := n_; (try clear hb)) | (go_at_call 101; (with_reducible refine (impl_areTracks.calls k _ _ l1 true _ ?side1 ?side2 A8.out).mono ?_); (case side1 => exact zbb_); (case side2 => exact HC1.out); rintro e w' ⟨rfl, ⟨nd, rfl⟩⟩; have hcz19_0 : w18.cell? ⟨gb279, 0, none⟩ = some (.int .i64 a2_0) := (blk_cell BK279.out 0).trans rfl; have hcz19_1 : w18.cell? ⟨gb279, 1, none⟩ = some (.int .i64 a2_1) := (blk_cell BK279.out 1).trans rfl; have hfz19_0 := blk_frozen BK279.out 0; have hfz19_1 := blk_frozen BK279.out 1) | (go_at_call 111; (with_reducible refine (impl_isWire.calls a2_0 a2_1 true _ A10.out).mono ?_); rintro e w20 ⟨rfl, hb⟩; have n_ := z (blk_below (g := gb279) (o := .cells #[.int .i64 a2_0, .int .i64 a2_1] 32 (0, 0)) (zb BK279.out) hb) <| z1 (below_step zba_ hb); clear BK279 HB; obtain ⟨BK279, HB⟩ := n_; (try clear hb)))
      go_meet
      case rel => exact ⟨_, (true), zc_, H', ⟨zbg_⟩, ⟨zb BK279.out⟩, ⟨zba_⟩⟩
    ·replace c11 := Bool.eq_false_iff.mpr c11
     subst c11
     have H1 : (impl_FreeTracks.j0 k l0 l1 true a2_0 a2_1) = some (r1, r2) := by rw [if_neg (show ¬ (false = true) by decide)] at H; exact H
     clear H
     have H := H1
     clear H1
     have H' := aM H
     clear H
     go_wp2_with (first | ((with_reducible refine gate_callee (f := 87) rfl ?_); refine goesL_ (some 14) rfl rfl Try.func87 (by kernel_rfl) rfl #[.slice A0 l0.length c0] rfl zd_ ?_; (with_reducible refine (impl_AreChannelWires.calls k _ _ l0 true _ ?side1 ?side2 A6.out).mono ?_); (case side1 => exact zbe_); (case side2 => exact HC0.out); rintro e w21 ⟨rfl, hb⟩; refine ⟨_, rfl, ?_⟩; have n_ := z (blk_below (g := gb279) (o := .cells #[.int .i64 a2_0, .int .i64 a2_1] 32 (0, 0)) (zb BK279.out) hb) <| z1 (below_step zba_ hb); clear BK279 HB; obtain ⟨BK279, HB⟩ := n_; (try clear hb)) | (go_at_call 101; (with_reducible refine (impl_areTracks.calls k _ _ l1 true _ ?side1 ?side2 A8.out).mono ?_); (case side1 => exact zbb_); (case side2 => exact HC1.out); rintro e w' ⟨rfl, ⟨nd, rfl⟩⟩; have hcz22_0 : w21.cell? ⟨gb279, 0, none⟩ = some (.int .i64 a2_0) := (blk_cell BK279.out 0).trans rfl; have hcz22_1 : w21.cell? ⟨gb279, 1, none⟩ = some (.int .i64 a2_1) := (blk_cell BK279.out 1).trans rfl; have hfz22_0 := blk_frozen BK279.out 0; have hfz22_1 := blk_frozen BK279.out 1) | (go_at_call 111; (with_reducible refine (impl_isWire.calls a2_0 a2_1 false _ A10.out).mono ?_); rintro e w23 ⟨rfl, hb⟩; have n_ := z (blk_below (g := gb279) (o := .cells #[.int .i64 a2_0, .int .i64 a2_1] 32 (0, 0)) (zb BK279.out) hb) <| z1 (below_step zba_ hb); clear BK279 HB; obtain ⟨BK279, HB⟩ := n_; (try clear hb)))
     go_meet
     case rel => exact ⟨_, (true), zc_, H', ⟨zbg_⟩, ⟨zb BK279.out⟩, ⟨zba_⟩⟩
   ·replace c9 := Bool.eq_false_iff.mpr c9
    subst c9
    have H1 : (impl_FreeTracks.j0 k l0 l1 true a2_0 a2_1) = some (r1, r2) := by rw [if_neg (show ¬ (false = true) by decide)] at H; exact H
    clear H
    have H := H1
    clear H1
    have H' := aM H
    clear H
    go_wp2_with (first | ((with_reducible refine gate_callee (f := 87) rfl ?_); refine goesL_ (some 14) rfl rfl Try.func87 (by kernel_rfl) rfl #[.slice A0 l0.length c0] rfl zd_ ?_; (with_reducible refine (impl_AreChannelWires.calls k _ _ l0 true _ ?side1 ?side2 A6.out).mono ?_); (case side1 => exact zbe_); (case side2 => exact HC0.out); rintro e w24 ⟨rfl, hb⟩; refine ⟨_, rfl, ?_⟩; have n_ := z (blk_below (g := gb279) (o := .cells #[.int .i64 a2_0, .int .i64 a2_1] 32 (0, 0)) (zb BK279.out) hb) <| z1 (below_step zba_ hb); clear BK279 HB; obtain ⟨BK279, HB⟩ := n_; (try clear hb)) | (go_at_call 101; (with_reducible refine (impl_areTracks.calls k _ _ l1 false _ ?side1 ?side2 A8.out).mono ?_); (case side1 => exact zbb_); (case side2 => exact HC1.out); rintro e w' ⟨rfl, ⟨nd, rfl⟩⟩))
    go_meet
    case rel => exact ⟨_, (true), zc_, H', ⟨zbg_⟩, ⟨zb BK279.out⟩, ⟨zba_⟩⟩
  ·replace c7 := Bool.eq_false_iff.mpr c7
   subst c7
   have H1 : (impl_FreeTracks.j0 k l0 l1 true a2_0 a2_1) = some (r1, r2) := by rw [if_neg (show ¬ (false = true) by decide)] at H; exact H
   clear H
   have H := H1
   clear H1
   have H' := aM H
   clear H
   go_wp2_with (first | ((with_reducible refine gate_callee (f := 87) rfl ?_); refine goesL_ (some 14) rfl rfl Try.func87 (by kernel_rfl) rfl #[.slice A0 l0.length c0] rfl zd_ ?_; (with_reducible refine (impl_AreChannelWires.calls k _ _ l0 false _ ?side1 ?side2 A6.out).mono ?_); (case side1 => exact zbe_); (case side2 => exact HC0.out); rintro e w25 ⟨rfl, hb⟩; refine ⟨_, rfl, ?_⟩; have n_ := z (blk_below (g := gb279) (o := .cells #[.int .i64 a2_0, .int .i64 a2_1] 32 (0, 0)) (zb BK279.out) hb) <| z1 (below_step zba_ hb); clear BK279 HB; obtain ⟨BK279, HB⟩ := n_; (try clear hb)))
   go_meet
   case rel => exact ⟨_, (true), zc_, H', ⟨zbg_⟩, ⟨zb BK279.out⟩, ⟨zba_⟩⟩
 case rest =>
  clear HC4
  try clear c1
  try clear p2
  try clear c7
  try clear c8
  try clear c9
  try clear c11
  try clear c12
  try clear c12b0
  try clear c12b1
  try clear c12b2
  try clear c15
  try clear hcz15_0
  try clear hcz15_1
  try clear hcz19_0
  try clear hcz19_1
  try clear hcz22_0
  try clear hcz22_1
  try clear hfz15_0
  try clear hfz15_1
  try clear hfz19_0
  try clear hfz19_1
  try clear hfz22_0
  try clear hfz22_1
  obtain ⟨kq, x38_3, rfl, HA, HJ3, BK279, HB⟩ := hcut
  cases kq with
  | zero => exact absurd HA.out (by simp [impl_FreeTracks.j0])
  | succ kj3 =>
   have H := HA.out
   clear HA
   simp only [impl_FreeTracks.j0] at H
   by_cases c26 : x38_3 = true
   ·subst c26
    have H1 : (some (([] : List Int), false)) = some (r1, r2) := by rw [if_pos rfl] at H; exact H
    clear H
    have H := H1
    clear H1
    simp only [Option.some.injEq, Prod.mk.injEq] at H
    obtain ⟨rfl, rfl⟩ := H
    go_wp2
    go_ret2
    exact ⟨_, zg_, zch_, zba_⟩
   ·replace c26 := Bool.eq_false_iff.mpr c26
    subst c26
    have H1 : (impl_FreeTracks.l0 kj3 l0 l1 (([] : List Int)) 0 a2_0 a2_1) = some (r1, r2) := by rw [if_neg (show ¬ (false = true) by decide)] at H; exact H
    clear H
    have H := H1
    clear H1
    obtain ⟨y284, hy284⟩ : ∃ y_ : List Int, y_ = (([] : List Int)) := ⟨_, rfl⟩
    replace H : (impl_FreeTracks.l0 kj3 l0 l1 y284 0 a2_0 a2_1) = some (r1, r2) := by first | (rw [hy284]; with_reducible exact H) | (have H2_ := (oS _ _).symm.trans H; rw [hy284]; with_reducible exact H2_) | (have H2_ := (oS _ _).symm.trans H; with_reducible exact H2_) | with_reducible exact H | (rw [hy284]; exact H) | exact H
    have Ny284 := aM hy284
    clear hy284
    have H' := aM H
    clear H
    go_wp2_with (first | ((with_reducible refine gate_dst (N := 39) rfl ?_); (try (refine gate_guard (by rfl) ?_; dsimp only)); refine Kd.R_lit (Kd.int .i64) _ 3 ?hg (N := 39) ?hd (xs := ([] : List Int)) (inner := []) (ok := fun _ => True) (okp := fun _ => True) ?hr ?hp (fun _ hk => hk) trivial (Below.refl _ _) (Nat.le_refl _) (by simp) ?_; (case hd => rfl); (case hg => rfl); (case hr => exact zf_); (case hp => exact (Reps.none _ _)); intro v285 w27 ho28 hb hg_ hnew_; clear hg_ hnew_; (first | rw [← Ny284.out] at ho28 | (simp only [Int.reduceToNat] at ho28; rw [← Ny284.out] at ho28)); have n_ := z (Kd.R_lower ho28 (below_size zba_)) <| z (blk_below (g := gb279) (o := .cells #[.int .i64 a2_0, .int .i64 a2_1] 32 (0, 0)) (zb BK279.out) hb) <| z1 (below_step zba_ hb); clear BK279 HB; obtain ⟨HO286, BK279, HB⟩ := n_; clear hb ho28))
    go_loopg [8, 9] kj3 (fun kq v8 v9 w' => ∃ (x8_2 : List Int) (x9_2 : Int), v9 = .int .i64 x9_2 ∧ Aside0 (impl_FreeTracks.l0 kq l0 l1 x8_2 x9_2 a2_0 a2_1 = some (r1, r2)) ∧ Aside0 (kq ≤ kj3) ∧ Aside0 (Kd.R (Kd.int .i64) 3 w' w.heap.size (fun _ => True) v8 x8_2) ∧ Aside0 (w'.heap[gb279]? = some (.cells #[.int .i64 a2_0, .int .i64 a2_1] 32 (0, 0))) ∧ Aside0 (Below w.heap.size w w'))
    case atStart => exact ⟨(y284), (0), zc_, H', ⟨Nat.le_refl _⟩, ⟨zr HO286.out⟩, ⟨zb BK279.out⟩, ⟨zba_⟩⟩
    case round =>
     clear H'
     try clear c1
     try clear c2
     try clear p2
     try clear c7
     try clear c8
     try clear c9
     try clear c11
     try clear c12
     try clear c12b0
     try clear c12b1
     try clear c12b2
     try clear c15
     try clear c26
     try clear hcz15_0
     try clear hcz15_1
     try clear hcz19_0
     try clear hcz19_1
     try clear hcz22_0
     try clear hcz22_1
     try clear hfz15_0
     try clear hfz15_1
     try clear hfz19_0
     try clear hfz19_1
     try clear hfz22_0
     try clear hfz22_1
     try clear p2
     obtain ⟨x8_2, x9_2, rfl, HA, HK2, HO_8, BK279, HB⟩ := hrel
     cases gk with
     | zero => exact absurd HA.out (by simp [impl_FreeTracks.l0])
     | succ k2 =>
      have H := HA.out
      clear HA
      simp only [impl_FreeTracks.l0] at H
      replace H := oB.mp H
      obtain ⟨t287, A290, H⟩ := H
      replace H : (if x9_2 ≤ t287 then (impl_FreeTracks.l1 k2 l0 l1 x8_2 x9_2 true l0 (l0.length : Int) 0 a2_0 a2_1) else (some (x8_2, true))) = some (r1, r2) := H
      have A29 := aM A290
      clear A290
      by_cases c30 : x9_2 ≤ t287
      ·rw [if_pos c30] at H
       have c30b0 : decide (x9_2 ≤ t287) = true := decide_eq_true c30
       clear c30
       have H' := aM H
       clear H
       go_wp2_with (first | ((with_reducible refine gate_callee (f := 105) rfl ?_); refine goesL_ (some 42) rfl rfl Try.func105 (by kernel_rfl) rfl #[.slice A1 l1.length c1] rfl zd_ ?_; (with_reducible refine (impl_greatest.calls k2 _ _ l1 t287 _ ?side1 ?side2 A29.out).mono ?_); (case side1 => exact zbb_); (case side2 => exact HC1.out); rintro e w31 ⟨rfl, hb⟩; refine ⟨_, rfl, ?_⟩; have n_ := z (Kd.R_below (zr HO_8.out) hb) <| z (blk_below (g := gb279) (o := .cells #[.int .i64 a2_0, .int .i64 a2_1] 32 (0, 0)) (zb BK279.out) hb) <| z1 (below_step zba_ hb); clear HO_8 BK279 HB; obtain ⟨HO_8, BK279, HB⟩ := n_; (try clear hb)))
       go_loopg [10, 48] k2 (fun kq v10 v48 w' => ∃ (x10_3 : Bool) (x48_3 : Int), v10 = .bool x10_3 ∧ v48 = .int .i64 x48_3 ∧ Aside0 (impl_FreeTracks.l1 kq l0 l1 x8_2 x9_2 x10_3 l0 (l0.length : Int) x48_3 a2_0 a2_1 = some (r1, r2)) ∧ Aside0 (kq ≤ k2) ∧ Aside0 (Kd.R (Kd.int .i64) 3 w' w.heap.size (fun _ => True) u8 x8_2) ∧ Aside0 (w'.heap[gb279]? = some (.cells #[.int .i64 a2_0, .int .i64 a2_1] 32 (0, 0))) ∧ Aside0 (Below w.heap.size w w'))
       case atStart => exact ⟨(true), (0), zc_, zc_, H', ⟨Nat.le_refl _⟩, ⟨zr HO_8.out⟩, ⟨zb BK279.out⟩, ⟨zba_⟩⟩
       case round =>
        clear H'
        try clear c1
        try clear c2
        try clear p2
        try clear c3
        try clear c7
        try clear c8
        try clear c9
        try clear c10
        try clear c11
        try clear c12
        try clear c12b0
        try clear c12b1
        try clear c12b2
        try clear c15
        try clear c26
        try clear c30
        try clear c30b0
        try clear hcz15_0
        try clear hcz15_1
        try clear hcz19_0
        try clear hcz19_1
        try clear hcz22_0
        try clear hcz22_1
        try clear hfz15_0
        try clear hfz15_1
        try clear hfz19_0
        try clear hfz19_1
        try clear hfz22_0
        try clear hfz22_1
        try clear p2
        obtain ⟨x10_3, x48_3, rfl, rfl, HA, HK3, HO_8, BK279, HB⟩ := hrel
        cases gk with
        | zero => exact absurd HA.out (by simp [impl_FreeTracks.l1])
        | succ k3 =>
         have H := HA.out
         clear HA
         simp only [impl_FreeTracks.l1] at H
         by_cases c32 : x48_3 < (l0.length : Int)
         ·rw [if_pos c32] at H
          have c32b0 : decide (x48_3 < (l0.length : Int)) = true := decide_eq_true c32
          clear c32
          by_cases c33 : 0 ≤ x48_3
          ·rw [if_pos c33] at H
           have c33b0 : decide (0 ≤ x48_3) = true := decide_eq_true c33
           clear c33
           by_cases c34 : x48_3 < (l0.length : Int)
           ·rw [if_pos c34] at H
            have c34b0 : decide (x48_3 < (l0.length : Int)) = true := decide_eq_true c34
            clear c34
            by_cases c35 : x48_3 < (l1.length : Int)
            ·rw [if_pos c35] at H
             have c35b0 : decide (x48_3 < (l1.length : Int)) = true := decide_eq_true c35
             clear c35
             by_cases c36 : (rd l1 x48_3) = x9_2
             ·rw [if_pos c36] at H
              have c36b0 : ((rd l1 x48_3) == x9_2) = true := beq_iff_eq.mpr c36
              have c36b1 : ((rd l1 x48_3) != x9_2) = false := bne_eq_false_iff_eq.mpr c36
              clear c36
              replace H := oB.mp H
              obtain ⟨t291, A370, H⟩ := H
              replace H : (if t291 = true then (impl_FreeTracks.l1 k3 l0 l1 x8_2 x9_2 false l0 (l0.length : Int) (wrap64 (x48_3 + 1)) a2_0 a2_1) else (impl_FreeTracks.l1 k3 l0 l1 x8_2 x9_2 x10_3 l0 (l0.length : Int) (wrap64 (x48_3 + 1)) a2_0 a2_1)) = some (r1, r2) := H
              have A37 := aM A370
              clear A370
              by_cases c38 : t291 = true
              ·subst c38
               have H1 : (impl_FreeTracks.l1 k3 l0 l1 x8_2 x9_2 false l0 (l0.length : Int) (wrap64 (x48_3 + 1)) a2_0 a2_1) = some (r1, r2) := by rw [if_pos rfl] at H; exact H
               clear H
               have H := H1
               clear H1
               have H' := aM H
               clear H
               have p288 : 0 ≤ (x48_3 : Int) := of_decide_eq_true zb_
               have q288 : x48_3 < (l0.length : Int) := of_decide_eq_true zb_
               obtain ⟨ad288, e288, hx288_0, hx288_1⟩ := at_T32 HR0.out x48_3 p288 q288
               cases e288
               (try (replace hx288_0 := (HB.out.cell (World.block_lt_of_cell? w _ hx288_0)).trans hx288_0))
               (try (replace hx288_1 := (HB.out.cell (World.block_lt_of_cell? w _ hx288_1)).trans hx288_1))
               replace p288 := eq_true p288
               replace q288 := eq_true q288
               go_wp2_with (first | ((with_reducible refine gate_dst (N := 12) rfl ?_); (try (refine gate_guard (by rfl) ?_; dsimp only)); refine box_event ?hg (N := 12) ?hd (cs := #[.int .i64 0, .int .i64 0]) (t := 32) ?hr ?_; (case hd => rfl); (case hg => rfl); (case hr => exact zf_); intro gb289 hg w39 hbox hb; have n_ := z (Kd.R_below (zr HO_8.out) hb) <| z (blk_below (g := gb279) (o := .cells #[.int .i64 a2_0, .int .i64 a2_1] 32 (0, 0)) (zb BK279.out) hb) <| z (below_step zba_ hb) <| z (hbox) <| z ((by rw [hg]; exact (below_size zba_) : w.heap.size ≤ gb289)) <| z ((by rw [hg]; exact (below_size zba_) : w.heap.size ≤ gb289)) <| z ((by rw [hg]; exact Nat.ne_of_lt (blk_lt (g := gb279) (o := .cells #[.int .i64 a2_0, .int .i64 a2_1] 32 (0, 0)) (zb BK279.out)) : gb279 ≠ gb289)) <| z1 ((by rw [hg]; exact Nat.ne_of_gt (blk_lt (g := gb279) (o := .cells #[.int .i64 a2_0, .int .i64 a2_1] 32 (0, 0)) (zb BK279.out)) : gb289 ≠ gb279)); clear HO_8 BK279 HB; obtain ⟨HO_8, BK279, HB, BK289, GW289, GE289, NB279_289, NB289_279⟩ := n_; clear hb hbox hg; have hnb40 := NB289_279.out; have hnc40 := NB279_289.out; have hcz41_0 : w39.cell? ⟨gb289, 0, none⟩ = some (.int .i64 0) := (blk_cell BK289.out 0).trans rfl; have hcz41_1 : w39.cell? ⟨gb289, 1, none⟩ = some (.int .i64 0) := (blk_cell BK289.out 1).trans rfl; have hfz41_0 := blk_frozen BK289.out 0; have hfz41_1 := blk_frozen BK289.out 1; have p290 : 0 ≤ (x48_3 : Int) := of_decide_eq_true zb_; have q290 : x48_3 < (l1.length : Int) := of_decide_eq_true zb_; obtain ⟨ad290, e290, hx290_0⟩ := Kd.at_int HR1.out x48_3 p290 q290; cases e290; have hn290_0 : ad290.block ≠ gb289 := Nat.ne_of_lt (Nat.lt_of_lt_of_le zed_ GW289.out); have hn290_1 : ad290.block ≠ gb289 := Nat.ne_of_lt (Nat.lt_of_lt_of_le zed_ GW289.out); replace hx290_0 := (HB.out.cell (World.block_lt_of_cell? w _ hx290_0)).trans hx290_0; replace hx290_0 := (cell_far (p := ⟨gb289, 0, none⟩) zgg_ (.int .i64 ((rd_T32 l0 x48_3).f0))).trans hx290_0; replace hx290_0 := (cell_far (p := ⟨gb289, 1, none⟩) zgh_ (.int .i64 ((rd_T32 l0 x48_3).f1))).trans hx290_0; clear hn290_0 hn290_1; replace p290 := eq_true p290; replace q290 := eq_true q290; have hcz42_0 : w39.cell? ⟨gb279, 0, none⟩ = some (.int .i64 a2_0) := (blk_cell BK279.out 0).trans rfl; have hcz42_1 : w39.cell? ⟨gb279, 1, none⟩ = some (.int .i64 a2_1) := (blk_cell BK279.out 1).trans rfl; have hfz42_0 := blk_frozen BK279.out 0; have hfz42_1 := blk_frozen BK279.out 1) | (go_at_call 112; (with_reducible refine (impl_wiresMeet.calls ((rd_T32 l0 x48_3).f0) ((rd_T32 l0 x48_3).f1) a2_0 a2_1 true _ A37.out).mono ?_); rintro e w43 ⟨rfl, hb⟩; have n_ := z (Kd.R_below (by refine zr ?_; exact (Kd.R_mono (Kd.R_far (p := ⟨gb289, 1, none⟩) (Kd.R_far (p := ⟨gb289, 0, none⟩) (Kd.R_types HO_8.out BK289.out (by decide)) (fun _ hk => hk.2) (.int .i64 ((rd_T32 l0 x48_3).f0))) (fun _ hk => hk.2) (.int .i64 ((rd_T32 l0 x48_3).f1))) (fun _ h_ => h_.1))) hb) <| z (blk_below (g := gb279) (o := .cells #[.int .i64 a2_0, .int .i64 a2_1] 32 (0, 0)) zgi_ hb) <| z (blk_below (g := gb289) (o := .cells #[.int .i64 ((rd_T32 l0 x48_3).f0), .int .i64 ((rd_T32 l0 x48_3).f1)] 32 (0, 0)) (by refine zb ?_; refine blk_put (cs := #[.int .i64 ((rd_T32 l0 x48_3).f0), .int .i64 0]) ?_ 1 _ rfl; refine zb ?_; refine blk_put (cs := #[.int .i64 0, .int .i64 0]) ?_ 0 _ rfl; refine zb ?_; exact BK289.out) hb) <| z1 (below_step zeh_ hb); clear HO_8 BK279 BK289 HB; obtain ⟨HO_8, BK279, BK289, HB⟩ := n_; (try clear hb); (try clear hk)))
               go_roundg k3
               case measure => have := HJ3.out; have := HK2.out; have := HK3.out; omega
               case rel => exact ⟨(false), (wrap64 (x48_3 + 1)), zc_, zc_, H', ⟨zcf_⟩, ⟨zr HO_8.out⟩, ⟨zb BK279.out⟩, ⟨zeh_⟩⟩
              ·replace c38 := Bool.eq_false_iff.mpr c38
               subst c38
               have H1 : (impl_FreeTracks.l1 k3 l0 l1 x8_2 x9_2 x10_3 l0 (l0.length : Int) (wrap64 (x48_3 + 1)) a2_0 a2_1) = some (r1, r2) := by rw [if_neg (show ¬ (false = true) by decide)] at H; exact H
               clear H
               have H := H1
               clear H1
               have H' := aM H
               clear H
               have p288 : 0 ≤ (x48_3 : Int) := of_decide_eq_true zb_
               have q288 : x48_3 < (l0.length : Int) := of_decide_eq_true zb_
               obtain ⟨ad288, e288, hx288_0, hx288_1⟩ := at_T32 HR0.out x48_3 p288 q288
               cases e288
               (try (replace hx288_0 := (HB.out.cell (World.block_lt_of_cell? w _ hx288_0)).trans hx288_0))
               (try (replace hx288_1 := (HB.out.cell (World.block_lt_of_cell? w _ hx288_1)).trans hx288_1))
               replace p288 := eq_true p288
               replace q288 := eq_true q288
               go_wp2_with (first | ((with_reducible refine gate_dst (N := 12) rfl ?_); (try (refine gate_guard (by rfl) ?_; dsimp only)); refine box_event ?hg (N := 12) ?hd (cs := #[.int .i64 0, .int .i64 0]) (t := 32) ?hr ?_; (case hd => rfl); (case hg => rfl); (case hr => exact zf_); intro gb289 hg w44 hbox hb; have n_ := z (Kd.R_below (zr HO_8.out) hb) <| z (blk_below (g := gb279) (o := .cells #[.int .i64 a2_0, .int .i64 a2_1] 32 (0, 0)) (zb BK279.out) hb) <| z (below_step zba_ hb) <| z (hbox) <| z ((by rw [hg]; exact (below_size zba_) : w.heap.size ≤ gb289)) <| z ((by rw [hg]; exact (below_size zba_) : w.heap.size ≤ gb289)) <| z ((by rw [hg]; exact Nat.ne_of_lt (blk_lt (g := gb279) (o := .cells #[.int .i64 a2_0, .int .i64 a2_1] 32 (0, 0)) (zb BK279.out)) : gb279 ≠ gb289)) <| z1 ((by rw [hg]; exact Nat.ne_of_gt (blk_lt (g := gb279) (o := .cells #[.int .i64 a2_0, .int .i64 a2_1] 32 (0, 0)) (zb BK279.out)) : gb289 ≠ gb279)); clear HO_8 BK279 HB; obtain ⟨HO_8, BK279, HB, BK289, GW289, GE289, NB279_289, NB289_279⟩ := n_; clear hb hbox hg; have hnb45 := NB289_279.out; have hnc45 := NB279_289.out; have hcz46_0 : w44.cell? ⟨gb289, 0, none⟩ = some (.int .i64 0) := (blk_cell BK289.out 0).trans rfl; have hcz46_1 : w44.cell? ⟨gb289, 1, none⟩ = some (.int .i64 0) := (blk_cell BK289.out 1).trans rfl; have hfz46_0 := blk_frozen BK289.out 0; have hfz46_1 := blk_frozen BK289.out 1; have p290 : 0 ≤ (x48_3 : Int) := of_decide_eq_true zb_; have q290 : x48_3 < (l1.length : Int) := of_decide_eq_true zb_; obtain ⟨ad290, e290, hx290_0⟩ := Kd.at_int HR1.out x48_3 p290 q290; cases e290; have hn290_0 : ad290.block ≠ gb289 := Nat.ne_of_lt (Nat.lt_of_lt_of_le zed_ GW289.out); have hn290_1 : ad290.block ≠ gb289 := Nat.ne_of_lt (Nat.lt_of_lt_of_le zed_ GW289.out); replace hx290_0 := (HB.out.cell (World.block_lt_of_cell? w _ hx290_0)).trans hx290_0; replace hx290_0 := (cell_far (p := ⟨gb289, 0, none⟩) zgg_ (.int .i64 ((rd_T32 l0 x48_3).f0))).trans hx290_0; replace hx290_0 := (cell_far (p := ⟨gb289, 1, none⟩) zgh_ (.int .i64 ((rd_T32 l0 x48_3).f1))).trans hx290_0; clear hn290_0 hn290_1; replace p290 := eq_true p290; replace q290 := eq_true q290; have hcz47_0 : w44.cell? ⟨gb279, 0, none⟩ = some (.int .i64 a2_0) := (blk_cell BK279.out 0).trans rfl; have hcz47_1 : w44.cell? ⟨gb279, 1, none⟩ = some (.int .i64 a2_1) := (blk_cell BK279.out 1).trans rfl; have hfz47_0 := blk_frozen BK279.out 0; have hfz47_1 := blk_frozen BK279.out 1) | (go_at_call 112; (with_reducible refine (impl_wiresMeet.calls ((rd_T32 l0 x48_3).f0) ((rd_T32 l0 x48_3).f1) a2_0 a2_1 false _ A37.out).mono ?_); rintro e w48 ⟨rfl, hb⟩; have n_ := z (Kd.R_below (by refine zr ?_; exact (Kd.R_mono (Kd.R_far (p := ⟨gb289, 1, none⟩) (Kd.R_far (p := ⟨gb289, 0, none⟩) (Kd.R_types HO_8.out BK289.out (by decide)) (fun _ hk => hk.2) (.int .i64 ((rd_T32 l0 x48_3).f0))) (fun _ hk => hk.2) (.int .i64 ((rd_T32 l0 x48_3).f1))) (fun _ h_ => h_.1))) hb) <| z (blk_below (g := gb279) (o := .cells #[.int .i64 a2_0, .int .i64 a2_1] 32 (0, 0)) zgi_ hb) <| z (blk_below (g := gb289) (o := .cells #[.int .i64 ((rd_T32 l0 x48_3).f0), .int .i64 ((rd_T32 l0 x48_3).f1)] 32 (0, 0)) (by refine zb ?_; refine blk_put (cs := #[.int .i64 ((rd_T32 l0 x48_3).f0), .int .i64 0]) ?_ 1 _ rfl; refine zb ?_; refine blk_put (cs := #[.int .i64 0, .int .i64 0]) ?_ 0 _ rfl; refine zb ?_; exact BK289.out) hb) <| z1 (below_step zeh_ hb); clear HO_8 BK279 BK289 HB; obtain ⟨HO_8, BK279, BK289, HB⟩ := n_; (try clear hb); (try clear hk)))
               go_roundg k3
               case measure => have := HJ3.out; have := HK2.out; have := HK3.out; omega
               case rel => exact ⟨(x10_3), (wrap64 (x48_3 + 1)), zc_, zc_, H', ⟨zcf_⟩, ⟨zr HO_8.out⟩, ⟨zb BK279.out⟩, ⟨zeh_⟩⟩
             ·rw [if_neg c36] at H
              have c36b0 : ((rd l1 x48_3) == x9_2) = false := beq_eq_false_iff_ne.mpr c36
              have c36b1 : ((rd l1 x48_3) != x9_2) = true := bne_iff_ne.mpr c36
              have H' := aM H
              clear H
              have p288 : 0 ≤ (x48_3 : Int) := of_decide_eq_true zb_
              have q288 : x48_3 < (l0.length : Int) := of_decide_eq_true zb_
              obtain ⟨ad288, e288, hx288_0, hx288_1⟩ := at_T32 HR0.out x48_3 p288 q288
              cases e288
              (try (replace hx288_0 := (HB.out.cell (World.block_lt_of_cell? w _ hx288_0)).trans hx288_0))
              (try (replace hx288_1 := (HB.out.cell (World.block_lt_of_cell? w _ hx288_1)).trans hx288_1))
              replace p288 := eq_true p288
              replace q288 := eq_true q288
              go_wp2_with (first | ((with_reducible refine gate_dst (N := 12) rfl ?_); (try (refine gate_guard (by rfl) ?_; dsimp only)); refine box_event ?hg (N := 12) ?hd (cs := #[.int .i64 0, .int .i64 0]) (t := 32) ?hr ?_; (case hd => rfl); (case hg => rfl); (case hr => exact zf_); intro gb289 hg w49 hbox hb; have n_ := z (Kd.R_below (zr HO_8.out) hb) <| z (blk_below (g := gb279) (o := .cells #[.int .i64 a2_0, .int .i64 a2_1] 32 (0, 0)) (zb BK279.out) hb) <| z (below_step zba_ hb) <| z (hbox) <| z ((by rw [hg]; exact (below_size zba_) : w.heap.size ≤ gb289)) <| z ((by rw [hg]; exact (below_size zba_) : w.heap.size ≤ gb289)) <| z ((by rw [hg]; exact Nat.ne_of_lt (blk_lt (g := gb279) (o := .cells #[.int .i64 a2_0, .int .i64 a2_1] 32 (0, 0)) (zb BK279.out)) : gb279 ≠ gb289)) <| z1 ((by rw [hg]; exact Nat.ne_of_gt (blk_lt (g := gb279) (o := .cells #[.int .i64 a2_0, .int .i64 a2_1] 32 (0, 0)) (zb BK279.out)) : gb289 ≠ gb279)); clear HO_8 BK279 HB; obtain ⟨HO_8, BK279, HB, BK289, GW289, GE289, NB279_289, NB289_279⟩ := n_; clear hb hbox hg; have hnb50 := NB289_279.out; have hnc50 := NB279_289.out; have hcz51_0 : w49.cell? ⟨gb289, 0, none⟩ = some (.int .i64 0) := (blk_cell BK289.out 0).trans rfl; have hcz51_1 : w49.cell? ⟨gb289, 1, none⟩ = some (.int .i64 0) := (blk_cell BK289.out 1).trans rfl; have hfz51_0 := blk_frozen BK289.out 0; have hfz51_1 := blk_frozen BK289.out 1; have p290 : 0 ≤ (x48_3 : Int) := of_decide_eq_true zb_; have q290 : x48_3 < (l1.length : Int) := of_decide_eq_true zb_; obtain ⟨ad290, e290, hx290_0⟩ := Kd.at_int HR1.out x48_3 p290 q290; cases e290; have hn290_0 : ad290.block ≠ gb289 := Nat.ne_of_lt (Nat.lt_of_lt_of_le zed_ GW289.out); have hn290_1 : ad290.block ≠ gb289 := Nat.ne_of_lt (Nat.lt_of_lt_of_le zed_ GW289.out); replace hx290_0 := (HB.out.cell (World.block_lt_of_cell? w _ hx290_0)).trans hx290_0; replace hx290_0 := (cell_far (p := ⟨gb289, 0, none⟩) zgg_ (.int .i64 ((rd_T32 l0 x48_3).f0))).trans hx290_0; replace hx290_0 := (cell_far (p := ⟨gb289, 1, none⟩) zgh_ (.int .i64 ((rd_T32 l0 x48_3).f1))).trans hx290_0; clear hn290_0 hn290_1; replace p290 := eq_true p290; replace q290 := eq_true q290))
              go_roundg k3
              case measure => have := HJ3.out; have := HK2.out; have := HK3.out; omega
              case rel => exact ⟨(x10_3), (wrap64 (x48_3 + 1)), zc_, zc_, H', ⟨zcf_⟩, ⟨by refine zr ?_; exact Kd.R_mono (Kd.R_far (p := ⟨gb289, 1, none⟩) (Kd.R_far (p := ⟨gb289, 0, none⟩) (Kd.R_types HO_8.out BK289.out (by decide)) (fun _ hk => hk.2) (.int .i64 ((rd_T32 l0 x48_3).f0))) (fun _ hk => hk.2) (.int .i64 ((rd_T32 l0 x48_3).f1))) (fun _ hk => trivial)⟩, ⟨zgi_⟩, ⟨zeh_⟩⟩
            ·rw [if_neg c35] at H
             exact absurd H (by simp)
           ·rw [if_neg c34] at H
            exact absurd H (by simp)
          ·rw [if_neg c33] at H
           exact absurd H (by simp)
         ·rw [if_neg c32] at H
          have c32b0 : decide (x48_3 < (l0.length : Int)) = false := decide_eq_false c32
          clear c32
          by_cases c52 : x10_3 = true
          ·subst c52
           have H1 : (if x8_2.length < 17592186044416 then (impl_FreeTracks.l0 k3 l0 l1 (x8_2 ++ [x9_2]) (wrap64 (x9_2 + 1)) a2_0 a2_1) else (none)) = some (r1, r2) := by rw [if_pos rfl] at H; exact H
           clear H
           have H := H1
           clear H1
           by_cases c53 : x8_2.length < 17592186044416
           ·rw [if_pos c53] at H
            have LMc53 := aM c53
            clear c53
            obtain ⟨y292, hy292⟩ : ∃ y_ : List Int, y_ = (x8_2 ++ [x9_2]) := ⟨_, rfl⟩
            replace H : (impl_FreeTracks.l0 k3 l0 l1 y292 (wrap64 (x9_2 + 1)) a2_0 a2_1) = some (r1, r2) := by first | (rw [hy292]; with_reducible exact H) | (have H2_ := (oS _ _).symm.trans H; rw [hy292]; with_reducible exact H2_) | (have H2_ := (oS _ _).symm.trans H; with_reducible exact H2_) | with_reducible exact H | (rw [hy292]; exact H) | exact H
            have Ny292 := aM hy292
            clear hy292
            have H' := aM H
            clear H
            go_wp2_with (first | ((with_reducible refine gate_builtin (b := .append) (xs := #[.tmp 66, .tmp 68]) rfl ?_); (try (refine gate_guard (by rfl) ?_; dsimp only)); at_builtin; refine Kd.R_append (Kd.int .i64) (w0 := w) w.heap.size rfl (.tmp 66) (.tmp 68) 24 3 (.int .i64 0) 8 rfl Try.underlying24 info3 rfl (by decide) (by omega) u8 x8_2 x9_2 [.int .i64 x9_2] (fun _ => True) (fun _ => False) rfl rfl ?aP (fun _ hk => hk.elim) ?aF ?aO ?aB ?aS ?aL ?_; (case aP => exact rfl); (case aB => exact zba_); (case aF => exact zcj_); (case aO => exact (zr HO_8.out)); (case aS => exact (below_size zba_)); (case aL => have := LMc53.out; omega); intro v293 w54 ho hb hg hat; rw [← Ny292.out] at ho; have n_ := z (blk_grown (g := gb279) (o := .cells #[.int .i64 a2_0, .int .i64 a2_1] 32 (0, 0)) (zb BK279.out) hg (Kd.R_ne HO_8.out BK279.out (by decide))) <| z (hb) <| z1 (ho); clear BK279 HB HO_8; obtain ⟨BK279, HB, HO294⟩ := n_; clear ho hb hg hat))
            go_roundg k3
            case measure => have := HJ3.out; have := HK2.out; have := HK3.out; omega
            case rel => exact ⟨(y292), (wrap64 (x9_2 + 1)), zc_, H', ⟨zcf_⟩, ⟨zr HO294.out⟩, ⟨zb BK279.out⟩, ⟨zba_⟩⟩
           ·rw [if_neg c53] at H
            exact absurd H (by simp)
          ·replace c52 := Bool.eq_false_iff.mpr c52
           subst c52
           have H1 : (impl_FreeTracks.l0 k3 l0 l1 x8_2 (wrap64 (x9_2 + 1)) a2_0 a2_1) = some (r1, r2) := by rw [if_neg (show ¬ (false = true) by decide)] at H; exact H
           clear H
           have H := H1
           clear H1
           have H' := aM H
           clear H
           go_wp2
           go_roundg k3
           case measure => have := HJ3.out; have := HK2.out; have := HK3.out; omega
           case rel => exact ⟨(x8_2), (wrap64 (x9_2 + 1)), zc_, H', ⟨zcf_⟩, ⟨zr HO_8.out⟩, ⟨zb BK279.out⟩, ⟨zba_⟩⟩
      ·rw [if_neg c30] at H
       have c30b0 : decide (x9_2 ≤ t287) = false := decide_eq_false c30
       clear c30
       simp only [Option.some.injEq, Prod.mk.injEq] at H
       obtain ⟨rfl, rfl⟩ := H
       go_wp2_with (first | ((with_reducible refine gate_callee (f := 105) rfl ?_); refine goesL_ (some 42) rfl rfl Try.func105 (by kernel_rfl) rfl #[.slice A1 l1.length c1] rfl zd_ ?_; (with_reducible refine (impl_greatest.calls k2 _ _ l1 t287 _ ?side1 ?side2 A29.out).mono ?_); (case side1 => exact zbb_); (case side2 => exact HC1.out); rintro e w55 ⟨rfl, hb⟩; refine ⟨_, rfl, ?_⟩; have n_ := z (Kd.R_below (zr HO_8.out) hb) <| z (blk_below (g := gb279) (o := .cells #[.int .i64 a2_0, .int .i64 a2_1] 32 (0, 0)) (zb BK279.out) hb) <| z1 (below_step zba_ hb); clear HO_8 BK279 HB; obtain ⟨HO_8, BK279, HB⟩ := n_; (try clear hb)))
       go_ret2
       exact ⟨_, zg_, by refine zr ?_; exact HO_8.out, zba_⟩
end Go.Proofs.Ytbkighlfgaifeaa.QFnTracks
