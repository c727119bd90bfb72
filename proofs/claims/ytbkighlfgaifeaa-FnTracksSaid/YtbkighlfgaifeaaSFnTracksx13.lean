/- Functions of the law FnTracks, each as a Lean function, and the proofs that the Go code comes to their answers. Made by wip/gen/slim.py. Conditions: those of each theorem. -/
import Derived.Test.YtbkighlfgaifeaaSFnTracksx0
import Derived.Test.YtbkighlfgaifeaaSFnTracksx1
import Derived.Test.YtbkighlfgaifeaaSFnTracksx5
import Derived.Test.YtbkighlfgaifeaaSFnTracksx7
import Derived.Test.YtbkighlfgaifeaaSFnTracksx10
namespace Go.Proofs.Ytbkighlfgaifeaa.QFnTracks
open Go.RowKit Go.Proofs.YtbkighlfgaifeaaW.PrintWords Go.Proofs.YtbkighlfgaifeaaW.PrintLast Go.Proofs.YtbkighlfgaifeaaW.PrintMore
open Go.Proofs.YtbkighlfgaifeaaW.PrintWords renaming pw_below_drewN → pN, below_drew1 → p1, below_alloc → pA
open Go.Proofs.YtbkighlfgaifeaaW.PrintWords.Kd renaming R_alloc → kA, R_drewN → kN, R_drew → kD, Q_alloc → qA, Q_drewN → qN, Q_drew → qD, C_alloc → cA, C_drewN → cN, C_drew → cD
open Go.Proofs.YtbkighlfgaifeaaW.PrintWords.Aside0 renaming mk → aM
open List renaming setIfInBounds_toArray → sI, set_cons_zero → s0, set_cons_succ → sS, map_toArray → mT, length_take → lT, length_drop → lD, map_cons → mC, map_nil → mN
open Option renaming bind_eq_some_iff → oB, bind_some → oS
attribute [local go_sem] max2_int min2_int max_two min_two max_three min_three max_four min_four
set_option maxHeartbeats 8000000
set_option maxRecDepth 100000
set_option linter.unusedVariables false
set_option linter.unusedSimpArgs false
mutual
def spec_LayersOf.j0 : Nat → List Int → Int → Bool → Option (List Int × Int × Bool)
 | 0, _, _, _ => none
 | k + 1, x0, x1, x17 => if x17 = true then (some (([] : List Int), 0, false)) else (spec_LayersOf.l0 k x1 ([] : List Int) x0 (x0.length : Int) 0)
def spec_LayersOf.l0 : Nat → Int → List Int → List Int → Int → Int → Option (List Int × Int × Bool)
 | 0, _, _, _, _, _ => none
 | k + 1, x1, x7, x18, x19, x20 => if x20 < x19 then (if 0 ≤ x20 then (if x20 < (x18.length : Int) then (if x1 = 0 then (none) else (if x7.length < 17592186044416 then (spec_LayersOf.l0 k x1 (x7 ++ [wrap64 (Int.tdiv (rd x18 x20) x1)]) x18 x19 (wrap64 (x20 + 1))) else (none))) else (none)) else (none)) else ((spec_rtTop.f k x7).bind fun t343 => (some (x7, t343, true)))
end
def spec_LayersOf.f (k : Nat) (l0 : List Int) (a1 : Int) : Option (List Int × Int × Bool) := (spec_rtTracks.f k l0).bind fun t337 => (if t337 = true then ((spec_l1In.f a1 1 20).bind fun t338 => (spec_LayersOf.j0 k l0 a1 (!t338))) else (spec_LayersOf.j0 k l0 a1 true))
theorem spec_LayersOf.calls (k : Nat) (A0 : Option Addr) (c0 : Nat) (l0 : List Int) (a1 : Int) (r1 : List Int) (r2 : Int) (r3 : Bool) (w : World) (hr0 : Kd.C (Kd.int .i64) w A0 l0.length l0) (hc0 : l0.length ≤ c0) (h : spec_LayersOf.f k l0 a1 = some (r1, r2, r3)) :
  Calls Try.prog 19 #[.slice A0 l0.length c0, .int .i64 a1] w fun e w' => ∃ v0_ : Value, e = .returned (.tuple #[v0_, .int .i64 r2, .bool r3]) ∧ Kd.R (Kd.int .i64) 3 w' w.heap.size (fun _ => True) v0_ r1 ∧ Below w.heap.size w w' := by
 have HR0 := aM hr0
 have HC0 := aM hc0
 clear hr0 hc0
 have HB := aM (Below.refl w.heap.size w)
 have H : ((spec_rtTracks.f k l0).bind fun t337 => (if t337 = true then ((spec_l1In.f a1 1 20).bind fun t338 => (spec_LayersOf.j0 k l0 a1 (!t338))) else (spec_LayersOf.j0 k l0 a1 true))) = some (r1, r2, r3) := h
 clear h
 have HC3 := aM H
 clear H
 go_enter Try.func19, Try.ntmps19
 go_upto_region 1 with (fail)
 go_cut [17] (fun v17 wc => ∃ (kq : Nat) (x17_2 : Bool), v17 = .bool x17_2 ∧ Aside0 (spec_LayersOf.j0 kq l0 a1 x17_2 = some (r1, r2, r3)) ∧ Aside0 (kq ≤ k) ∧ Aside0 (Below w.heap.size w wc))
 case first =>
  have H := HC3.out
  clear HC3
  replace H := oB.mp H
  obtain ⟨t337, A40, H⟩ := H
  replace H : (if t337 = true then ((spec_l1In.f a1 1 20).bind fun t338 => (spec_LayersOf.j0 k l0 a1 (!t338))) else (spec_LayersOf.j0 k l0 a1 true)) = some (r1, r2, r3) := H
  have A4 := aM A40
  clear A40
  by_cases c5 : t337 = true
  ·subst c5
   have H1 : ((spec_l1In.f a1 1 20).bind fun t338 => (spec_LayersOf.j0 k l0 a1 (!t338))) = some (r1, r2, r3) := by rw [if_pos rfl] at H; exact H
   clear H
   have H := H1
   clear H1
   replace H := oB.mp H
   obtain ⟨t338, A60, H⟩ := H
   replace H : (spec_LayersOf.j0 k l0 a1 (!t338)) = some (r1, r2, r3) := H
   have A6 := aM A60
   clear A60
   have H' := aM H
   clear H
   go_wp2_with (first | ((with_reducible refine gate_callee (f := 115) rfl ?_); refine goesL_ (some 11) rfl rfl Try.func115 (by kernel_rfl) rfl #[.slice A0 l0.length c0] rfl zd_ ?_; (with_reducible refine (spec_rtTracks.calls k _ _ l0 true _ ?side1 ?side2 A4.out).mono ?_); (case side1 => exact zbe_); (case side2 => exact HC0.out); rintro e w' ⟨rfl, ⟨nd, rfl⟩⟩; refine ⟨_, rfl, ?_⟩) | (go_at_call 108; (with_reducible refine (spec_l1In.calls a1 1 20 t338 _ A6.out).mono ?_); rintro e w' ⟨rfl, ⟨nd, rfl⟩⟩))
   go_meet
   case rel => exact ⟨_, (!t338), zc_, H', ⟨zbg_⟩, ⟨za_⟩⟩
  ·replace c5 := Bool.eq_false_iff.mpr c5
   subst c5
   have H1 : (spec_LayersOf.j0 k l0 a1 true) = some (r1, r2, r3) := by rw [if_neg (show ¬ (false = true) by decide)] at H; exact H
   clear H
   have H := H1
   clear H1
   have H' := aM H
   clear H
   go_wp2_with (first | ((with_reducible refine gate_callee (f := 115) rfl ?_); refine goesL_ (some 11) rfl rfl Try.func115 (by kernel_rfl) rfl #[.slice A0 l0.length c0] rfl zd_ ?_; (with_reducible refine (spec_rtTracks.calls k _ _ l0 false _ ?side1 ?side2 A4.out).mono ?_); (case side1 => exact zbe_); (case side2 => exact HC0.out); rintro e w' ⟨rfl, ⟨nd, rfl⟩⟩; refine ⟨_, rfl, ?_⟩))
   go_meet
   case rel => exact ⟨_, (true), zc_, H', ⟨zbg_⟩, ⟨za_⟩⟩
 case rest =>
  clear HC3
  try clear c1
  try clear p2
  try clear c5
  obtain ⟨kq, x17_2, rfl, HA, HJ2, HB⟩ := hcut
  cases kq with
  | zero => exact absurd HA.out (by simp [spec_LayersOf.j0])
  | succ kj2 =>
   have H := HA.out
   clear HA
   simp only [spec_LayersOf.j0] at H
   by_cases c7 : x17_2 = true
   ·subst c7
    have H1 : (some (([] : List Int), 0, false)) = some (r1, r2, r3) := by rw [if_pos rfl] at H; exact H
    clear H
    have H := H1
    clear H1
    simp only [Option.some.injEq, Prod.mk.injEq] at H
    obtain ⟨rfl, rfl, rfl⟩ := H
    go_wp2
    go_ret3
    exact ⟨_, zg_, zch_, za_⟩
   ·replace c7 := Bool.eq_false_iff.mpr c7
    subst c7
    have H1 : (spec_LayersOf.l0 kj2 a1 ([] : List Int) l0 (l0.length : Int) 0) = some (r1, r2, r3) := by rw [if_neg (show ¬ (false = true) by decide)] at H; exact H
    clear H
    have H := H1
    clear H1
    have H' := aM H
    clear H
    go_wp2
    go_loopg [7, 20] kj2 (fun kq v7 v20 w' => ∃ (x7_2 : List Int) (x20_2 : Int), v20 = .int .i64 x20_2 ∧ Aside0 (spec_LayersOf.l0 kq a1 x7_2 l0 (l0.length : Int) x20_2 = some (r1, r2, r3)) ∧ Aside0 (kq ≤ kj2) ∧ Aside0 (Kd.R (Kd.int .i64) 3 w' w.heap.size (fun _ => True) v7 x7_2) ∧ Aside0 (Below w.heap.size w w'))
    case atStart => exact ⟨(([] : List Int)), (0), zc_, H', ⟨Nat.le_refl _⟩, ⟨zch_⟩, ⟨za_⟩⟩
    case round =>
     clear H'
     try clear c1
     try clear p2
     try clear c5
     try clear c7
     try clear p2
     obtain ⟨x7_2, x20_2, rfl, HA, HK2, HO_7, HB⟩ := hrel
     cases gk with
     | zero => exact absurd HA.out (by simp [spec_LayersOf.l0])
     | succ k2 =>
      have H := HA.out
      clear HA
      simp only [spec_LayersOf.l0] at H
      by_cases c8 : x20_2 < (l0.length : Int)
      ·rw [if_pos c8] at H
       have c8b0 : decide (x20_2 < (l0.length : Int)) = true := decide_eq_true c8
       clear c8
       by_cases c9 : 0 ≤ x20_2
       ·rw [if_pos c9] at H
        have c9b0 : decide (0 ≤ x20_2) = true := decide_eq_true c9
        clear c9
        by_cases c10 : x20_2 < (l0.length : Int)
        ·rw [if_pos c10] at H
         have c10b0 : decide (x20_2 < (l0.length : Int)) = true := decide_eq_true c10
         clear c10
         by_cases c11 : a1 = 0
         ·rw [if_pos c11] at H
          exact absurd H (by simp)
         ·rw [if_neg c11] at H
          have c11b0 : (a1 == 0) = false := beq_eq_false_iff_ne.mpr c11
          have c11b1 : (a1 != 0) = true := bne_iff_ne.mpr c11
          by_cases c12 : x7_2.length < 17592186044416
          ·rw [if_pos c12] at H
           have LMc12 := aM c12
           clear c12
           obtain ⟨y340, hy340⟩ : ∃ y_ : List Int, y_ = (x7_2 ++ [wrap64 (Int.tdiv (rd l0 x20_2) a1)]) := ⟨_, rfl⟩
           replace H : (spec_LayersOf.l0 k2 a1 y340 l0 (l0.length : Int) (wrap64 (x20_2 + 1))) = some (r1, r2, r3) := by first | (rw [hy340]; with_reducible exact H) | (have H2_ := (oS _ _).symm.trans H; rw [hy340]; with_reducible exact H2_) | (have H2_ := (oS _ _).symm.trans H; with_reducible exact H2_) | with_reducible exact H | (rw [hy340]; exact H) | exact H
           have Ny340 := aM hy340
           clear hy340
           have H' := aM H
           clear H
           have p339 : 0 ≤ (x20_2 : Int) := of_decide_eq_true zb_
           have q339 : x20_2 < (l0.length : Int) := of_decide_eq_true zb_
           obtain ⟨ad339, e339, hx339_0⟩ := Kd.at_int HR0.out x20_2 p339 q339
           cases e339
           (try (replace hx339_0 := (HB.out.cell (World.block_lt_of_cell? w _ hx339_0)).trans hx339_0))
           replace p339 := eq_true p339
           replace q339 := eq_true q339
           go_wp2_with (first | ((with_reducible refine gate_builtin (b := .append) (xs := #[.tmp 24, .tmp 28]) rfl ?_); at_builtin; refine Kd.R_append (Kd.int .i64) (w0 := w) w.heap.size rfl (.tmp 24) (.tmp 28) 24 3 (.int .i64 0) 8 rfl Try.underlying24 info3 rfl (by decide) (by omega) u7 x7_2 (wrap64 (Int.tdiv (rd l0 x20_2) a1)) [.int .i64 (wrap64 (Int.tdiv (rd l0 x20_2) a1))] (fun _ => True) (fun _ => False) rfl rfl ?aP (fun _ hk => hk.elim) ?aF ?aO ?aB ?aS ?aL ?_; (case aP => exact rfl); (case aB => exact zcd_); (case aF => exact zcj_); (case aO => exact (zr HO_7.out)); (case aS => exact zce_); (case aL => have := LMc12.out; omega); intro v341 w13 ho hb hg hat; rw [← Ny340.out] at ho; have n_ := z (hb) <| z1 (ho); clear HB HO_7; obtain ⟨HB, HO342⟩ := n_; clear ho hb hg hat))
           go_roundg k2
           case measure => have := HJ2.out; have := HK2.out; omega
           case rel => exact ⟨(y340), (wrap64 (x20_2 + 1)), zc_, H', ⟨by have := HJ2.out; have := HK2.out; omega⟩, ⟨zr HO342.out⟩, ⟨za_⟩⟩
          ·rw [if_neg c12] at H
           exact absurd H (by simp)
        ·rw [if_neg c10] at H
         exact absurd H (by simp)
       ·rw [if_neg c9] at H
        exact absurd H (by simp)
      ·rw [if_neg c8] at H
       have c8b0 : decide (x20_2 < (l0.length : Int)) = false := decide_eq_false c8
       clear c8
       replace H := oB.mp H
       obtain ⟨t343, A140, H⟩ := H
       replace H : (some (x7_2, t343, true)) = some (r1, r2, r3) := H
       have A14 := aM A140
       clear A140
       simp only [Option.some.injEq, Prod.mk.injEq] at H
       obtain ⟨rfl, rfl, rfl⟩ := H
       obtain ⟨Ao15, co15, eo15⟩ := Kd.R_slice HO_7.out
       subst eo15
       go_wp2_with (first | ((with_reducible refine gate_callee (f := 107) rfl ?_); refine goesL_ (some 33) rfl rfl Try.func107 (by kernel_rfl) rfl #[.slice Ao15 x7_2.length co15] rfl zd_ ?_; (with_reducible refine (spec_rtTop.calls k2 _ _ x7_2 t343 _ ?side1 ?side2 A14.out).mono ?_); (case side1 => repeat (first | exact (Kd.R_reads' HO_7.out).2.2 | (with_reducible refine cA ?_ _) | (with_reducible refine cN ?_ _) | (with_reducible refine cD ?_))); (case side2 => exact (Kd.R_reads' HO_7.out).2.1); rintro e w' ⟨rfl, ⟨nd, rfl⟩⟩; refine ⟨_, rfl, ?_⟩))
       go_ret3
       exact ⟨_, zg_, by refine zr ?_; exact HO_7.out, za_⟩
def spec_DrawTracksUsed.f (k : Nat) (l0 : List Int) : Option (List Int) := (spec_DrawIsRouting.f k l0).bind fun bt344 => (some bt344.2)
theorem spec_DrawTracksUsed.calls (k : Nat) (A0 : Option Addr) (c0 : Nat) (l0 : List Int) (r : List Int) (w : World) (hr0 : Kd.C (Kd.int .u8) w A0 l0.length l0) (hc0 : l0.length ≤ c0) (h : spec_DrawTracksUsed.f k l0 = some r) :
  Calls Try.prog 20 #[.slice A0 l0.length c0] w fun e w' => ∃ v0_ : Value, e = .returned (v0_) ∧ Kd.Q (Kd.int .i64) 3 w' w.heap.size (fun _ => True) v0_ r ∧ Below w.heap.size w w' := by
 have HR0 := aM hr0
 have HC0 := aM hc0
 clear hr0 hc0
 have HB := aM (Below.refl w.heap.size w)
 have H : ((spec_DrawIsRouting.f k l0).bind fun bt344 => (some bt344.2)) = some r := h
 clear h
 replace H := oB.mp H
 obtain ⟨⟨t344, t345⟩, A20, H⟩ := H
 replace H : (some t345) = some r := H
 have A2 := aM A20
 clear A20
 obtain rfl := Option.some.inj H
 go_enter Try.func20, Try.ntmps20
 go_wp2_with (first | ((with_reducible refine gate_callee (f := 9) rfl ?_); refine goesL_ (some 7) rfl rfl Try.func9 (by kernel_rfl) rfl #[.slice A0 l0.length c0] rfl zd_ ?_; (with_reducible refine (spec_DrawIsRouting.calls k _ _ l0 t344 t345 _ ?side1 ?side2 A2.out).mono ?_); (case side1 => exact zbh_); (case side2 => exact HC0.out); rintro e w3 ⟨v346, v348, rfl, ho0, ho1, hb⟩; refine ⟨_, rfl, ?_⟩; have n_ := z (Kd.R_lower ho0 (below_size za_)) <| z (Kd.Q_lower ho1 (below_size za_)) <| z1 (below_step za_ hb); clear HB; obtain ⟨HO347, HO349, HB⟩ := n_; (try clear hb); (try clear ho0); (try clear ho1)))
 go_ret
 exact ⟨_, zg_, by refine zq ?_; exact HO349.out, za_⟩
theorem tu_keyed : Go.Maps.Keyed Try.prog 3 := Go.Maps.int_keyed Try.underlying3
def tu_keys (l : List Int) (j : Nat) : List Lit := (l.take j).map (Lit.int .i64)
def tu_set {H : Type} (l : List Int) (j : Nat) : DataW H := Go.Maps.setOf (.lit (.bool true)) (tu_keys l j)
theorem tu_succ {H : Type} (l : List Int) (j : Nat) (hj : j < l.length) : tu_set (H := H) l (j + 1) = (tu_set l j).put (.int .i64 (rd l j)) (.lit (.bool true)) := by
 unfold tu_set tu_keys rd
 rw [List.take_add_one, List.map_append]
 simp [List.getD, List.getElem?_eq_getElem hj, Go.Maps.setOf_snoc]
theorem tu_zero {H : Type} (l : List Int) : tu_set (H := H) l 0 = .map [] := by simp [tu_set, tu_keys, Go.Maps.setOf]
def impl_TracksUsed.n (l0 : List Int) : Nat := ((l0.map (Lit.int .i64)).foldl Go.Maps.addKey []).length
theorem tu_isKey (l : List Int) : ∀ x ∈ l.map (Lit.int .i64), Go.WideAt.IsKeyLit x := by
 intro x hx
 obtain ⟨y, _, rfl⟩ := List.mem_map.1 hx
 first | trivial | simp [Go.WideAt.IsKeyLit]
theorem tu_size (l : List Int) : Go.Maps.size (tu_set (H := Unit) l l.length) = impl_TracksUsed.n l := by
 unfold tu_set tu_keys impl_TracksUsed.n
 rw [List.take_length]
 exact Go.Maps.size_setOf _ _ (tu_isKey l)
def impl_TracksUsed.ok (l0 : List Int) : Bool := l0.all (fun x => decide (0 ≤ x) && decide (x ≤ 100))
theorem tu_ok {l0 : List Int} (h : impl_TracksUsed.ok l0 = true) (j : Nat) : 0 ≤ rd l0 j ∧ rd l0 j ≤ 100 := by
 unfold impl_TracksUsed.ok at h
 rw [List.all_eq_true] at h
 unfold rd
 by_cases hj : j < l0.length
 ·have := h _ (List.getElem_mem hj)
  simp [List.getD, List.getElem?_eq_getElem hj] at this ⊢
  exact this
 ·simp [List.getD, List.getElem?_eq_none (by omega : l0.length ≤ j)]
def impl_TracksUsed.f (k : Nat) (l0 : List Int) : Option (Int × Bool) := (impl_areTracks.f k l0).bind fun t => (if t = true then (if impl_TracksUsed.ok l0 = true then some ((impl_TracksUsed.n l0 : Int), true) else none) else some (0, false))
set_option maxHeartbeats 4000000 in
set_option maxRecDepth 100000 in
theorem impl_TracksUsed.calls (k : Nat) (A0 : Option Addr) (c0 : Nat) (l0 : List Int) (r1 : Int) (r2 : Bool) (w : World) (hr0 : Kd.C (Kd.int .i64) w A0 l0.length l0) (hc0 : l0.length ≤ c0) (h : impl_TracksUsed.f k l0 = some (r1, r2)) :
  Calls Try.prog 21 #[.slice A0 l0.length c0] w fun e w' => e = .returned (.tuple #[.int .i64 r1, .bool r2]) ∧ Below w.heap.size w w' := by
 have HR0 := aM hr0
 have HC0 := aM hc0
 have hmax := Kd.C_max hr0
 clear hr0 hc0
 unfold impl_TracksUsed.f at h
 obtain ⟨t, hA, h1⟩ := oB.mp h
 clear h
 have HA := aM hA
 clear hA
 have hmm := @run_makeMap Try.prog
 cases t with
 | false =>
  have h2 : (0, false) = (r1, r2) := Option.some.inj h1
  clear h1
  injection h2 with e1 e2
  subst e1
  subst e2
  go_enter Try.func21, Try.ntmps21
  go_wp2_with (go_at_call 101; (with_reducible refine (impl_areTracks.calls k _ _ l0 false _ HR0.out HC0.out HA.out).mono ?_); rintro e w1 ⟨rfl, hd⟩; have HD := aM hd.below; clear hd)
  go_ret2
  exact ⟨rfl, HD.out⟩
 | true =>
  by_cases hok : impl_TracksUsed.ok l0 = true
  ·have h2 : ((impl_TracksUsed.n l0 : Int), true) = (r1, r2) := by
    have h3 : (if impl_TracksUsed.ok l0 = true then some ((impl_TracksUsed.n l0 : Int), true) else none) = some (r1, r2) := h1
    rw [if_pos hok] at h3
    exact Option.some.inj h3
   clear h1
   injection h2 with e1 e2
   subst e1
   subst e2
   have HK := aM hok
   clear hok
   go_enter Try.func21, Try.ntmps21
   go_wp2_with (go_at_call 101; (with_reducible refine (impl_areTracks.calls k _ _ l0 true _ HR0.out HC0.out HA.out).mono ?_); rintro e w1 ⟨rfl, hd⟩; have HD := aM hd.below; clear hd)
   have HR1 := aM (Kd.C_below HR0.out HD.out)
   go_loopw [13] (fun i wr => ∃ j : Nat, j ≤ l0.length ∧ i = .int .i64 j ∧ Aside0 (wr.ownsMap Try.prog 3 (Go.plainElem Try.prog 4) w1.heap.size j (tu_set (H := Unit) l0 j)) ∧ Aside0 (Below w1.heap.size w1 wr))
    (fun i _ => l0.length - (intOf i).toNat)
   case atStart => exact ⟨0, Nat.zero_le _, rfl, ⟨by rw [tu_zero]; exact World.ownsMap_made _ _ _ _⟩, ⟨(Below.refl _ _).alloc (Nat.le_refl _) _⟩⟩
   case round =>
    obtain ⟨j, hj, rfl, hown, hnx⟩ := hrel
    by_cases hlt : j < l0.length
    ·obtain ⟨ad, ead, hcell⟩ := Kd.at_int HR1.out (j : Int) (by omega) (by omega)
     subst ead
     have hcx : wr.cell? (ad.add j) = some (.int .i64 (rd l0 j)) := by
      have h5 := pw_cell_below hnx.out hcell
      simpa using h5
     clear hcell
     have hb := tu_ok HK.out j
     have hkey : keyOf Try.prog 3 (.int .i64 (rd l0 j)) = some (.int .i64 (rd l0 j)) := Go.Maps.keyOf_int_mk Try.underlying3 (WalkArith.wf_i64 (by omega))
     have HKEY := aM hkey
     clear hkey hb
     go_wp2_with (at_mapUpdate; refine Go.wpList_mapUpdate_own _ rfl _ _ _ 120 rfl 3 4 tu_keyed Try.underlying120 (Go.plainElem (H := Unit) Try.prog 4) w1.heap.size j _ rfl hown.out (by unfold maxLen; omega) _ _ _ rfl rfl HKEY.out _ [] (Go.plainElem_bool Try.underlying4 true) ?_; intro w2 hown1 hgrow1; have HO1 := aM hown1; have HG1 := aM hgrow1; clear hown1 hgrow1)
     go_roundw
     case rel => exact ⟨j + 1, by omega, by go_num, ⟨(tu_succ l0 j hlt).symm ▸ HO1.out⟩, ⟨hnx.out.grown HG1.out hnx.out.size (fun q hq => by cases hq; exact Nat.le_refl _)⟩⟩
     case measure => simp [intOf]; omega
    ·obtain rfl : j = l0.length := by omega
     go_wp2_with (at_len; refine Go.wpList_len_own _ rfl _ 120 rfl 3 4 Try.underlying120 _ w1.heap.size l0.length _ rfl hown.out ?_)
     go_ret2
     refine ⟨?_, below_then HD.out HD.out.size hnx.out⟩
     show Ending.returned (.tuple #[.int .i64 (Go.Maps.size (tu_set (H := Unit) l0 l0.length) : Nat), .bool true]) = _
     rw [tu_size]
  ·have h3 : (if impl_TracksUsed.ok l0 = true then some ((impl_TracksUsed.n l0 : Int), true) else none) = some (r1, r2) := h1
   rw [if_neg hok] at h3
   cases h3
def spec_l1Put.l0 : Nat → List Int → Int → Int → Option (List Int)
 | 0, _, _, _ => none
 | k + 1, x0, x1, x5 => if x5 < (x0.length : Int) then (if 0 ≤ x5 then (if (rd x0 x5) < x1 then (spec_l1Put.l0 k x0 x1 (wrap64 (x5 + 1))) else (if (rd x0 x5) = x1 then (some x0) else ((some (([] : List Int) : List Int)).bind fun y352 => (if x5 ≤ (x0.length : Int) then ((some (x0.take (x5 : Int).toNat : List Int)).bind fun y355 => (if y352.length + y355.length < 17592186044416 then ((some (y352 ++ y355 : List Int)).bind fun y359 => (if y359.length < 17592186044416 then ((some (y359 ++ [x1] : List Int)).bind fun y362 => ((some (x0.drop (x5 : Int).toNat : List Int)).bind fun y365 => (if y362.length + y365.length < 17592186044416 then (some (y362 ++ y365)) else (none)))) else (none))) else (none))) else (none))))) else (none)) else ((some (([] : List Int) : List Int)).bind fun y372 => (if 0 ≤ x5 then (if x5 ≤ (x0.length : Int) then ((some (x0.take (x5 : Int).toNat : List Int)).bind fun y375 => (if y372.length + y375.length < 17592186044416 then ((some (y372 ++ y375 : List Int)).bind fun y379 => (if y379.length < 17592186044416 then ((some (y379 ++ [x1] : List Int)).bind fun y382 => ((some (x0.drop (x5 : Int).toNat : List Int)).bind fun y385 => (if y382.length + y385.length < 17592186044416 then (some (y382 ++ y385)) else (none)))) else (none))) else (none))) else (none)) else (none)))
def spec_l1Put.f (k : Nat) (l0 : List Int) (a1 : Int) : Option (List Int) := spec_l1Put.l0 k l0 a1 0
theorem spec_l1Put.calls (k : Nat) (P0_ : Nat → Prop) (u9000_ : Value) (l0 : List Int) (a1 : Int) (r : List Int) (w0 w : World) (hB : Below w0.heap.size w0 w) (ho0 : Kd.R (Kd.int .i64) 3 w w0.heap.size P0_ u9000_ l0) (h : spec_l1Put.f k l0 a1 = some r) :
  Calls Try.prog 116 #[u9000_, .int .i64 a1] w fun e w' => ∃ v0_ : Value, e = .returned (v0_) ∧ Kd.R (Kd.int .i64) 3 w' w0.heap.size (fun k_ => (P0_ k_ ∨ w.heap.size ≤ k_)) v0_ r ∧ Below w0.heap.size w0 w' ∧ Kept w w' (fun k_ => P0_ k_) := by
 have HO0 := aM (show Kd.R (Kd.int .i64) 3 w w0.heap.size (fun k_ => (P0_ k_ ∨ w.heap.size ≤ k_)) u9000_ l0 from Kd.R_mono ho0 (fun k_ hk => (.inl hk)))
 have HK := aM (Kept.refl w (fun k_ => P0_ k_))
 have HW0 := aM hB.size
 have HB := aM hB
 clear hB
 have H : (spec_l1Put.l0 k l0 a1 0) = some r := h
 clear h
 have H' := aM H
 clear H
 go_enter Try.func116, Try.ntmps116
 go_wp2
 go_loopg [5] k (fun kq v5 w' => ∃ (x5_1 : Int), v5 = .int .i64 x5_1 ∧ Aside0 (spec_l1Put.l0 kq l0 a1 x5_1 = some r) ∧ Aside0 (kq ≤ k) ∧ Aside0 (Kd.R (Kd.int .i64) 3 w' w0.heap.size (fun k_ => (P0_ k_ ∨ w.heap.size ≤ k_)) u9000_ l0) ∧ Aside0 (Kept w w' (fun k_ => P0_ k_)) ∧ Aside0 (Below w0.heap.size w0 w'))
 case atStart => exact ⟨(0), zc_, H', ⟨Nat.le_refl _⟩, ⟨zr HO0.out⟩, ⟨zcb_⟩, ⟨za_⟩⟩
 case round =>
  clear H'
  try clear c1
  try clear p2
  obtain ⟨x5_1, rfl, HA, HK1, HO_0, HK, HB⟩ := hrel
  cases gk with
  | zero => exact absurd HA.out (by simp [spec_l1Put.l0])
  | succ k1 =>
   have H := HA.out
   clear HA
   simp only [spec_l1Put.l0] at H
   by_cases c3 : x5_1 < (l0.length : Int)
   ·rw [if_pos c3] at H
    have c3b0 : decide (x5_1 < (l0.length : Int)) = true := decide_eq_true c3
    clear c3
    by_cases c4 : 0 ≤ x5_1
    ·rw [if_pos c4] at H
     have c4b0 : decide (0 ≤ x5_1) = true := decide_eq_true c4
     clear c4
     by_cases c5 : (rd l0 x5_1) < a1
     ·rw [if_pos c5] at H
      have c5b0 : decide ((rd l0 x5_1) < a1) = true := decide_eq_true c5
      clear c5
      have H' := aM H
      clear H
      obtain ⟨Ao6, co6, eo6⟩ := Kd.R_slice HO_0.out
      subst eo6
      have p350 : 0 ≤ (x5_1 : Int) := of_decide_eq_true zb_
      have q350 : x5_1 < (l0.length : Int) := of_decide_eq_true zb_
      obtain ⟨ad350, e350, hx350_0⟩ := Kd.at_int (Kd.R_reads' HO_0.out).2.2 x5_1 p350 q350
      cases e350
      replace p350 := eq_true p350
      replace q350 := eq_true q350
      go_wp2
      go_roundg k1
      case measure => have := HK1.out; omega
      case rel => exact ⟨(wrap64 (x5_1 + 1)), zc_, H', ⟨zcc_⟩, ⟨zr HO_0.out⟩, ⟨zcb_⟩, ⟨za_⟩⟩
     ·rw [if_neg c5] at H
      have c5b0 : decide ((rd l0 x5_1) < a1) = false := decide_eq_false c5
      clear c5
      by_cases c7 : (rd l0 x5_1) = a1
      ·rw [if_pos c7] at H
       have c7b0 : ((rd l0 x5_1) == a1) = true := beq_iff_eq.mpr c7
       have c7b1 : ((rd l0 x5_1) != a1) = false := bne_eq_false_iff_eq.mpr c7
       clear c7
       obtain rfl := Option.some.inj H
       obtain ⟨Ao8, co8, eo8⟩ := Kd.R_slice HO_0.out
       subst eo8
       have p350 : 0 ≤ (x5_1 : Int) := of_decide_eq_true zb_
       have q350 : x5_1 < (l0.length : Int) := of_decide_eq_true zb_
       obtain ⟨ad350, e350, hx350_0⟩ := Kd.at_int (Kd.R_reads' HO_0.out).2.2 x5_1 p350 q350
       cases e350
       replace p350 := eq_true p350
       replace q350 := eq_true q350
       have p351 : 0 ≤ (x5_1 : Int) := of_decide_eq_true zb_
       have q351 : x5_1 < (l0.length : Int) := of_decide_eq_true zb_
       obtain ⟨ad351, e351, hx351_0⟩ := Kd.at_int (Kd.R_reads' HO_0.out).2.2 x5_1 p351 q351
       obtain rfl : ad350 = ad351 := (by injection e351)
       replace p351 := eq_true p351
       replace q351 := eq_true q351
       go_wp2
       go_ret
       exact ⟨_, zg_, by refine zr ?_; exact HO_0.out, za_, zcb_⟩
      ·rw [if_neg c7] at H
       have c7b0 : ((rd l0 x5_1) == a1) = false := beq_eq_false_iff_ne.mpr c7
       have c7b1 : ((rd l0 x5_1) != a1) = true := bne_iff_ne.mpr c7
       obtain ⟨y352, hy352⟩ : ∃ y_ : List Int, y_ = (([] : List Int)) := ⟨_, rfl⟩
       replace H : (if x5_1 ≤ (l0.length : Int) then ((some (l0.take (x5_1 : Int).toNat : List Int)).bind fun y355 => (if y352.length + y355.length < 17592186044416 then ((some (y352 ++ y355 : List Int)).bind fun y359 => (if y359.length < 17592186044416 then ((some (y359 ++ [a1] : List Int)).bind fun y362 => ((some (l0.drop (x5_1 : Int).toNat : List Int)).bind fun y365 => (if y362.length + y365.length < 17592186044416 then (some (y362 ++ y365)) else (none)))) else (none))) else (none))) else (none)) = some r := by first | (rw [hy352]; with_reducible exact H) | (have H2_ := (oS _ _).symm.trans H; rw [hy352]; with_reducible exact H2_) | (have H2_ := (oS _ _).symm.trans H; with_reducible exact H2_) | with_reducible exact H | (rw [hy352]; exact H) | exact H
       have Ny352 := aM hy352
       clear hy352
       have c9b0 := eq_true (of_decide_eq_true zb_ : 0 ≤ x5_1)
       by_cases c10 : x5_1 ≤ (l0.length : Int)
       ·rw [if_pos c10] at H
        have c10b0 := eq_true c10
        have c10b1 : decide (x5_1 ≤ (l0.length : Int)) = true := decide_eq_true c10
        clear c10
        obtain ⟨y355, hy355⟩ : ∃ y_ : List Int, y_ = (l0.take (x5_1 : Int).toNat) := ⟨_, rfl⟩
        replace H : (if y352.length + y355.length < 17592186044416 then ((some (y352 ++ y355 : List Int)).bind fun y359 => (if y359.length < 17592186044416 then ((some (y359 ++ [a1] : List Int)).bind fun y362 => ((some (l0.drop (x5_1 : Int).toNat : List Int)).bind fun y365 => (if y362.length + y365.length < 17592186044416 then (some (y362 ++ y365)) else (none)))) else (none))) else (none)) = some r := by first | (rw [hy355]; with_reducible exact H) | (have H2_ := (oS _ _).symm.trans H; rw [hy355]; with_reducible exact H2_) | (have H2_ := (oS _ _).symm.trans H; with_reducible exact H2_) | with_reducible exact H | (rw [hy355]; exact H) | exact H
        have Ny355 := aM hy355
        clear hy355
        by_cases c11 : y352.length + y355.length < 17592186044416
        ·rw [if_pos c11] at H
         have LMc11 := aM c11
         clear c11
         obtain ⟨y359, hy359⟩ : ∃ y_ : List Int, y_ = (y352 ++ y355) := ⟨_, rfl⟩
         replace H : (if y359.length < 17592186044416 then ((some (y359 ++ [a1] : List Int)).bind fun y362 => ((some (l0.drop (x5_1 : Int).toNat : List Int)).bind fun y365 => (if y362.length + y365.length < 17592186044416 then (some (y362 ++ y365)) else (none)))) else (none)) = some r := by first | (rw [hy359]; with_reducible exact H) | (have H2_ := (oS _ _).symm.trans H; rw [hy359]; with_reducible exact H2_) | (have H2_ := (oS _ _).symm.trans H; with_reducible exact H2_) | with_reducible exact H | (rw [hy359]; exact H) | exact H
         have Ny359 := aM hy359
         clear hy359
         by_cases c12 : y359.length < 17592186044416
         ·rw [if_pos c12] at H
          have LMc12 := aM c12
          clear c12
          obtain ⟨y362, hy362⟩ : ∃ y_ : List Int, y_ = (y359 ++ [a1]) := ⟨_, rfl⟩
          replace H : ((some (l0.drop (x5_1 : Int).toNat : List Int)).bind fun y365 => (if y362.length + y365.length < 17592186044416 then (some (y362 ++ y365)) else (none))) = some r := by first | (rw [hy362]; with_reducible exact H) | (have H2_ := (oS _ _).symm.trans H; rw [hy362]; with_reducible exact H2_) | (have H2_ := (oS _ _).symm.trans H; with_reducible exact H2_) | with_reducible exact H | (rw [hy362]; exact H) | exact H
          have Ny362 := aM hy362
          clear hy362
          have c13b0 := eq_true (of_decide_eq_true zb_ : 0 ≤ x5_1)
          have c14b0 := eq_true (of_decide_eq_true zb_ : x5_1 ≤ (l0.length : Int))
          obtain ⟨y365, hy365⟩ : ∃ y_ : List Int, y_ = (l0.drop (x5_1 : Int).toNat) := ⟨_, rfl⟩
          replace H : (if y362.length + y365.length < 17592186044416 then (some (y362 ++ y365)) else (none)) = some r := by first | (rw [hy365]; with_reducible exact H) | (have H2_ := (oS _ _).symm.trans H; rw [hy365]; with_reducible exact H2_) | (have H2_ := (oS _ _).symm.trans H; with_reducible exact H2_) | with_reducible exact H | (rw [hy365]; exact H) | exact H
          have Ny365 := aM hy365
          clear hy365
          by_cases c15 : y362.length + y365.length < 17592186044416
          ·rw [if_pos c15] at H
           have LMc15 := aM c15
           clear c15
           obtain ⟨y369, hy369⟩ : ∃ y_ : List Int, y_ = (y362 ++ y365) := ⟨_, rfl⟩
           replace H : (some y369) = some r := by first | (rw [hy369]; with_reducible exact H) | (have H2_ := (oS _ _).symm.trans H; rw [hy369]; with_reducible exact H2_) | (have H2_ := (oS _ _).symm.trans H; with_reducible exact H2_) | with_reducible exact H | (rw [hy369]; exact H) | exact H
           have Ny369 := aM hy369
           clear hy369
           obtain rfl := Option.some.inj H
           obtain ⟨Ao16, co16, eo16⟩ := Kd.R_slice HO_0.out
           subst eo16
           have p350 : 0 ≤ (x5_1 : Int) := of_decide_eq_true zb_
           have q350 : x5_1 < (l0.length : Int) := of_decide_eq_true zb_
           obtain ⟨ad350, e350, hx350_0⟩ := Kd.at_int (Kd.R_reads' HO_0.out).2.2 x5_1 p350 q350
           cases e350
           replace p350 := eq_true p350
           replace q350 := eq_true q350
           have p351 : 0 ≤ (x5_1 : Int) := of_decide_eq_true zb_
           have q351 : x5_1 < (l0.length : Int) := of_decide_eq_true zb_
           obtain ⟨ad351, e351, hx351_0⟩ := Kd.at_int (Kd.R_reads' HO_0.out).2.2 x5_1 p351 q351
           obtain rfl : ad350 = ad351 := (by injection e351)
           replace p351 := eq_true p351
           replace q351 := eq_true q351
           go_wp2_with (first | ((with_reducible refine gate_dst (N := 34) rfl ?_); refine Kd.R_lit (Kd.int .i64) _ 3 ?hg (N := 34) ?hd (xs := ([] : List Int)) (inner := []) (ok := fun _ => True) (okp := fun _ => True) ?hr ?hp (fun _ hk => hk) trivial (Below.refl _ _) (Nat.le_refl _) (by simp) ?_; (case hd => rfl); (case hg => rfl); (case hr => exact zf_); (case hp => exact (Reps.none _ _)); intro v353 w17 ho18 hb hg_ hnew_; clear hg_ hnew_; (first | rw [← Ny352.out] at ho18 | (simp only [Int.reduceToNat] at ho18; rw [← Ny352.out] at ho18)); have n_ := z (Kd.R_elder' (zr HO_0.out) (Kd.R_base ho18) hb) <| z (Kd.R_lower (Kd.R_new' (Kd.R_newM (M := fun k_ => (P0_ k_ ∨ w.heap.size ≤ k_)) ho18 (by first | exact HK.out.1 | exact (show Kept w _ (fun k_ => P0_ k_) from by repeat (first | (with_reducible first | exact HK.out | apply Kept.alloc | apply Kept.drewN | apply Kept.drew) | exact HK.out)).1) (fun k_ h_ => .inr h_)) (Kd.R_lt (zr HO_0.out))) (below_size za_)) <| z (Kept.below (S := (fun k_ => P0_ k_)) zcb_ hb) <| z1 (below_step za_ hb); clear HO_0 HK HB; obtain ⟨HO_0, HO354, HK, HB⟩ := n_; clear hb ho18; have q19 : (x5_1 : Int) ≤ ((l0.length : Int) : Int) := of_decide_eq_true zb_; obtain ⟨i019, hi019, _, hsz19, _⟩ := info_parts info3; have hroom19 : l0.length ≤ co16 := (Kd.R_reads' HO_0.out).2.1; have hC19 : Kd.C (Kd.int .i64) _ (some ad350) l0.length l0 := (Kd.R_reads' HO_0.out).2.2; have hcut19 := cut_to (P := Try.prog) 24 3 .i64 Try.underlying24 hi019 (some ad350) l0.length co16 x5_1 (of_decide_eq_true zb_) q19 hroom19; have hr19 := Kd.C_take (m := (x5_1 : Int).toNat) hC19 (by omega); have hy19 : y355.length = (x5_1 : Int).toNat := (by rw [Ny355.out, lT]; omega); rw [← Ny355.out] at hr19; rw [← hy19] at hcut19; have HR358 := aM hr19; have HC358 := aM (show y355.length ≤ co16 from by omega); clear hr19 hC19 hroom19 hi019 hsz19; have KY19 := aM hy19; clear hy19; have KL19 := aM (show (x5_1 : Int).toNat ≤ l0.length from by omega); replace q19 := eq_true q19) | ((with_reducible refine gate_builtin (b := .append) (xs := #[.tmp 34, .tmp 37]) rfl ?_); at_builtin; refine Kd.R_append_rows (Kd.int .i64) (w0 := w0) w0.heap.size rfl (.tmp 34) (.tmp 37) 24 3 (.int .i64 0) 8 rfl Try.underlying24 info3 rfl (by decide) (by omega) v353 y352 y355 _ _ _ (fun k_ => (P0_ k_ ∨ w.heap.size ≤ k_) ∧ some k_ ≠ (.slice (some ad350) l0.length co16 : Value).ownBlock) (fun _ => False) rfl rfl ?aO ?aR (fun _ _ h => h) (fun _ h => h.elim) ?aF ?aB ?aS ?aL ?_; (case aR => repeat (first | exact (by repeat (first | (with_reducible exact HR358.out) | (with_reducible refine cA ?_ _) | (with_reducible refine cN ?_ _) | (with_reducible refine cD ?_) | exact HR358.out)) | (with_reducible refine cA ?_ _) | (with_reducible refine cN ?_ _) | (with_reducible refine cD ?_))); (case aB => exact zcd_); (case aF => exact zee_); (case aO => exact (by refine zr ?_; exact Kd.R_mono HO354.out (fun _ hk => ⟨hk.1.1, hk.2⟩))); (case aS => exact zce_); (case aL => have := LMc11.out; omega); intro v360 w20 ho hb hg hat; rw [← Ny359.out] at ho; have n_ := z (Kd.R_after (ok := (fun k_ => (P0_ k_ ∨ w.heap.size ≤ k_))) (zr HO_0.out) hg hat) <| z (hb) <| z (Kept.of_grown (S := (fun k_ => P0_ k_)) hg zcb_ (fun k_ e_ => (HO354.out.1 k_ e_).1.1)) <| z ((show Kd.C (Kd.int .i64) w20 (some ad350) y355.length y355 from by rw [Ny355.out]; exact Kd.C_take (m := (x5_1 : Int).toNat) ((Kd.R_reads' (Kd.R_after (ok := (fun k_ => (P0_ k_ ∨ w.heap.size ≤ k_))) (zr HO_0.out) hg hat)).2.2) KL19.out)) <| z1 (ho); clear HO_0 HB HK HR358 HO354; obtain ⟨HO_0, HB, HK, HR358, HO361⟩ := n_; clear ho hb hg hat) | ((with_reducible refine gate_builtin (b := .append) (xs := #[.tmp 39, .tmp 41]) rfl ?_); at_builtin; refine Kd.R_append (Kd.int .i64) (w0 := w0) w0.heap.size rfl (.tmp 39) (.tmp 41) 24 3 (.int .i64 0) 8 rfl Try.underlying24 info3 rfl (by decide) (by omega) v360 y359 a1 [.int .i64 a1] (fun k_ => (P0_ k_ ∨ w.heap.size ≤ k_) ∧ some k_ ≠ (.slice (some ad350) l0.length co16 : Value).ownBlock) (fun _ => False) rfl rfl ?aP (fun _ hk => hk.elim) ?aF ?aO ?aB ?aS ?aL ?_; (case aP => exact rfl); (case aB => exact zcd_); (case aF => exact zee_); (case aO => exact (zr HO361.out)); (case aS => exact zce_); (case aL => have := LMc12.out; omega); intro v363 w21 ho hb hg hat; rw [← Ny362.out] at ho; have n_ := z (Kd.R_after (ok := (fun k_ => (P0_ k_ ∨ w.heap.size ≤ k_))) (zr HO_0.out) hg hat) <| z (hb) <| z (Kept.of_grown (S := (fun k_ => P0_ k_)) hg zcb_ (fun k_ e_ => (HO361.out.1 k_ e_).1)) <| z ((show Kd.C (Kd.int .i64) w21 (some ad350) y355.length y355 from by rw [Ny355.out]; exact Kd.C_take (m := (x5_1 : Int).toNat) ((Kd.R_reads' (Kd.R_after (ok := (fun k_ => (P0_ k_ ∨ w.heap.size ≤ k_))) (zr HO_0.out) hg hat)).2.2) KL19.out)) <| z1 (ho); clear HO_0 HB HK HR358 HO361; obtain ⟨HO_0, HB, HK, HR358, HO364⟩ := n_; clear ho hb hg hat; have q22 : (x5_1 : Int) ≤ ((l0.length : Int) : Int) := of_decide_eq_true zb_; obtain ⟨i022, hi022, _, hsz22, _⟩ := info_parts info3; have hroom22 : l0.length ≤ co16 := (Kd.R_reads' HO_0.out).2.1; have hC22 : Kd.C (Kd.int .i64) _ (some ad350) l0.length l0 := (Kd.R_reads' HO_0.out).2.2; have q022 : (0 : Int) ≤ (x5_1 : Int) := of_decide_eq_true zb_; have hcut22 := cut_from (P := Try.prog) 24 3 .i64 Try.underlying24 hi022 1 hsz22 (some ad350) l0.length co16 x5_1 q022 q22; have hr22 := Kd.C_drop (m := (x5_1 : Int).toNat) (c := co16) hC22 (by omega) hroom22; obtain ⟨A22, hA22⟩ : ∃ A1, A1 = (if co16 = (x5_1 : Int).toNat then (some ad350) else ((some ad350) : Option Addr).map (·.add ((x5_1 : Int).toNat * 1))) := ⟨_, rfl⟩; obtain ⟨c22, hc22⟩ : ∃ c1, c1 = co16 - (x5_1 : Int).toNat := ⟨_, rfl⟩; have hy22 : y365.length = l0.length - (x5_1 : Int).toNat := (by rw [Ny365.out, lD] <;> omega); rw [show (l0).drop (x5_1 : Int).toNat = y365 from Ny365.out.symm] at hr22; replace hr22 : Kd.C (Kd.int .i64) _ A22 y365.length y365 := (by rw [hA22]; exact hr22); rw [← hy22, ← hA22, ← hc22] at hcut22; have HR368 := aM hr22; have HC368 := aM (show y365.length ≤ c22 from by rw [hy22, hc22]; exact Nat.sub_le_sub_right hroom22 _); clear hr22 hC22 hroom22 hi022 hsz22 hc22; have KY22 := aM hy22; have KA22 := aM hA22; clear hy22 hA22; have KL22 := aM (show (x5_1 : Int).toNat ≤ l0.length from by omega); replace q22 := eq_true q22) | ((with_reducible refine gate_builtin (b := .append) (xs := #[.tmp 43, .tmp 46]) rfl ?_); at_builtin; refine Kd.R_append_rows (Kd.int .i64) (w0 := w0) w0.heap.size rfl (.tmp 43) (.tmp 46) 24 3 (.int .i64 0) 8 rfl Try.underlying24 info3 rfl (by decide) (by omega) v363 y362 y365 _ _ _ (fun k_ => (P0_ k_ ∨ w.heap.size ≤ k_) ∧ some k_ ≠ (.slice (some ad350) l0.length co16 : Value).ownBlock) (fun _ => False) rfl rfl ?aO ?aR (fun _ _ h => h) (fun _ h => h.elim) ?aF ?aB ?aS ?aL ?_; (case aR => repeat (first | exact (by repeat (first | (with_reducible exact HR368.out) | (with_reducible refine cA ?_ _) | (with_reducible refine cN ?_ _) | (with_reducible refine cD ?_) | exact HR368.out)) | (with_reducible refine cA ?_ _) | (with_reducible refine cN ?_ _) | (with_reducible refine cD ?_))); (case aB => exact zcd_); (case aF => exact zee_); (case aO => exact (zr HO364.out)); (case aS => exact zce_); (case aL => have := LMc15.out; omega); intro v370 w23 ho hb hg hat; rw [← Ny369.out] at ho; have n_ := z (Kd.R_after (ok := (fun k_ => (P0_ k_ ∨ w.heap.size ≤ k_))) (zr HO_0.out) hg hat) <| z (hb) <| z (Kept.of_grown (S := (fun k_ => P0_ k_)) hg zcb_ (fun k_ e_ => (HO364.out.1 k_ e_).1)) <| z ((show Kd.C (Kd.int .i64) w23 (some ad350) y355.length y355 from by rw [Ny355.out]; exact Kd.C_take (m := (x5_1 : Int).toNat) ((Kd.R_reads' (Kd.R_after (ok := (fun k_ => (P0_ k_ ∨ w.heap.size ≤ k_))) (zr HO_0.out) hg hat)).2.2) KL19.out)) <| z ((show Kd.C (Kd.int .i64) w23 A22 y365.length y365 from by rw [Ny365.out, KA22.out]; exact Kd.C_drop (m := (x5_1 : Int).toNat) (c := co16) ((Kd.R_reads' (Kd.R_after (ok := (fun k_ => (P0_ k_ ∨ w.heap.size ≤ k_))) (zr HO_0.out) hg hat)).2.2) KL22.out ((Kd.R_reads' (Kd.R_after (ok := (fun k_ => (P0_ k_ ∨ w.heap.size ≤ k_))) (zr HO_0.out) hg hat)).2.1))) <| z1 (ho); clear HO_0 HB HK HR358 HR368 HO364; obtain ⟨HO_0, HB, HK, HR358, HR368, HO371⟩ := n_; clear ho hb hg hat))
           go_ret
           exact ⟨_, zg_, by refine zr ?_; exact Kd.R_mono HO371.out (fun _ hk => hk.1), za_, zcb_⟩
          ·rw [if_neg c15] at H
           exact absurd H (by simp)
         ·rw [if_neg c12] at H
          exact absurd H (by simp)
        ·rw [if_neg c11] at H
         exact absurd H (by simp)
       ·rw [if_neg c10] at H
        exact absurd H (by simp)
    ·rw [if_neg c4] at H
     exact absurd H (by simp)
   ·rw [if_neg c3] at H
    have c3b0 : decide (x5_1 < (l0.length : Int)) = false := decide_eq_false c3
    clear c3
    obtain ⟨y372, hy372⟩ : ∃ y_ : List Int, y_ = (([] : List Int)) := ⟨_, rfl⟩
    replace H : (if 0 ≤ x5_1 then (if x5_1 ≤ (l0.length : Int) then ((some (l0.take (x5_1 : Int).toNat : List Int)).bind fun y375 => (if y372.length + y375.length < 17592186044416 then ((some (y372 ++ y375 : List Int)).bind fun y379 => (if y379.length < 17592186044416 then ((some (y379 ++ [a1] : List Int)).bind fun y382 => ((some (l0.drop (x5_1 : Int).toNat : List Int)).bind fun y385 => (if y382.length + y385.length < 17592186044416 then (some (y382 ++ y385)) else (none)))) else (none))) else (none))) else (none)) else (none)) = some r := by first | (rw [hy372]; with_reducible exact H) | (have H2_ := (oS _ _).symm.trans H; rw [hy372]; with_reducible exact H2_) | (have H2_ := (oS _ _).symm.trans H; with_reducible exact H2_) | with_reducible exact H | (rw [hy372]; exact H) | exact H
    have Ny372 := aM hy372
    clear hy372
    by_cases c24 : 0 ≤ x5_1
    ·rw [if_pos c24] at H
     have c24b0 := eq_true c24
     have c24b1 : decide (0 ≤ x5_1) = true := decide_eq_true c24
     clear c24
     by_cases c25 : x5_1 ≤ (l0.length : Int)
     ·rw [if_pos c25] at H
      have c25b0 := eq_true c25
      have c25b1 : decide (x5_1 ≤ (l0.length : Int)) = true := decide_eq_true c25
      clear c25
      obtain ⟨y375, hy375⟩ : ∃ y_ : List Int, y_ = (l0.take (x5_1 : Int).toNat) := ⟨_, rfl⟩
      replace H : (if y372.length + y375.length < 17592186044416 then ((some (y372 ++ y375 : List Int)).bind fun y379 => (if y379.length < 17592186044416 then ((some (y379 ++ [a1] : List Int)).bind fun y382 => ((some (l0.drop (x5_1 : Int).toNat : List Int)).bind fun y385 => (if y382.length + y385.length < 17592186044416 then (some (y382 ++ y385)) else (none)))) else (none))) else (none)) = some r := by first | (rw [hy375]; with_reducible exact H) | (have H2_ := (oS _ _).symm.trans H; rw [hy375]; with_reducible exact H2_) | (have H2_ := (oS _ _).symm.trans H; with_reducible exact H2_) | with_reducible exact H | (rw [hy375]; exact H) | exact H
      have Ny375 := aM hy375
      clear hy375
      by_cases c26 : y372.length + y375.length < 17592186044416
      ·rw [if_pos c26] at H
       have LMc26 := aM c26
       clear c26
       obtain ⟨y379, hy379⟩ : ∃ y_ : List Int, y_ = (y372 ++ y375) := ⟨_, rfl⟩
       replace H : (if y379.length < 17592186044416 then ((some (y379 ++ [a1] : List Int)).bind fun y382 => ((some (l0.drop (x5_1 : Int).toNat : List Int)).bind fun y385 => (if y382.length + y385.length < 17592186044416 then (some (y382 ++ y385)) else (none)))) else (none)) = some r := by first | (rw [hy379]; with_reducible exact H) | (have H2_ := (oS _ _).symm.trans H; rw [hy379]; with_reducible exact H2_) | (have H2_ := (oS _ _).symm.trans H; with_reducible exact H2_) | with_reducible exact H | (rw [hy379]; exact H) | exact H
       have Ny379 := aM hy379
       clear hy379
       by_cases c27 : y379.length < 17592186044416
       ·rw [if_pos c27] at H
        have LMc27 := aM c27
        clear c27
        obtain ⟨y382, hy382⟩ : ∃ y_ : List Int, y_ = (y379 ++ [a1]) := ⟨_, rfl⟩
        replace H : ((some (l0.drop (x5_1 : Int).toNat : List Int)).bind fun y385 => (if y382.length + y385.length < 17592186044416 then (some (y382 ++ y385)) else (none))) = some r := by first | (rw [hy382]; with_reducible exact H) | (have H2_ := (oS _ _).symm.trans H; rw [hy382]; with_reducible exact H2_) | (have H2_ := (oS _ _).symm.trans H; with_reducible exact H2_) | with_reducible exact H | (rw [hy382]; exact H) | exact H
        have Ny382 := aM hy382
        clear hy382
        have c28b0 := eq_true (of_decide_eq_true zb_ : 0 ≤ x5_1)
        have c29b0 := eq_true (of_decide_eq_true zb_ : x5_1 ≤ (l0.length : Int))
        obtain ⟨y385, hy385⟩ : ∃ y_ : List Int, y_ = (l0.drop (x5_1 : Int).toNat) := ⟨_, rfl⟩
        replace H : (if y382.length + y385.length < 17592186044416 then (some (y382 ++ y385)) else (none)) = some r := by first | (rw [hy385]; with_reducible exact H) | (have H2_ := (oS _ _).symm.trans H; rw [hy385]; with_reducible exact H2_) | (have H2_ := (oS _ _).symm.trans H; with_reducible exact H2_) | with_reducible exact H | (rw [hy385]; exact H) | exact H
        have Ny385 := aM hy385
        clear hy385
        by_cases c30 : y382.length + y385.length < 17592186044416
        ·rw [if_pos c30] at H
         have LMc30 := aM c30
         clear c30
         obtain ⟨y389, hy389⟩ : ∃ y_ : List Int, y_ = (y382 ++ y385) := ⟨_, rfl⟩
         replace H : (some y389) = some r := by first | (rw [hy389]; with_reducible exact H) | (have H2_ := (oS _ _).symm.trans H; rw [hy389]; with_reducible exact H2_) | (have H2_ := (oS _ _).symm.trans H; with_reducible exact H2_) | with_reducible exact H | (rw [hy389]; exact H) | exact H
         have Ny389 := aM hy389
         clear hy389
         obtain rfl := Option.some.inj H
         obtain ⟨Ao31, co31, eo31⟩ := Kd.R_slice HO_0.out
         subst eo31
         go_wp2_with (first | ((with_reducible refine gate_dst (N := 34) rfl ?_); refine Kd.R_lit (Kd.int .i64) _ 3 ?hg (N := 34) ?hd (xs := ([] : List Int)) (inner := []) (ok := fun _ => True) (okp := fun _ => True) ?hr ?hp (fun _ hk => hk) trivial (Below.refl _ _) (Nat.le_refl _) (by simp) ?_; (case hd => rfl); (case hg => rfl); (case hr => exact zf_); (case hp => exact (Reps.none _ _)); intro v373 w32 ho33 hb hg_ hnew_; clear hg_ hnew_; (first | rw [← Ny372.out] at ho33 | (simp only [Int.reduceToNat] at ho33; rw [← Ny372.out] at ho33)); have n_ := z (Kd.R_elder' (zr HO_0.out) (Kd.R_base ho33) hb) <| z (Kd.R_lower (Kd.R_new' (Kd.R_newM (M := fun k_ => (P0_ k_ ∨ w.heap.size ≤ k_)) ho33 (by first | exact HK.out.1 | exact (show Kept w _ (fun k_ => P0_ k_) from by repeat (first | (with_reducible first | exact HK.out | apply Kept.alloc | apply Kept.drewN | apply Kept.drew) | exact HK.out)).1) (fun k_ h_ => .inr h_)) (Kd.R_lt (zr HO_0.out))) (below_size za_)) <| z (Kept.below (S := (fun k_ => P0_ k_)) zcb_ hb) <| z1 (below_step za_ hb); clear HO_0 HK HB; obtain ⟨HO_0, HO374, HK, HB⟩ := n_; clear hb ho33; have q34 : (x5_1 : Int) ≤ ((l0.length : Int) : Int) := of_decide_eq_true zb_; obtain ⟨i034, hi034, _, hsz34, _⟩ := info_parts info3; have hroom34 : l0.length ≤ co31 := (Kd.R_reads' HO_0.out).2.1; have hC34 : Kd.C (Kd.int .i64) _ Ao31 l0.length l0 := (Kd.R_reads' HO_0.out).2.2; have hcut34 := cut_to (P := Try.prog) 24 3 .i64 Try.underlying24 hi034 Ao31 l0.length co31 x5_1 (of_decide_eq_true zb_) q34 hroom34; have hr34 := Kd.C_take (m := (x5_1 : Int).toNat) hC34 (by omega); have hy34 : y375.length = (x5_1 : Int).toNat := (by rw [Ny375.out, lT]; omega); rw [← Ny375.out] at hr34; rw [← hy34] at hcut34; have HR378 := aM hr34; have HC378 := aM (show y375.length ≤ co31 from by omega); clear hr34 hC34 hroom34 hi034 hsz34; have KY34 := aM hy34; clear hy34; have KL34 := aM (show (x5_1 : Int).toNat ≤ l0.length from by omega); replace q34 := eq_true q34) | ((with_reducible refine gate_builtin (b := .append) (xs := #[.tmp 34, .tmp 37]) rfl ?_); at_builtin; refine Kd.R_append_rows (Kd.int .i64) (w0 := w0) w0.heap.size rfl (.tmp 34) (.tmp 37) 24 3 (.int .i64 0) 8 rfl Try.underlying24 info3 rfl (by decide) (by omega) v373 y372 y375 _ _ _ (fun k_ => (P0_ k_ ∨ w.heap.size ≤ k_) ∧ some k_ ≠ (.slice Ao31 l0.length co31 : Value).ownBlock) (fun _ => False) rfl rfl ?aO ?aR (fun _ _ h => h) (fun _ h => h.elim) ?aF ?aB ?aS ?aL ?_; (case aR => repeat (first | exact (by repeat (first | (with_reducible exact HR378.out) | (with_reducible refine cA ?_ _) | (with_reducible refine cN ?_ _) | (with_reducible refine cD ?_) | exact HR378.out)) | (with_reducible refine cA ?_ _) | (with_reducible refine cN ?_ _) | (with_reducible refine cD ?_))); (case aB => exact zcd_); (case aF => exact zee_); (case aO => exact (by refine zr ?_; exact Kd.R_mono HO374.out (fun _ hk => ⟨hk.1.1, hk.2⟩))); (case aS => exact zce_); (case aL => have := LMc26.out; omega); intro v380 w35 ho hb hg hat; rw [← Ny379.out] at ho; have n_ := z (Kd.R_after (ok := (fun k_ => (P0_ k_ ∨ w.heap.size ≤ k_))) (zr HO_0.out) hg hat) <| z (hb) <| z (Kept.of_grown (S := (fun k_ => P0_ k_)) hg zcb_ (fun k_ e_ => (HO374.out.1 k_ e_).1.1)) <| z ((show Kd.C (Kd.int .i64) w35 Ao31 y375.length y375 from by rw [Ny375.out]; exact Kd.C_take (m := (x5_1 : Int).toNat) ((Kd.R_reads' (Kd.R_after (ok := (fun k_ => (P0_ k_ ∨ w.heap.size ≤ k_))) (zr HO_0.out) hg hat)).2.2) KL34.out)) <| z1 (ho); clear HO_0 HB HK HR378 HO374; obtain ⟨HO_0, HB, HK, HR378, HO381⟩ := n_; clear ho hb hg hat) | ((with_reducible refine gate_builtin (b := .append) (xs := #[.tmp 39, .tmp 41]) rfl ?_); at_builtin; refine Kd.R_append (Kd.int .i64) (w0 := w0) w0.heap.size rfl (.tmp 39) (.tmp 41) 24 3 (.int .i64 0) 8 rfl Try.underlying24 info3 rfl (by decide) (by omega) v380 y379 a1 [.int .i64 a1] (fun k_ => (P0_ k_ ∨ w.heap.size ≤ k_) ∧ some k_ ≠ (.slice Ao31 l0.length co31 : Value).ownBlock) (fun _ => False) rfl rfl ?aP (fun _ hk => hk.elim) ?aF ?aO ?aB ?aS ?aL ?_; (case aP => exact rfl); (case aB => exact zcd_); (case aF => exact zee_); (case aO => exact (zr HO381.out)); (case aS => exact zce_); (case aL => have := LMc27.out; omega); intro v383 w36 ho hb hg hat; rw [← Ny382.out] at ho; have n_ := z (Kd.R_after (ok := (fun k_ => (P0_ k_ ∨ w.heap.size ≤ k_))) (zr HO_0.out) hg hat) <| z (hb) <| z (Kept.of_grown (S := (fun k_ => P0_ k_)) hg zcb_ (fun k_ e_ => (HO381.out.1 k_ e_).1)) <| z ((show Kd.C (Kd.int .i64) w36 Ao31 y375.length y375 from by rw [Ny375.out]; exact Kd.C_take (m := (x5_1 : Int).toNat) ((Kd.R_reads' (Kd.R_after (ok := (fun k_ => (P0_ k_ ∨ w.heap.size ≤ k_))) (zr HO_0.out) hg hat)).2.2) KL34.out)) <| z1 (ho); clear HO_0 HB HK HR378 HO381; obtain ⟨HO_0, HB, HK, HR378, HO384⟩ := n_; clear ho hb hg hat; have q37 : (x5_1 : Int) ≤ ((l0.length : Int) : Int) := of_decide_eq_true zb_; obtain ⟨i037, hi037, _, hsz37, _⟩ := info_parts info3; have hroom37 : l0.length ≤ co31 := (Kd.R_reads' HO_0.out).2.1; have hC37 : Kd.C (Kd.int .i64) _ Ao31 l0.length l0 := (Kd.R_reads' HO_0.out).2.2; have q037 : (0 : Int) ≤ (x5_1 : Int) := of_decide_eq_true zb_; have hcut37 := cut_from (P := Try.prog) 24 3 .i64 Try.underlying24 hi037 1 hsz37 Ao31 l0.length co31 x5_1 q037 q37; have hr37 := Kd.C_drop (m := (x5_1 : Int).toNat) (c := co31) hC37 (by omega) hroom37; obtain ⟨A37, hA37⟩ : ∃ A1, A1 = (if co31 = (x5_1 : Int).toNat then Ao31 else (Ao31 : Option Addr).map (·.add ((x5_1 : Int).toNat * 1))) := ⟨_, rfl⟩; obtain ⟨c37, hc37⟩ : ∃ c1, c1 = co31 - (x5_1 : Int).toNat := ⟨_, rfl⟩; have hy37 : y385.length = l0.length - (x5_1 : Int).toNat := (by rw [Ny385.out, lD] <;> omega); rw [show (l0).drop (x5_1 : Int).toNat = y385 from Ny385.out.symm] at hr37; replace hr37 : Kd.C (Kd.int .i64) _ A37 y385.length y385 := (by rw [hA37]; exact hr37); rw [← hy37, ← hA37, ← hc37] at hcut37; have HR388 := aM hr37; have HC388 := aM (show y385.length ≤ c37 from by rw [hy37, hc37]; exact Nat.sub_le_sub_right hroom37 _); clear hr37 hC37 hroom37 hi037 hsz37 hc37; have KY37 := aM hy37; have KA37 := aM hA37; clear hy37 hA37; have KL37 := aM (show (x5_1 : Int).toNat ≤ l0.length from by omega); replace q37 := eq_true q37) | ((with_reducible refine gate_builtin (b := .append) (xs := #[.tmp 43, .tmp 46]) rfl ?_); at_builtin; refine Kd.R_append_rows (Kd.int .i64) (w0 := w0) w0.heap.size rfl (.tmp 43) (.tmp 46) 24 3 (.int .i64 0) 8 rfl Try.underlying24 info3 rfl (by decide) (by omega) v383 y382 y385 _ _ _ (fun k_ => (P0_ k_ ∨ w.heap.size ≤ k_) ∧ some k_ ≠ (.slice Ao31 l0.length co31 : Value).ownBlock) (fun _ => False) rfl rfl ?aO ?aR (fun _ _ h => h) (fun _ h => h.elim) ?aF ?aB ?aS ?aL ?_; (case aR => repeat (first | exact (by repeat (first | (with_reducible exact HR388.out) | (with_reducible refine cA ?_ _) | (with_reducible refine cN ?_ _) | (with_reducible refine cD ?_) | exact HR388.out)) | (with_reducible refine cA ?_ _) | (with_reducible refine cN ?_ _) | (with_reducible refine cD ?_))); (case aB => exact zcd_); (case aF => exact zee_); (case aO => exact (zr HO384.out)); (case aS => exact zce_); (case aL => have := LMc30.out; omega); intro v390 w38 ho hb hg hat; rw [← Ny389.out] at ho; have n_ := z (Kd.R_after (ok := (fun k_ => (P0_ k_ ∨ w.heap.size ≤ k_))) (zr HO_0.out) hg hat) <| z (hb) <| z (Kept.of_grown (S := (fun k_ => P0_ k_)) hg zcb_ (fun k_ e_ => (HO384.out.1 k_ e_).1)) <| z ((show Kd.C (Kd.int .i64) w38 Ao31 y375.length y375 from by rw [Ny375.out]; exact Kd.C_take (m := (x5_1 : Int).toNat) ((Kd.R_reads' (Kd.R_after (ok := (fun k_ => (P0_ k_ ∨ w.heap.size ≤ k_))) (zr HO_0.out) hg hat)).2.2) KL34.out)) <| z ((show Kd.C (Kd.int .i64) w38 A37 y385.length y385 from by rw [Ny385.out, KA37.out]; exact Kd.C_drop (m := (x5_1 : Int).toNat) (c := co31) ((Kd.R_reads' (Kd.R_after (ok := (fun k_ => (P0_ k_ ∨ w.heap.size ≤ k_))) (zr HO_0.out) hg hat)).2.2) KL37.out ((Kd.R_reads' (Kd.R_after (ok := (fun k_ => (P0_ k_ ∨ w.heap.size ≤ k_))) (zr HO_0.out) hg hat)).2.1))) <| z1 (ho); clear HO_0 HB HK HR378 HR388 HO384; obtain ⟨HO_0, HB, HK, HR378, HR388, HO391⟩ := n_; clear ho hb hg hat))
         go_ret
         exact ⟨_, zg_, by refine zr ?_; exact Kd.R_mono HO391.out (fun _ hk => hk.1), za_, zcb_⟩
        ·rw [if_neg c30] at H
         exact absurd H (by simp)
       ·rw [if_neg c27] at H
        exact absurd H (by simp)
      ·rw [if_neg c26] at H
       exact absurd H (by simp)
     ·rw [if_neg c25] at H
      exact absurd H (by simp)
    ·rw [if_neg c24] at H
     exact absurd H (by simp)
def spec_TracksUsed.l0 : Nat → List Int → List Int → Int → Int → Option (Int × Bool)
 | 0, _, _, _, _ => none
 | k + 1, x4, x10, x11, x12 => if x12 < x11 then (if 0 ≤ x12 then (if x12 < (x10.length : Int) then ((spec_l1Put.f k x4 (rd x10 x12)).bind fun t394 => (spec_TracksUsed.l0 k t394 x10 x11 (wrap64 (x12 + 1)))) else (none)) else (none)) else (some ((x4.length : Int), true))
def spec_TracksUsed.f (k : Nat) (l0 : List Int) : Option (Int × Bool) := (spec_rtTracks.f k l0).bind fun t392 => (if t392 = true then (spec_TracksUsed.l0 k ([] : List Int) l0 (l0.length : Int) 0) else (some (0, false)))
theorem spec_TracksUsed.calls (k : Nat) (A0 : Option Addr) (c0 : Nat) (l0 : List Int) (r1 : Int) (r2 : Bool) (w : World) (hr0 : Kd.C (Kd.int .i64) w A0 l0.length l0) (hc0 : l0.length ≤ c0) (h : spec_TracksUsed.f k l0 = some (r1, r2)) :
  Calls Try.prog 22 #[.slice A0 l0.length c0] w fun e w' => e = .returned (.tuple #[.int .i64 r1, .bool r2]) ∧ Below w.heap.size w w' := by
 have HR0 := aM hr0
 have HC0 := aM hc0
 clear hr0 hc0
 have HB := aM (Below.refl w.heap.size w)
 have H : ((spec_rtTracks.f k l0).bind fun t392 => (if t392 = true then (spec_TracksUsed.l0 k ([] : List Int) l0 (l0.length : Int) 0) else (some (0, false)))) = some (r1, r2) := h
 clear h
 replace H := oB.mp H
 obtain ⟨t392, A20, H⟩ := H
 replace H : (if t392 = true then (spec_TracksUsed.l0 k ([] : List Int) l0 (l0.length : Int) 0) else (some (0, false))) = some (r1, r2) := H
 have A2 := aM A20
 clear A20
 by_cases c3 : t392 = true
 ·subst c3
  have H1 : (spec_TracksUsed.l0 k ([] : List Int) l0 (l0.length : Int) 0) = some (r1, r2) := by rw [if_pos rfl] at H; exact H
  clear H
  have H := H1
  clear H1
  have H' := aM H
  clear H
  go_enter Try.func22, Try.ntmps22
  go_wp2_with (first | ((with_reducible refine gate_callee (f := 115) rfl ?_); refine goesL_ (some 8) rfl rfl Try.func115 (by kernel_rfl) rfl #[.slice A0 l0.length c0] rfl zd_ ?_; (with_reducible refine (spec_rtTracks.calls k _ _ l0 true _ ?side1 ?side2 A2.out).mono ?_); (case side1 => exact zbh_); (case side2 => exact HC0.out); rintro e w' ⟨rfl, ⟨nd, rfl⟩⟩; refine ⟨_, rfl, ?_⟩))
  go_loopg [4, 12] k (fun kq v4 v12 w' => ∃ (x4_1 : List Int) (x12_1 : Int), v12 = .int .i64 x12_1 ∧ Aside0 (spec_TracksUsed.l0 kq x4_1 l0 (l0.length : Int) x12_1 = some (r1, r2)) ∧ Aside0 (kq ≤ k) ∧ Aside0 (Kd.R (Kd.int .i64) 3 w' w.heap.size (fun _ => True) v4 x4_1) ∧ Aside0 (Below w.heap.size w w'))
  case atStart => exact ⟨(([] : List Int)), (0), zc_, H', ⟨Nat.le_refl _⟩, ⟨zch_⟩, ⟨za_⟩⟩
  case round =>
   clear H'
   try clear c1
   try clear c2
   try clear p2
   try clear c3
   obtain ⟨x4_1, x12_1, rfl, HA, HK1, HO_4, HB⟩ := hrel
   cases gk with
   | zero => exact absurd HA.out (by simp [spec_TracksUsed.l0])
   | succ k1 =>
    have H := HA.out
    clear HA
    simp only [spec_TracksUsed.l0] at H
    by_cases c4 : x12_1 < (l0.length : Int)
    ·rw [if_pos c4] at H
     have c4b0 : decide (x12_1 < (l0.length : Int)) = true := decide_eq_true c4
     clear c4
     by_cases c5 : 0 ≤ x12_1
     ·rw [if_pos c5] at H
      have c5b0 : decide (0 ≤ x12_1) = true := decide_eq_true c5
      clear c5
      by_cases c6 : x12_1 < (l0.length : Int)
      ·rw [if_pos c6] at H
       have c6b0 : decide (x12_1 < (l0.length : Int)) = true := decide_eq_true c6
       clear c6
       replace H := oB.mp H
       obtain ⟨t394, A70, H⟩ := H
       replace H : (spec_TracksUsed.l0 k1 t394 l0 (l0.length : Int) (wrap64 (x12_1 + 1))) = some (r1, r2) := H
       have A7 := aM A70
       clear A70
       have H' := aM H
       clear H
       have p393 : 0 ≤ (x12_1 : Int) := of_decide_eq_true zb_
       have q393 : x12_1 < (l0.length : Int) := of_decide_eq_true zb_
       obtain ⟨ad393, e393, hx393_0⟩ := Kd.at_int HR0.out x12_1 p393 q393
       cases e393
       (try (replace hx393_0 := (HB.out.cell (World.block_lt_of_cell? w _ hx393_0)).trans hx393_0))
       replace p393 := eq_true p393
       replace q393 := eq_true q393
       obtain ⟨Ao8, co8, eo8⟩ := Kd.R_slice HO_4.out
       subst eo8
       go_wp2_with (first | ((with_reducible refine gate_callee (f := 116) rfl ?_); refine goesL_ (some 18) rfl rfl Try.func116 (by kernel_rfl) rfl #[.slice Ao8 x4_1.length co8, .int .i64 (rd l0 x12_1)] rfl zd_ ?_; (with_reducible refine (spec_l1Put.calls k1 (fun k_ => some k_ = (.slice Ao8 x4_1.length co8 : Value).ownBlock) (.slice Ao8 x4_1.length co8) x4_1 (rd l0 x12_1) t394 w _ ?side1 ?side2 A7.out).mono ?_); (case side1 => exact za_); (case side2 => exact Kd.R_tight rfl HO_4.out); rintro e w9 ⟨v395, rfl, ho0, hb, hkp⟩; refine ⟨_, rfl, ?_⟩; have n_ := z (Kd.R_mono (ok' := fun k_ => True) ho0 (fun k_ hk_ => trivial)) <| z1 (hb); clear HB HO_4; obtain ⟨HO396, HB⟩ := n_; (try clear hb); (try clear hkp); (try clear ho0)))
       go_roundg k1
       case measure => have := HK1.out; omega
       case rel => exact ⟨(t394), (wrap64 (x12_1 + 1)), zc_, H', ⟨zcc_⟩, ⟨zr HO396.out⟩, ⟨za_⟩⟩
      ·rw [if_neg c6] at H
       exact absurd H (by simp)
     ·rw [if_neg c5] at H
      exact absurd H (by simp)
    ·rw [if_neg c4] at H
     have c4b0 : decide (x12_1 < (l0.length : Int)) = false := decide_eq_false c4
     clear c4
     simp only [Option.some.injEq, Prod.mk.injEq] at H
     obtain ⟨rfl, rfl⟩ := H
     obtain ⟨Ao10, co10, eo10⟩ := Kd.R_slice HO_4.out
     subst eo10
     go_wp2
     go_ret2
     exact ⟨zg_, za_⟩
 ·replace c3 := Bool.eq_false_iff.mpr c3
  subst c3
  have H1 : (some (0, false)) = some (r1, r2) := by rw [if_neg (show ¬ (false = true) by decide)] at H; exact H
  clear H
  have H := H1
  clear H1
  simp only [Option.some.injEq, Prod.mk.injEq] at H
  obtain ⟨rfl, rfl⟩ := H
  go_enter Try.func22, Try.ntmps22
  go_wp2_with (first | ((with_reducible refine gate_callee (f := 115) rfl ?_); refine goesL_ (some 8) rfl rfl Try.func115 (by kernel_rfl) rfl #[.slice A0 l0.length c0] rfl zd_ ?_; (with_reducible refine (spec_rtTracks.calls k _ _ l0 false _ ?side1 ?side2 A2.out).mono ?_); (case side1 => exact zbh_); (case side2 => exact HC0.out); rintro e w' ⟨rfl, ⟨nd, rfl⟩⟩; refine ⟨_, rfl, ?_⟩))
  go_ret2
  exact ⟨zg_, za_⟩
end Go.Proofs.Ytbkighlfgaifeaa.QFnTracks
