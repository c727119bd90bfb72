/- Functions of FnLevels, each as a Lean function, with the proof that the Go code comes to its answers. -/
import Derived.Test.YtlnhpkjioppbiaaSFnLevelsx1
import Derived.Test.YtlnhpkjioppbiaaSFnLevelsx7
import Derived.Test.YtlnhpkjioppbiaaSFnLevelsx11
import Derived.Test.YtlnhpkjioppbiaaSFnLevelsx13
namespace Go.Proofs.Ytlnhpkjioppbiaa.QFnLevels
open Go.RowKit Go.Proofs.YtlnhpkjioppbiaaW.PrintWords Go.Proofs.YtlnhpkjioppbiaaW.PrintLast Go.Proofs.YtlnhpkjioppbiaaW.PrintMore
open Go.Proofs.YtlnhpkjioppbiaaW.PrintWords renaming pw_below_drewN → pN, below_drew1 → p1, below_alloc → pA
open Go.Proofs.YtlnhpkjioppbiaaW.PrintWords.Kd renaming R_alloc → kA, R_drewN → kN, R_drew → kD, Q_alloc → qA, Q_drewN → qN, Q_drew → qD, C_alloc → cA, C_drewN → cN, C_drew → cD
open Go.Proofs.YtlnhpkjioppbiaaW.PrintWords.Aside0 renaming mk → aM
open List renaming setIfInBounds_toArray → sI, set_cons_zero → s0, set_cons_succ → sS, map_toArray → mT, length_take → lT, length_drop → lD, map_cons → mC, map_nil → mN
open Option renaming bind_eq_some_iff → oB, bind_some → oS
attribute [local go_sem] max2_int min2_int max_two min_two max_three min_three max_four min_four
set_option linter.unusedVariables false
set_option linter.unusedSimpArgs false
open Option renaming bind_some → oS
set_option maxHeartbeats 8000000
set_option maxRecDepth 100000
def impl_FewestCrossings.f (k : Nat) (l0 : List (List Int)) (a1 : Int) : Option (List Int × Int × Bool) :=
 (impl_AreLevelWires.f k l0 a1).bind fun t => if t = true then ((impl_crossingTable.f k l0 a1).bind fun T => (if 0 ≤ a1 ∧ a1 ≤ 8 ∧ 100 ≤ k ∧ Sep.fcOk T a1.toNat (Sep.pm a1.toNat a1.toNat []) = true then some ((Sep.fcAt T a1.toNat (Sep.pm a1.toNat a1.toNat []) (Sep.pm a1.toNat a1.toNat []).length).1, (Sep.fcAt T a1.toNat (Sep.pm a1.toNat a1.toNat []) (Sep.pm a1.toNat a1.toNat []).length).2, true) else none)) else some ([], 0, false)
open Go.Proofs.Ytlnhpkjioppbiaa.Sep in
set_option maxHeartbeats 16000000 in
set_option maxRecDepth 100000 in
theorem impl_FewestCrossings.calls (k : Nat) (A0 : Option Addr) (c0 : Nat) (l0 : List (List Int)) (a1 : Int) (r1 : List Int) (r2 : Int) (r3 : Bool) (w : World) (hr0 : Kd.C (Kd.slice 3 (Kd.int .i64)) w A0 l0.length l0) (hc0 : l0.length ≤ c0) (h : impl_FewestCrossings.f k l0 a1 = some (r1, r2, r3)) :
  Calls Try.prog 38 #[.slice A0 l0.length c0, .int .i64 a1] w fun e w' => ∃ v0_ : Value, e = .returned (.tuple #[v0_, .int .i64 r2, .bool r3]) ∧ Kd.R (Kd.int .i64) 3 w' w.heap.size (fun _ => True) v0_ r1 ∧ Below w.heap.size w w' := by
 have HR0 := aM hr0
 have HC0 := aM hc0
 clear hr0 hc0
 unfold impl_FewestCrossings.f at h
 obtain ⟨t, hA, h1⟩ := oB.mp h
 clear h
 have HA := aM hA
 clear hA
 cases t with
 | false =>
  have h2 : (([] : List Int), (0 : Int), false) = (r1, r2, r3) := Option.some.inj h1; clear h1
  injection h2 with e1 e2
  injection e2 with e2 e3
  subst e1; subst e2; subst e3
  go_enter Try.func38, Try.ntmps38
  go_wp2_with (first | ((with_reducible refine gate_callee (f := 48) rfl ?_); refine goesL_ (some 17) rfl rfl Try.func48 (by kernel_rfl) rfl #[.slice A0 l0.length c0, .int .i64 a1] rfl ze_ ?_; (with_reducible refine (impl_AreLevelWires.calls k _ _ l0 a1 false _ (by exact HR0.out) HC0.out HA.out).mono ?_); rintro e w_1 ⟨rfl, hd⟩; refine ⟨_, rfl, ?_⟩; have HO_1 := aM ((Sep.Own.nil w).below hd.below); clear hd))
  go_ret3
  exact ⟨_, rfl, Kd.R_nil _ _ _ _ _, HO_1.out.base⟩
 | true =>
  replace h1 := h1; rw [if_pos rfl] at h1; obtain ⟨T, hT, h2⟩ := oB.mp h1; clear h1; have HT := aM hT; clear hT
  split at h2
  ·rename_i hc
   obtain ⟨hm0, hm8, hk, hok⟩ := hc; obtain ⟨m, rfl⟩ := Int.eq_ofNat_of_zero_le hm0; rw [Int.toNat_natCast] at h2 hok; obtain ⟨os, hos⟩ : ∃ os, os = Sep.pm m m [] := ⟨_, rfl⟩; have HQ := aM (show impl_ordersOf.f k m = some os from by unfold impl_ordersOf.f; rw [if_pos hm0, if_pos hm8, if_pos hk, Int.toNat_natCast, hos]); rw [← hos] at h2 hok; have HOK := aM (Sep.fcOk_out hok); have HM := aM (show m ≤ 8 by omega); clear hok hos hk hm0 hm8; replace h2 := Option.some.inj h2
   injection h2 with e1 e2
   injection e2 with e2 e3
   subst e1; subst e2; subst e3; obtain ⟨hom, htm, holen, hosn, hmn⟩ := HOK.out
   go_enter Try.func38, Try.ntmps38
   go_wp2_with (first | ((with_reducible refine gate_callee (f := 48) rfl ?_); refine goesL_ (some 17) rfl rfl Try.func48 (by kernel_rfl) rfl #[.slice A0 l0.length c0, .int .i64 ((m : Int))] rfl ze_ ?_; (with_reducible refine (impl_AreLevelWires.calls k _ _ l0 (m : Int) true _ (by exact HR0.out) HC0.out HA.out).mono ?_); rintro e w_1 ⟨rfl, hd⟩; refine ⟨_, rfl, ?_⟩; have HO_1 := aM ((Sep.Own.nil w).below hd.below); clear hd) | ((with_reducible refine gate_callee (f := 90) rfl ?_); refine goesL_ (some 21) rfl rfl Try.func90 (by kernel_rfl) rfl #[.slice A0 l0.length c0, .int .i64 ((m : Int))] rfl ze_ ?_; (with_reducible refine (impl_crossingTable.calls k _ _ l0 (m : Int) T _ (by exact Kd.C_below HR0.out HO_1.out.base) HC0.out HT.out).mono ?_); rintro e w_2 ⟨v_2, rfl, hR, hb⟩; refine ⟨_, rfl, ?_⟩; have ho := HO_1.out.add_rows hR hb; obtain ⟨At, ct, rfl⟩ := ho.rows_slice 0 rfl; have HO_2 := aM ho; clear ho hR hb) | ((with_reducible refine gate_dst (N := 22) rfl ?_); refine Sep.own_lit0 (Kd.int .i64) HO_2.out 3 ?hg (N := 22) ?hd ?hr ?_; (case hd => rfl); (case hg => rfl); (case hr => exact zd_); intro x_22 w_3 ho _; have HO_3 := aM ho; clear ho) | ((with_reducible refine gate_callee (f := 74) rfl ?_); refine goesL_ (some 24) rfl rfl Try.func74 (by kernel_rfl) rfl #[.int .i64 ((m : Int))] rfl ze_ ?_; (with_reducible refine (impl_ordersOf.calls k m os _ HQ.out).mono ?_); rintro e w_4 ⟨v_4, rfl, hR, hb⟩; refine ⟨_, rfl, ?_⟩; have ho := HO_3.out.add_rows hR hb; obtain ⟨Ao, co, rfl⟩ := ho.rows_slice 0 rfl; have HO_4 := aM (ho.slack 0 rfl); clear ho hR hb))
   (try simp only [Act.put, sI, s0, sS])
   go_loopw [8, 9, 26] (fun v8 v9 v26 wr => ∃ (j : Int), 0 ≤ j ∧ j ≤ (os.length : Int) ∧ v26 = .int .i64 j ∧ v9 = .int .i64 (fcAt T m os j.toNat).2 ∧ Aside0 (∃ P_, Kd.R (Kd.int .i64) 3 wr w.heap.size P_ v8 (fcAt T m os j.toNat).1) ∧ Aside0 (Own w wr [Item.row (Kd.slice 3 (Kd.int .i64)) 39 (.slice Ao os.length co) (os), Item.rows (Kd.slice 3 (Kd.int .i64)) 39 (.slice At T.length ct) (T)])) (fun _ _ v26 _ => os.length - (intOf v26).toNat)
   case atStart => exact ⟨0, Int.le_refl _, by omega, rfl, rfl, ⟨(HO_4.out.get 1 rfl)⟩, ⟨(((HO_4.out.front 2 rfl).front 1 rfl).front 2 rfl).tail⟩⟩
   case round =>
    obtain ⟨j, hj0, hj1, rfl, rfl, HB, HO1⟩ := hrel; clear HO_4; have HO := HO1; clear HO1
    by_cases c1 : j < (os.length : Int)
    ·have c1b := decide_eq_true c1
     have hwj : wrap64 (j + 1) = j + 1 := by unfold wrap64; omega
     obtain ⟨ado, Ae, ce, eo, hel, hle, hCe, hRe⟩ := HO.out.elem 0 rfl j hj0 c1
     cases eo
     have hst := Sep.fcAt_succ T m os j hj0 c1; have hol := holen j hj0 c1; obtain ⟨o, hoo⟩ : ∃ o, o = os.getD j.toNat [] := ⟨_, rfl⟩; rw [← hoo] at hel hle hCe hRe hst hol; have HRE := aM hRe; have HST := aM hst; have HOL := aM hol; have p1 : (0 ≤ j) = True := eq_true hj0; have q1 : (j < (os.length : Int)) = True := eq_true c1; clear hCe hle hRe hst hoo hol
     go_wp2
     go_loopw [12, 32] (fun v12 v32 wr => ∃ (i : Int), 0 ≤ i ∧ i ≤ (o.length : Int) ∧ v32 = .int .i64 i ∧ v12 = .int .i64 (fcSum T o m i.toNat) ∧ Aside0 (∃ P_, Kd.R (Kd.int .i64) 3 wr w.heap.size P_ u8 (fcAt T m os j.toNat).1) ∧ Aside0 (∃ P_, Kd.R (Kd.int .i64) 3 wr w.heap.size P_ (.slice Ae o.length ce) o) ∧ Aside0 (Own w wr [Item.row (Kd.slice 3 (Kd.int .i64)) 39 (.slice (some ado) os.length co) (os), Item.rows (Kd.slice 3 (Kd.int .i64)) 39 (.slice At T.length ct) (T)])) (fun _ v32 _ => o.length - (intOf v32).toNat)
     case atStart => exact ⟨0, Int.le_refl _, by omega, rfl, rfl, HB, HRE, HO⟩
     case round =>
      clear HB HRE HO hel; obtain ⟨i, hi0, hi1, rfl, rfl, HB, HRE, HO⟩ := hrel; have hol := HOL.out
      by_cases c2 : i < (o.length : Int)
      ·have c2b := decide_eq_true c2
       have hwi : wrap64 (i + 1) = i + 1 := by unfold wrap64; omega
       clear hol
       go_wp2
       go_loopw [12, 37] (fun v12 v37 wr => ∃ (k : Int), 0 ≤ k ∧ k ≤ (o.length : Int) ∧ v37 = .int .i64 k ∧ v12 = .int .i64 (fcRow T o i k.toNat (fcSum T o m i.toNat)) ∧ Aside0 (∃ P_, Kd.R (Kd.int .i64) 3 wr w.heap.size P_ u8 (fcAt T m os j.toNat).1) ∧ Aside0 (∃ P_, Kd.R (Kd.int .i64) 3 wr w.heap.size P_ (.slice Ae o.length ce) o) ∧ Aside0 (Own w wr [Item.row (Kd.slice 3 (Kd.int .i64)) 39 (.slice (some ado) os.length co) (os), Item.rows (Kd.slice 3 (Kd.int .i64)) 39 (.slice At T.length ct) (T)])) (fun _ v37 _ => o.length - (intOf v37).toNat)
       case atStart => exact ⟨0, Int.le_refl _, by have := HOL.out; omega, rfl, rfl, HB, HRE, HO⟩
       case round =>
        clear HB HRE HO; obtain ⟨k, hk0, hk1, rfl, rfl, HB, HRE, HO⟩ := hrel; have hol := HOL.out
        by_cases c3 : k < (o.length : Int)
        ·have c3b := decide_eq_true c3
         have hwk : wrap64 (k + 1) = k + 1 := by unfold wrap64; omega
         have hio : i < (o.length : Int) := by omega
         have hko : k < (o.length : Int) := by omega
         have him : i < (T.length : Int) := by omega
         have hkt : k < ((T.getD i.toNat []).length : Int) := by have := htm i hi0 (by omega); omega
         obtain ⟨P_, hRe⟩ := HRE.out; have hCe := (Kd.R_reads' hRe).2.2; obtain ⟨ade, ee, hxi⟩ := Kd.at_int hCe i hi0 hio
         cases ee
         obtain ⟨ade2, ee, hxk⟩ := Kd.at_int hCe k hk0 hko
         cases ee
         obtain ⟨adt, Ax, cx, et, htl, hxl, hCx⟩ := at_L4 (HO.out.rows_reads 1 rfl).2.2 i hi0 him
         cases et
         obtain ⟨adx, ex, hxt⟩ := Kd.at_int hCx k hk0 hkt
         cases ex
         have hrow := Sep.fcRow_succ T o i k hk0 (fcSum T o m i.toNat); have HROW := aM hrow; clear hCe hCx hRe hxl hrow hol; have p1 : (0 ≤ i) = True := eq_true hi0; have p2 : (0 ≤ k) = True := eq_true hk0; have q1 : (i < (o.length : Int)) = True := eq_true hio; have q2 : (k < (o.length : Int)) = True := eq_true hko; have q3 : (i < (T.length : Int)) = True := eq_true him; have q4 : (k < ((rd_L4 T i).length : Int)) = True := eq_true hkt
         by_cases c4 : rd o i < rd o k
         ·have c4b := decide_eq_true c4
          have hr := HROW.out; rw [if_pos c4] at hr; have HR := aM hr; clear hr HROW
          go_wp2
          have HD_16_0 := aM (HO.out.drew); have HB_ := aM (show ∃ P_, Kd.R (Kd.int .i64) 3 wr.drew w.heap.size P_ u8 (fcAt T m os j.toNat).1 from HB.out.imp (fun _ h => kD h)); clear HB; have HB := HB_; clear HB_; have HRE_ := aM (show ∃ P_, Kd.R (Kd.int .i64) 3 wr.drew w.heap.size P_ (.slice (some ade) o.length ce) o from HRE.out.imp (fun _ h => kD h)); clear HRE; have HRE := HRE_; clear HRE_; have htl_ := (show wr.drew.cell? (adt.add i.toNat) = some (.slice (some adx) (rd_L4 T i).length cx) from htl); clear htl; have htl := htl_; clear htl_; have hxt_ := (show wr.drew.cell? (adx.add k.toNat) = some (.int .i64 (rd (rd_L4 T i) k)) from hxt); clear hxt; have hxt := hxt_; clear hxt_
          refine start_ (n := 9) (S := fun w' => w'.cell? (ade.add i.toNat) = some (.int .i64 (rd o i)) ∧ w'.cell? (ade.add k.toNat) = some (.int .i64 (rd o k))) (ds := []) #[fi,fi,fi,fi,fi,fi,fi,fi,fi] (by kernel_rfl) rfl rfl ⟨hxi, hxk⟩ (fun hHeld => ?_)
          generalize wr.drew = wd_16_1 at HD_16_0 HB HRE htl hxt hHeld ⊢
          refine oz_ 0 40 ?_
          refine oz_ 1 41 ?_
          refine oz_ 2 42 ?_
          refine oz_ 4 44 ?_
          refine oz_ 5 45 ?_
          refine oz_ 6 46 ?_
          refine tz2_ 3 43 hHeld ?_
          refine tz2_ 7 47 hHeld ?_
          refine oz_ 8 48 ?_
          refine done_ (by kernel_rfl) ?_
          go_wp2
          go_roundw
          case measure => simp only [intOf, hwk]; omega
          case rel => exact ⟨k + 1, by omega, by omega, by first | rfl | rw [hwk], by first | (rw [HR.out]; rfl) | (rw [HR.out]), HB, HRE, HD_16_0⟩
         ·have c4b := decide_eq_false c4
          have hr := HROW.out; rw [if_neg c4] at hr; have HR := aM hr; clear hr HROW
          go_wp2
          have HD_16_0 := aM (HO.out.drew); have HB_ := aM (show ∃ P_, Kd.R (Kd.int .i64) 3 wr.drew w.heap.size P_ u8 (fcAt T m os j.toNat).1 from HB.out.imp (fun _ h => kD h)); clear HB; have HB := HB_; clear HB_; have HRE_ := aM (show ∃ P_, Kd.R (Kd.int .i64) 3 wr.drew w.heap.size P_ (.slice (some ade) o.length ce) o from HRE.out.imp (fun _ h => kD h)); clear HRE; have HRE := HRE_; clear HRE_; have htl_ := (show wr.drew.cell? (adt.add i.toNat) = some (.slice (some adx) (rd_L4 T i).length cx) from htl); clear htl; have htl := htl_; clear htl_; have hxt_ := (show wr.drew.cell? (adx.add k.toNat) = some (.int .i64 (rd (rd_L4 T i) k)) from hxt); clear hxt; have hxt := hxt_; clear hxt_
          refine start_ (n := 9) (S := fun w' => w'.cell? (ade.add i.toNat) = some (.int .i64 (rd o i)) ∧ w'.cell? (ade.add k.toNat) = some (.int .i64 (rd o k))) (ds := []) #[fi,fi,fi,fi,fi,fi,fi,fi,fi] (by kernel_rfl) rfl rfl ⟨hxi, hxk⟩ (fun hHeld => ?_)
          generalize wr.drew = wd_16_1 at HD_16_0 HB HRE htl hxt hHeld ⊢
          refine oz_ 0 40 ?_
          refine oz_ 1 41 ?_
          refine oz_ 2 42 ?_
          refine oz_ 4 44 ?_
          refine oz_ 5 45 ?_
          refine oz_ 6 46 ?_
          refine tz2_ 3 43 hHeld ?_
          refine tz2_ 7 47 hHeld ?_
          refine oz_ 8 48 ?_
          refine done_ (by kernel_rfl) ?_
          go_wp2
          go_roundw
          case measure => simp only [intOf, hwk]; omega
          case rel => exact ⟨k + 1, by omega, by omega, by first | rfl | rw [hwk], by rw [HR.out], HB, HRE, HD_16_0⟩
        ·have c3b := decide_eq_false c3
         have hs := Sep.fcSum_succ T o m i hi0; have HS := aM hs; clear hs; obtain rfl : k = (o.length : Int) := by omega
         go_wp2
         go_roundw
         case measure => simp only [intOf, hwi]; omega
         case rel => exact ⟨i + 1, by omega, by omega, zci_, by rw [HS.out, ← HOL.out, Int.toNat_natCast], HB, HRE, HO⟩
      ·have c2b := decide_eq_false c2
       obtain rfl : i = (o.length : Int) := by omega
       have hn : fcSum T o m ((o.length : Int)).toNat = fcSum T o m m := by rw [Int.toNat_natCast, hol]
       rw [hn]; clear hn
       by_cases c5 : (fcAt T m os j.toNat).2 < 0
       ·have c5b := decide_eq_true c5
        have hp := HST.out
        unfold Sep.fcPick at hp
        rw [if_pos (Or.inl c5)] at hp; have HP := aM hp; clear hp HST
        go_wp2
        go_roundw
        case measure => simp only [intOf, hwj]; omega
        case rel => exact ⟨j + 1, by omega, by omega, zdd_, by rw [HP.out], ⟨by rw [HP.out]; exact HRE.out⟩, HO⟩
       ·have c5b := decide_eq_false c5
        by_cases c6 : fcSum T o m m < (fcAt T m os j.toNat).2
        ·have c6b := decide_eq_true c6
         have hp := HST.out
         unfold Sep.fcPick at hp
         rw [if_pos (Or.inr c6)] at hp; have HP := aM hp; clear hp HST
         go_wp2
         go_roundw
         case measure => simp only [intOf, hwj]; omega
         case rel => exact ⟨j + 1, by omega, by omega, zdd_, by rw [HP.out], ⟨by rw [HP.out]; exact HRE.out⟩, HO⟩
        ·have c6b := decide_eq_false c6
         have hp := HST.out
         unfold Sep.fcPick at hp
         rw [if_neg (by rintro (h | h); exact c5 h; exact c6 h)] at hp; have HP := aM hp; clear hp HST
         go_wp2
         go_roundw
         case measure => simp only [intOf, hwj]; omega
         case rel => exact ⟨j + 1, by omega, by omega, zdd_, by rw [HP.out], ⟨by rw [HP.out]; exact HB.out⟩, HO⟩
    ·have c1b := decide_eq_false c1
     obtain rfl : j = (os.length : Int) := by omega
     simp only [Int.toNat_natCast]
     have hb := HB.out; rw [Int.toNat_natCast] at hb; have HB2 := aM hb; clear hb
     go_wp2
     go_ret3
     obtain ⟨P_, hP⟩ := HB2.out
     exact ⟨_, rfl, Kd.R_mono hP (fun _ _ => trivial), HO.out.base⟩
  ·cases h2
def spec_l1Own.f (l0 : List Int) : Option (List Int) := (some (([] : List Int) : List Int)).bind fun y281 => (if y281.length + l0.length < 17592186044416 then (some (y281 ++ l0)) else (none))
set_option maxHeartbeats 8000000 in
set_option maxRecDepth 100000 in
theorem spec_l1Own.calls (A0 : Option Addr) (c0 : Nat) (l0 : List Int) (r : List Int) (w : World) (hr0 : Kd.C (Kd.int .i64) w A0 l0.length l0) (hc0 : l0.length ≤ c0) (h : spec_l1Own.f l0 = some r) :
  Calls Try.prog 81 #[.slice A0 l0.length c0] w fun e w' => ∃ v0_ : Value, e = .returned (v0_) ∧ Kd.R (Kd.int .i64) 3 w' w.heap.size (fun _ => True) v0_ r ∧ Below w.heap.size w w' := by
 have HR0 := aM hr0
 have HC0 := aM hc0
 clear hr0 hc0
 have HB := aM (Below.refl w.heap.size w)
 have H : ((some (([] : List Int) : List Int)).bind fun y281 => (if y281.length + l0.length < 17592186044416 then (some (y281 ++ l0)) else (none))) = some r := h
 clear h
 obtain ⟨y281, hy281⟩ : ∃ y_ : List Int, y_ = (([] : List Int)) := ⟨_, rfl⟩
 replace H : (if y281.length + l0.length < 17592186044416 then (some (y281 ++ l0)) else (none)) = some r := q3y_ hy281 H
 have Ny281 := aM hy281
 clear hy281
 by_cases c2 : y281.length + l0.length < 17592186044416
 ·rw [if_pos c2] at H
  have LMc2 := aM c2; clear c2; obtain ⟨y284, hy284⟩ : ∃ y_ : List Int, y_ = (y281 ++ l0) := ⟨_, rfl⟩; replace H : (some y284) = some r := q3y_ hy284 H
  have Ny284 := aM hy284; clear hy284; obtain rfl := Option.some.inj H
  go_enter Try.func81, Try.ntmps81
  go_wp2_with (first | ((with_reducible refine gate_dst (N := 3) rfl ?_); refine Kd.R_lit (Kd.int .i64) _ 3 ?hg (N := 3) ?hd (xs := ([] : List Int)) (inner := []) (ok := fun _ => True) (okp := fun _ => True) ?hr ?hp (fun _ hk => hk) trivial (Below.refl _ _) (Nat.le_refl _) (by simp) ?_; (case hd => rfl); (case hg => rfl); (case hr => exact zd_); (case hp => exact (Reps.none _ _)); intro v282 w3 ho4 hb hg_ hnew_; clear hg_ hnew_; (first | rw [← Ny281.out] at ho4 | (simp only [Int.reduceToNat] at ho4; rw [← Ny281.out] at ho4)); have n_ := z (Kd.R_lower ho4 (below_size zb_)) <| z1 (below_step zb_ hb); clear HB; obtain ⟨HO283, HB⟩ := n_; clear hb ho4) | ((with_reducible refine gate_builtin (b := .append) (xs := #[.tmp 3, .tmp 4]) rfl ?_); at_builtin; refine Kd.R_append_rows (Kd.int .i64) (w0 := w) w.heap.size rfl (.tmp 3) (.tmp 4) 39 3 (.int .i64 0) 8 rfl Try.underlying39 info3 rfl (by decide) (by omega) v282 y281 l0 _ _ _ (fun _ => True) (fun _ => False) rfl rfl ?aO ?aR (fun _ _ h => h) (fun _ h => h.elim) ?aF ?aB ?aS ?aL ?_; (case aR => exact zia_); (case aB => exact zde_); (case aF => exact zcd_); (case aO => exact (zr HO283.out)); (case aS => exact zdf_); (case aL => have := LMc2.out; omega); intro v285 w5 ho hb hg hat; rw [← Ny284.out] at ho; have n_ := z (hb) <| z1 (ho); clear HB HO283; obtain ⟨HB, HO286⟩ := n_; clear ho hb hg hat))
  go_ret
  exact ⟨_, zh_, by refine zr ?_; exact HO286.out, zb_⟩
 ·rw [if_neg c2] at H
  exact q3n_ H
def spec_l1Has.l0 : Nat → Int → List Int → Int → Int → Option (Bool)
 | 0, _, _, _, _ => none
 | k + 1, x1, x7, x8, x9 => if x9 < x8 then (if 0 ≤ x9 then (if x9 < (x7.length : Int) then (if (rd x7 x9) = x1 then (some true) else (spec_l1Has.l0 k x1 x7 x8 (wrap64 (x9 + 1)))) else (none)) else (none)) else (some false)
def spec_l1Has.f (k : Nat) (l0 : List Int) (a1 : Int) : Option (Bool) := spec_l1Has.l0 k a1 l0 (l0.length : Int) 0
set_option maxHeartbeats 8000000 in
set_option maxRecDepth 100000 in
theorem spec_l1Has.calls (k : Nat) (A0 : Option Addr) (c0 : Nat) (l0 : List Int) (a1 : Int) (r : Bool) (w : World) (hr0 : Kd.C (Kd.int .i64) w A0 l0.length l0) (hc0 : l0.length ≤ c0) (h : spec_l1Has.f k l0 a1 = some r) :
  Calls Try.prog 120 #[.slice A0 l0.length c0, .int .i64 a1] w fun e w' => e = .returned (.bool r) ∧ Drawn0 w w' := by
 have HR0 := aM hr0
 have HC0 := aM hc0
 clear hr0 hc0
 have H : (spec_l1Has.l0 k a1 l0 (l0.length : Int) 0) = some r := h
 clear h
 have H' := aM H
 clear H
 go_enter Try.func120, Try.ntmps120
 go_wp2
 go_loopg [9] k (fun kq v9 w' => ∃ (x9_1 : Int), v9 = .int .i64 x9_1 ∧ Aside0 (spec_l1Has.l0 kq a1 l0 (l0.length : Int) x9_1 = some r) ∧ Aside0 (kq ≤ k) ∧ Drawn0 w w')
 case atStart => exact ⟨(0), zc_, H', ⟨Nat.le_refl _⟩, zg_⟩
 case round =>
  clear H'; obtain ⟨x9_1, rfl, HA, HK1, ⟨m1, rfl⟩⟩ := hrel
  cases gk with
  | zero => exact absurd HA.out (by simp [spec_l1Has.l0])
  | succ k1 =>
   have H := HA.out; clear HA
   simp only [spec_l1Has.l0] at H
   by_cases c3 : x9_1 < (l0.length : Int)
   ·rw [if_pos c3] at H
    have c3b0 := decide_eq_true c3; clear c3
    by_cases c4 : 0 ≤ x9_1
    ·rw [if_pos c4] at H
     have c4b0 := decide_eq_true c4; clear c4
     by_cases c5 : x9_1 < (l0.length : Int)
     ·rw [if_pos c5] at H
      have c5b0 := decide_eq_true c5; clear c5
      by_cases c6 : (rd l0 x9_1) = a1
      ·rw [if_pos c6] at H
       have c6b0 := beq_iff_eq.mpr c6; have c6b1 := bne_eq_false_iff_eq.mpr c6; clear c6; obtain rfl := Option.some.inj H; have p287 : 0 ≤ (x9_1 : Int) := of_decide_eq_true za_; have q287 : x9_1 < (l0.length : Int) := of_decide_eq_true za_; obtain ⟨ad287, e287, hx287_0⟩ := Kd.at_int HR0.out x9_1 p287 q287
       cases e287
       replace p287 := eq_true p287; replace q287 := eq_true q287
       go_wp2
       go_ret
       exact ⟨zc_, zg_⟩
      ·rw [if_neg c6] at H
       have c6b0 := beq_eq_false_iff_ne.mpr c6; have c6b1 := bne_iff_ne.mpr c6; have H' := aM H; clear H; have p287 : 0 ≤ (x9_1 : Int) := of_decide_eq_true za_; have q287 : x9_1 < (l0.length : Int) := of_decide_eq_true za_; obtain ⟨ad287, e287, hx287_0⟩ := Kd.at_int HR0.out x9_1 p287 q287
       cases e287
       replace p287 := eq_true p287; replace q287 := eq_true q287
       go_wp2
       go_roundg k1
       case measure => have := HK1.out; omega
       case rel => exact ⟨(wrap64 (x9_1 + 1)), zc_, H', ⟨zbe_⟩, zg_⟩
     ·rw [if_neg c5] at H
      exact q3n_ H
    ·rw [if_neg c4] at H
     exact q3n_ H
   ·rw [if_neg c3] at H
    have c3b0 := decide_eq_false c3; clear c3; obtain rfl := Option.some.inj H
    go_wp2
    go_ret
    exact ⟨zc_, zg_⟩
theorem spec_ddOrders.has (l : List Int) (v : Int) : ∀ (r p : List Int) (i : Int) (k : Nat), l.length ≤ 1000 → i = p.length → l = p ++ r → r.length < k → spec_l1Has.l0 k v l (l.length : Int) i = some (decide (v ∈ r)) := by
 intro r
 induction r with
 | nil =>
  intro p i k hl hi he hk
  obtain ⟨k, rfl⟩ : ∃ m, k = m + 1 := ⟨k - 1, by simp at hk; omega⟩; rw [spec_l1Has.l0, if_neg (by rw [he, hi]; simp)]
  simp
 | cons x r ih =>
  intro p i k hl hi he hk
  obtain ⟨k, rfl⟩ : ∃ m, k = m + 1 := ⟨k - 1, by simp at hk; omega⟩; have hlen : l.length = p.length + r.length + 1 := by rw [he]; simp; omega
  have hx : rd l i = x := by rw [he, hi]; simp [rd, List.getD_eq_getElem?_getD]
  rw [spec_l1Has.l0, if_pos (by omega), if_pos (by omega), if_pos (by omega), hx]
  by_cases h : x = v
  ·rw [if_pos h, h]; simp
  ·have h1 := ih (p ++ [x]) (i + 1) k hl (by rw [hi]; simp) (by rw [he]; simp) (by simp at hk; omega)
   rw [if_neg h, show wrap64 (i + 1) = i + 1 by unfold wrap64; omega, h1]
   simp [show ¬ v = x from fun e => h e.symm]
theorem spec_ddOrders.has' (l : List Int) (v : Int) (k : Nat) (hk : l.length < k ∧ l.length ≤ 1000) : spec_l1Has.f k l v = some (decide (v ∈ l)) := by
 unfold spec_l1Has.f
 exact spec_ddOrders.has l v l [] 0 k hk.2 rfl rfl hk.1
open Go.Proofs.Ytlnhpkjioppbiaa.Sep in
set_option maxHeartbeats 8000000 in
set_option maxRecDepth 100000 in
theorem spec_ddOrders.ext (n : Nat) (hn : n ≤ 8) (w0 : World) : ∀ (d : Nat) (list : List Int) (w : World) (vl : Value) (F : List Sep.Item) (_h : Own w0 w (Sep.Item.row (Kd.int .i64) 3 vl list :: F)) (_hl : list.length + d = n),
  Calls Try.prog 77 #[.int .i64 (n : Int), vl] w fun e w' => ∃ v : Value, e = .returned v ∧ Own w0 w' (Sep.Item.row (Kd.slice 3 (Kd.int .i64)) 39 v (pm n d list) :: F) := by
 intro d
 induction d with
 | zero =>
  intro list w vl F h hl
  obtain ⟨Al, cl, rfl⟩ := h.row_slice 0 rfl; have HO := aM h; have HL := aM hl; clear h; have c0b : ((list.length : Int) == (n : Int)) = true := beq_iff_eq.mpr (by have := HL.out; omega)
  go_enter Try.func77, Try.ntmps77
  go_wp2_with (first | ((with_reducible refine gate_dst (N := 12) rfl ?_); refine Sep.own_lit_row (Kd.int .i64) 3 HO.out 0 _ (list) rfl 39 ?hg (N := 12) ?hd ?hr ?_; (case hd => rfl); (case hg => rfl); (case hr => exact zd_); intro x_12 w_1 ho; have HO_1 := aM ho; clear ho))
  go_ret
  exact ⟨_, rfl, HO_1.out⟩
 | succ d ih =>
  intro list w vl F h hl
  obtain ⟨Al, cl, rfl⟩ := h.row_slice 0 rfl; have HO := aM h; have HL := aM hl; clear h; have c0b : ((list.length : Int) == (n : Int)) = false := beq_eq_false_iff_ne.mpr (by have := HL.out; omega); have IH := aM ih; clear ih
  go_enter Try.func77, Try.ntmps77
  go_wp2
  go_loopw [5, 6] (fun v5 v6 w' => ∃ (i : Int), 0 ≤ i ∧ i ≤ (n : Int) ∧ v6 = .int .i64 i ∧ Aside0 (Own w0 w' (Sep.Item.row (Kd.int .i64) 3 (.slice Al list.length cl) list :: Sep.Item.row (Kd.slice 3 (Kd.int .i64)) 39 v5 (pmTo n d list i.toNat) :: F))) (fun _ v6 _ => n - (intOf v6).toNat)
  case atStart => exact ⟨0, Int.le_refl _, by omega, rfl, ⟨(HO.out.nilrow (Kd.slice 3 (Kd.int .i64)) 39).front 1 rfl⟩⟩
  case round =>
   obtain ⟨i, hi0, hi1, rfl, HO1⟩ := hrel; clear HO; have HO := HO1; clear HO1
   by_cases c1 : i < (n : Int)
   ·have c1b := decide_eq_true c1
    have hwi : wrap64 (i + 1) = i + 1 := by have := hn; unfold wrap64; omega
    have HS := aM (show Sep.pmTo n d list i.toNat ++ (if i ∈ list then [] else Sep.pm n d (list ++ [i])) = Sep.pmTo n d list (i + 1).toNat from by rw [show (i + 1).toNat = i.toNat + 1 by omega, pmTo_succ, Int.toNat_of_nonneg hi0])
    by_cases c2 : i ∈ list
    ·have c2b := decide_eq_true c2
     have HS2 := HS.out; rw [if_pos c2, List.append_nil] at HS2; have HS3 := aM HS2; clear HS2 HS
     go_wp2_with (first | ((with_reducible refine gate_callee (f := 120) rfl ?_); refine goesL_ (some 20) rfl rfl Try.func120 (by kernel_rfl) rfl #[.slice Al list.length cl, .int .i64 i] rfl ze_ ?_; (with_reducible refine (spec_l1Has.calls 100 Al cl (list) i _ wr (by exact (HO.out.row_reads 0 rfl).2.2) (by exact (HO.out.row_reads 0 rfl).2.1) (spec_ddOrders.has' (list) i 100 (by have := HL.out; omega))).mono ?_); rintro e w_1 ⟨rfl, hd⟩; refine ⟨_, rfl, ?_⟩; have HO_1 := aM (HO.out.below hd.below); clear hd))
     go_roundw
     case measure => simp only [intOf, hwi]; omega
     case rel => exact ⟨i + 1, by omega, by omega, zci_, ⟨by have ho := HO_1.out; rw [HS3.out] at ho; exact ho⟩⟩
    ·have c2b := decide_eq_false c2
     have HS2 := HS.out; rw [if_neg c2] at HS2; have HS3 := aM HS2; clear HS2 HS
     go_wp2_with (first | ((with_reducible refine gate_callee (f := 120) rfl ?_); refine goesL_ (some 20) rfl rfl Try.func120 (by kernel_rfl) rfl #[.slice Al list.length cl, .int .i64 i] rfl ze_ ?_; (with_reducible refine (spec_l1Has.calls 100 Al cl (list) i _ wr (by exact (HO.out.row_reads 0 rfl).2.2) (by exact (HO.out.row_reads 0 rfl).2.1) (spec_ddOrders.has' (list) i 100 (by have := HL.out; omega))).mono ?_); rintro e w_1 ⟨rfl, hd⟩; refine ⟨_, rfl, ?_⟩; have HO_1 := aM (HO.out.below hd.below); clear hd) | ((with_reducible refine gate_callee (f := 81) rfl ?_); refine goesL_ (some 25) rfl rfl Try.func81 (by kernel_rfl) rfl #[.slice Al list.length cl] rfl ze_ ?_; (with_reducible refine (spec_l1Own.calls Al cl (list) (list) w_1 (by exact (HO_1.out.row_reads 0 rfl).2.2) (by exact (HO_1.out.row_reads 0 rfl).2.1) (by have := HL.out; simp [spec_l1Own.f]; omega)).mono ?_); rintro e w_2 ⟨v_2, rfl, hR, hb⟩; refine ⟨_, rfl, ?_⟩; have ho := (HO_1.out.add_row hR hb); obtain ⟨A_q1, c_q1, rfl⟩ := ho.row_slice 0 rfl; have HO_2 := aM ho; clear ho hR hb) | ((with_reducible refine gate_dst (N := 28) rfl ?_); at_builtin; refine Sep.own_append (Kd.int .i64) HO_2.out 0 _ ((list)) 3 rfl rfl (.tmp 25) (.tmp 27) 39 (.int .i64 0) 8 rfl Try.underlying39 info3 rfl (by decide) (by omega) i [.int .i64 i] rfl rfl rfl zdh_ ?_; intro x_28 w_4 ho; obtain ⟨A_28, n_28, c_28, hn_, rfl⟩ := ho.row_seal 0 rfl; have HN_28 := aM hn_; clear hn_; have HO_4 := aM ho; clear ho) | ((with_reducible refine gate_callee (f := 77) rfl ?_); refine goesL_ (some 29) rfl rfl Try.func77 (by kernel_rfl) rfl #[.int .i64 ((n : Int)), .slice A_28 n_28 c_28] rfl ze_ ?_; refine (IH.out (list ++ [i]) _ _ (Item.row (Kd.int .i64) 3 (.slice Al list.length cl) (list) :: Item.row (Kd.slice 3 (Kd.int .i64)) 39 (u5) ((Sep.pmTo n d list i.toNat)) :: F) HO_4.out zdh_).mono ?_; rintro e w_5 ⟨x_29, rfl, ho⟩; refine ⟨_, rfl, ?_⟩; obtain ⟨A_29, c_29, rfl⟩ := ho.row_slice 0 rfl; have HO_5 := aM ho; clear ho) | ((with_reducible refine gate_dst (N := 30) rfl ?_); at_builtin; refine Sep.own_merge (Kd.slice 3 (Kd.int .i64)) HO_5.out 2 0 (by decide) _ ((Sep.pmTo n d list i.toNat)) 39 rfl A_29 ((Sep.pm n d (list ++ [i])).length) c_29 ((Sep.pm n d (list ++ [i]))) rfl rfl (.tmp 22) (.tmp 29) 63 (.slice none 0 0) 24 rfl Try.underlying63 info39 rfl (by decide) (by omega) rfl rfl (by have h1 := Sep.pmTo_length hn d list i.toNat; have h2 := Sep.pm_length hn d (list ++ [i]); have h3 : 8 ^ d ≤ 8 ^ 8 := Nat.pow_le_pow_right (by decide) (by omega); have h4 : i.toNat * 8 ^ d ≤ 8 * 8 ^ d := Nat.mul_le_mul_right _ (by omega); simp only [Nat.reducePow] at h3; omega) ?_; intro x_30 w_6 ho; have HO_6 := aM ho; clear ho))
     go_roundw
     case measure => simp only [intOf, hwi]; omega
     case rel => exact ⟨i + 1, by omega, by omega, zci_, ⟨by have ho := (((HO_6.out.front 2 rfl).front 2 rfl).front 2 rfl).tail; rw [HS3.out] at ho; exact ho⟩⟩
   ·have c1b := decide_eq_false c1
    obtain rfl : i = (n : Int) := by omega
    have ho := HO.out.tail; rw [Int.toNat_natCast] at ho; have HO1 := aM ho; clear ho
    go_wp2
    go_ret
    exact ⟨_, rfl, HO1.out⟩
def spec_plWires.l0 : Nat → List (List Int) → Int → List (List Int) → Int → Int → Option (Bool)
 | 0, _, _, _, _, _ => none
 | k + 1, x0, x1, x7, x8, x9 => if x9 < x8 then (if 0 ≤ x9 then (if x9 < (x7.length : Int) then (if ((rd_L4 x7 x9).length : Int) = 2 then (if 0 < ((rd_L4 x7 x9).length : Int) then ((spec_l1In.f (rd (rd_L4 x7 x9) 0) 0 29).bind fun t291 => (if t291 = true then (if 1 < ((rd_L4 x7 x9).length : Int) then ((spec_l1In.f (rd (rd_L4 x7 x9) 1) 0 (wrap64 (x1 - 1))).bind fun t293 => (if t293 = true then (spec_plWires.l0 k x0 x1 x7 x8 (wrap64 (x9 + 1))) else (some false))) else (none)) else (some false))) else (none)) else (some false)) else (none)) else (none)) else (if (x0.length : Int) ≤ 30 then ((spec_l1In.f x1 1 7).bind fun t288 => (some t288)) else (some false))
def spec_plWires.f (k : Nat) (l0 : List (List Int)) (a1 : Int) : Option (Bool) := spec_plWires.l0 k l0 a1 l0 (l0.length : Int) 0
set_option maxHeartbeats 8000000 in
set_option maxRecDepth 100000 in
theorem spec_plWires.calls (k : Nat) (A0 : Option Addr) (c0 : Nat) (l0 : List (List Int)) (a1 : Int) (r : Bool) (w : World) (hr0 : Kd.C (Kd.slice 3 (Kd.int .i64)) w A0 l0.length l0) (hc0 : l0.length ≤ c0) (h : spec_plWires.f k l0 a1 = some r) :
  Calls Try.prog 91 #[.slice A0 l0.length c0, .int .i64 a1] w fun e w' => e = .returned (.bool r) ∧ Drawn0 w w' := by
 have HR0 := aM hr0
 have HC0 := aM hc0
 clear hr0 hc0
 have H : (spec_plWires.l0 k l0 a1 l0 (l0.length : Int) 0) = some r := h
 clear h
 have H' := aM H
 clear H
 go_enter Try.func91, Try.ntmps91
 go_wp2
 go_loopg [9] k (fun kq v9 w' => ∃ (x9_1 : Int), v9 = .int .i64 x9_1 ∧ Aside0 (spec_plWires.l0 kq l0 a1 l0 (l0.length : Int) x9_1 = some r) ∧ Aside0 (kq ≤ k) ∧ Drawn0 w w')
 case atStart => exact ⟨(0), zc_, H', ⟨Nat.le_refl _⟩, zg_⟩
 case round =>
  clear H'; obtain ⟨x9_1, rfl, HA, HK1, ⟨m1, rfl⟩⟩ := hrel
  cases gk with
  | zero => exact absurd HA.out (by simp [spec_plWires.l0])
  | succ k1 =>
   have H := HA.out; clear HA
   simp only [spec_plWires.l0] at H
   by_cases c3 : x9_1 < (l0.length : Int)
   ·rw [if_pos c3] at H
    have c3b0 := decide_eq_true c3; clear c3
    by_cases c4 : 0 ≤ x9_1
    ·rw [if_pos c4] at H
     have c4b0 := decide_eq_true c4; clear c4
     by_cases c5 : x9_1 < (l0.length : Int)
     ·rw [if_pos c5] at H
      have c5b0 := decide_eq_true c5; clear c5
      by_cases c6 : ((rd_L4 l0 x9_1).length : Int) = 2
      ·rw [if_pos c6] at H
       have c6b0 := beq_iff_eq.mpr c6; have c6b1 := bne_eq_false_iff_eq.mpr c6; clear c6
       by_cases c7 : 0 < ((rd_L4 l0 x9_1).length : Int)
       ·rw [if_pos c7] at H
        have c7b0 := decide_eq_true c7; have c7b1 : decide (0 < (rd_L4 l0 x9_1).length) = true := decide_eq_true (by omega); clear c7; replace H := oB.mp H; obtain ⟨t291, A80, H⟩ := H; replace H : (if t291 = true then (if 1 < ((rd_L4 l0 x9_1).length : Int) then ((spec_l1In.f (rd (rd_L4 l0 x9_1) 1) 0 (wrap64 (a1 - 1))).bind fun t293 => (if t293 = true then (spec_plWires.l0 k1 l0 a1 l0 (l0.length : Int) (wrap64 (x9_1 + 1))) else (some false))) else (none)) else (some false)) = some r := H; have A8 := aM A80; clear A80
        by_cases c9 : t291 = true
        ·subst c9
         have H1 : (if 1 < ((rd_L4 l0 x9_1).length : Int) then ((spec_l1In.f (rd (rd_L4 l0 x9_1) 1) 0 (wrap64 (a1 - 1))).bind fun t293 => (if t293 = true then (spec_plWires.l0 k1 l0 a1 l0 (l0.length : Int) (wrap64 (x9_1 + 1))) else (some false))) else (none)) = some r := by rw [if_pos rfl] at H; exact H
         clear H; have H := H1; clear H1
         by_cases c10 : 1 < ((rd_L4 l0 x9_1).length : Int)
         ·rw [if_pos c10] at H
          have c10b0 := decide_eq_true c10; have c10b1 : decide (1 < (rd_L4 l0 x9_1).length) = true := decide_eq_true (by omega); clear c10; replace H := oB.mp H; obtain ⟨t293, A110, H⟩ := H; replace H : (if t293 = true then (spec_plWires.l0 k1 l0 a1 l0 (l0.length : Int) (wrap64 (x9_1 + 1))) else (some false)) = some r := H; have A11 := aM A110; clear A110
          by_cases c12 : t293 = true
          ·subst c12
           have H1 : (spec_plWires.l0 k1 l0 a1 l0 (l0.length : Int) (wrap64 (x9_1 + 1))) = some r := by rw [if_pos rfl] at H; exact H
           clear H; have H := H1; clear H1; have H' := aM H; clear H; have p289 : 0 ≤ (x9_1 : Int) := of_decide_eq_true za_; have q289 : x9_1 < (l0.length : Int) := of_decide_eq_true za_; obtain ⟨ad289, A289_0, c289_0, e289, hx289_0, hl289_0, hi289_0⟩ := at_L4 HR0.out x9_1 p289 q289
           cases e289
           have HR289_0 := aM hi289_0; have HC289_0 := aM hl289_0; clear hi289_0 hl289_0; replace p289 := eq_true p289; replace q289 := eq_true q289; have p290 : 0 ≤ (0 : Int) := (by omega); have q290 : 0 < ((rd_L4 l0 x9_1).length : Int) := of_decide_eq_true za_; obtain ⟨ad290, e290, hx290_0⟩ := Kd.at_int HR289_0.out 0 p290 q290
           cases e290
           have qi290 : (0 < (rd_L4 l0 x9_1).length) = True := eq_true (by omega); (try rw [show ((0 : Int)).toNat = 0 from rfl] at hx290_0); (try rw [Addr.add_zero'] at hx290_0); replace p290 := eq_true p290; replace q290 := eq_true q290
           go_wp2_with (first | (go_at_call 101; (with_reducible refine (spec_l1In.calls (rd (rd_L4 l0 x9_1) 0) 0 29 true _ A8.out).mono ?_); rintro e w' ⟨rfl, ⟨nd, rfl⟩⟩; have p292 : 0 ≤ (1 : Int) := (by omega); have q292 : 1 < ((rd_L4 l0 x9_1).length : Int) := of_decide_eq_true za_; obtain ⟨ad292, e292, hx292_0⟩ := Kd.at_int HR289_0.out 1 p292 q292; obtain rfl : ad290 = ad292 := (by injection e292); (try simp only [show (1 : Int).toNat = 1 from rfl, Nat.reduceMul, Nat.reduceEqDiff, Go.Addr.add, ↓reduceIte] at hx292_0); have qi292 : (1 < (rd_L4 l0 x9_1).length) = True := eq_true (by omega); (try rw [show ((1 : Int)).toNat = 1 from rfl] at hx292_0); replace p292 := eq_true p292; replace q292 := eq_true q292) | (go_at_call 101; (with_reducible refine (spec_l1In.calls (rd (rd_L4 l0 x9_1) 1) 0 (wrap64 (a1 - 1)) true _ A11.out).mono ?_); rintro e w' ⟨rfl, ⟨nd, rfl⟩⟩))
           go_roundg k1
           case measure => have := HK1.out; omega
           case rel => exact ⟨(wrap64 (x9_1 + 1)), zc_, H', ⟨zbe_⟩, zg_⟩
          ·replace c12 := Bool.eq_false_iff.mpr c12
           subst c12; have H1 : (some false) = some r := by rw [if_neg (show ¬ (false = true) by decide)] at H; exact H
           clear H; have H := H1; clear H1; obtain rfl := Option.some.inj H; have p289 : 0 ≤ (x9_1 : Int) := of_decide_eq_true za_; have q289 : x9_1 < (l0.length : Int) := of_decide_eq_true za_; obtain ⟨ad289, A289_0, c289_0, e289, hx289_0, hl289_0, hi289_0⟩ := at_L4 HR0.out x9_1 p289 q289
           cases e289
           have HR289_0 := aM hi289_0; have HC289_0 := aM hl289_0; clear hi289_0 hl289_0; replace p289 := eq_true p289; replace q289 := eq_true q289; have p290 : 0 ≤ (0 : Int) := (by omega); have q290 : 0 < ((rd_L4 l0 x9_1).length : Int) := of_decide_eq_true za_; obtain ⟨ad290, e290, hx290_0⟩ := Kd.at_int HR289_0.out 0 p290 q290
           cases e290
           have qi290 : (0 < (rd_L4 l0 x9_1).length) = True := eq_true (by omega); (try rw [show ((0 : Int)).toNat = 0 from rfl] at hx290_0); (try rw [Addr.add_zero'] at hx290_0); replace p290 := eq_true p290; replace q290 := eq_true q290
           go_wp2_with (first | (go_at_call 101; (with_reducible refine (spec_l1In.calls (rd (rd_L4 l0 x9_1) 0) 0 29 true _ A8.out).mono ?_); rintro e w' ⟨rfl, ⟨nd, rfl⟩⟩; have p292 : 0 ≤ (1 : Int) := (by omega); have q292 : 1 < ((rd_L4 l0 x9_1).length : Int) := of_decide_eq_true za_; obtain ⟨ad292, e292, hx292_0⟩ := Kd.at_int HR289_0.out 1 p292 q292; obtain rfl : ad290 = ad292 := (by injection e292); (try simp only [show (1 : Int).toNat = 1 from rfl, Nat.reduceMul, Nat.reduceEqDiff, Go.Addr.add, ↓reduceIte] at hx292_0); have qi292 : (1 < (rd_L4 l0 x9_1).length) = True := eq_true (by omega); (try rw [show ((1 : Int)).toNat = 1 from rfl] at hx292_0); replace p292 := eq_true p292; replace q292 := eq_true q292) | (go_at_call 101; (with_reducible refine (spec_l1In.calls (rd (rd_L4 l0 x9_1) 1) 0 (wrap64 (a1 - 1)) false _ A11.out).mono ?_); rintro e w' ⟨rfl, ⟨nd, rfl⟩⟩))
           go_ret
           exact ⟨zc_, zg_⟩
         ·rw [if_neg c10] at H
          exact q3n_ H
        ·replace c9 := Bool.eq_false_iff.mpr c9
         subst c9; have H1 : (some false) = some r := by rw [if_neg (show ¬ (false = true) by decide)] at H; exact H
         clear H; have H := H1; clear H1; obtain rfl := Option.some.inj H; have p289 : 0 ≤ (x9_1 : Int) := of_decide_eq_true za_; have q289 : x9_1 < (l0.length : Int) := of_decide_eq_true za_; obtain ⟨ad289, A289_0, c289_0, e289, hx289_0, hl289_0, hi289_0⟩ := at_L4 HR0.out x9_1 p289 q289
         cases e289
         have HR289_0 := aM hi289_0; have HC289_0 := aM hl289_0; clear hi289_0 hl289_0; replace p289 := eq_true p289; replace q289 := eq_true q289; have p290 : 0 ≤ (0 : Int) := (by omega); have q290 : 0 < ((rd_L4 l0 x9_1).length : Int) := of_decide_eq_true za_; obtain ⟨ad290, e290, hx290_0⟩ := Kd.at_int HR289_0.out 0 p290 q290
         cases e290
         have qi290 : (0 < (rd_L4 l0 x9_1).length) = True := eq_true (by omega); (try rw [show ((0 : Int)).toNat = 0 from rfl] at hx290_0); (try rw [Addr.add_zero'] at hx290_0); replace p290 := eq_true p290; replace q290 := eq_true q290
         go_wp2_with (first | (go_at_call 101; (with_reducible refine (spec_l1In.calls (rd (rd_L4 l0 x9_1) 0) 0 29 false _ A8.out).mono ?_); rintro e w' ⟨rfl, ⟨nd, rfl⟩⟩))
         go_ret
         exact ⟨zc_, zg_⟩
       ·rw [if_neg c7] at H
        exact q3n_ H
      ·rw [if_neg c6] at H
       have c6b0 := beq_eq_false_iff_ne.mpr c6; have c6b1 := bne_iff_ne.mpr c6; obtain rfl := Option.some.inj H; have p289 : 0 ≤ (x9_1 : Int) := of_decide_eq_true za_; have q289 : x9_1 < (l0.length : Int) := of_decide_eq_true za_; obtain ⟨ad289, A289_0, c289_0, e289, hx289_0, hl289_0, hi289_0⟩ := at_L4 HR0.out x9_1 p289 q289
       cases e289
       have HR289_0 := aM hi289_0; have HC289_0 := aM hl289_0; clear hi289_0 hl289_0; replace p289 := eq_true p289; replace q289 := eq_true q289
       go_wp2
       go_ret
       exact ⟨zc_, zg_⟩
     ·rw [if_neg c5] at H
      exact q3n_ H
    ·rw [if_neg c4] at H
     exact q3n_ H
   ·rw [if_neg c3] at H
    have c3b0 := decide_eq_false c3; clear c3
    by_cases c13 : (l0.length : Int) ≤ 30
    ·rw [if_pos c13] at H
     have c13b0 := decide_eq_true c13; have c13b1 : decide (l0.length ≤ 30) = true := decide_eq_true (by omega); clear c13; replace H := oB.mp H; obtain ⟨t288, A140, H⟩ := H; replace H : (some t288) = some r := H; have A14 := aM A140; clear A140; obtain rfl := Option.some.inj H
     go_wp2_with (first | (go_at_call 101; (with_reducible refine (spec_l1In.calls a1 1 7 t288 _ A14.out).mono ?_); rintro e w' ⟨rfl, ⟨nd, rfl⟩⟩))
     go_ret
     exact ⟨zc_, zg_⟩
    ·rw [if_neg c13] at H
     have c13b0 := decide_eq_false c13; have c13b1 : decide (l0.length ≤ 30) = false := decide_eq_false (by omega); clear c13; obtain rfl := Option.some.inj H
     go_wp2
     go_ret
     exact ⟨zc_, zg_⟩
mutual
def spec_plTable.l0 : Nat → List (List Int) → Int → List (List Int) → Int → Option ((List (List Int)))
 | 0, _, _, _, _ => none
 | k + 1, x0, x1, x5, x6 => if x6 < x1 then (if 0 ≤ x1 then (if (x1 : Int).toNat ≤ 35184372088832 then (spec_plTable.l1 k x0 x1 x5 x6 (List.replicate (x1 : Int).toNat 0) x0 (x0.length : Int) 0) else (none)) else (none)) else (some x5)
def spec_plTable.l1 : Nat → List (List Int) → Int → List (List Int) → Int → List Int → List (List Int) → Int → Int → Option ((List (List Int)))
 | 0, _, _, _, _, _, _, _, _ => none
 | k + 1, x0, x1, x5, x6, x7, x19, x20, x21 => if x21 < x20 then (if 0 ≤ x21 then (if x21 < (x19.length : Int) then (spec_plTable.l2 k x0 x1 x5 x6 x7 (rd_L4 x19 x21) x19 x20 x21 x0 (x0.length : Int) 0) else (none)) else (none)) else (if x5.length < 5864062014805 then (spec_plTable.l0 k x0 x1 (x5 ++ [x7]) (wrap64 (x6 + 1))) else (none))
def spec_plTable.l2 : Nat → List (List Int) → Int → List (List Int) → Int → List Int → List Int → List (List Int) → Int → Int → List (List Int) → Int → Int → Option ((List (List Int)))
 | 0, _, _, _, _, _, _, _, _, _, _, _, _ => none
 | k + 1, x0, x1, x5, x6, x7, x9, x19, x20, x21, x25, x26, x27 => if x27 < x26 then (if 0 ≤ x27 then (if x27 < (x25.length : Int) then (if 1 < (x9.length : Int) then (if (rd x9 1) = x6 then (if 1 < ((rd_L4 x25 x27).length : Int) then (if (rd (rd_L4 x25 x27) 1) = x6 then (spec_plTable.l2 k x0 x1 x5 x6 x7 x9 x19 x20 x21 x25 x26 (wrap64 (x27 + 1))) else (if 0 < (x9.length : Int) then (if 0 < ((rd_L4 x25 x27).length : Int) then (if (rd x9 0) > (rd (rd_L4 x25 x27) 0) then (if 0 ≤ (rd (rd_L4 x25 x27) 1) then (if (rd (rd_L4 x25 x27) 1) < (x7.length : Int) then (spec_plTable.l2 k x0 x1 x5 x6 (x7.set ((rd (rd_L4 x25 x27) 1) : Int).toNat (wrap64 ((rd x7 (rd (rd_L4 x25 x27) 1)) + 1))) x9 x19 x20 x21 x25 x26 (wrap64 (x27 + 1))) else (none)) else (none)) else (spec_plTable.l2 k x0 x1 x5 x6 x7 x9 x19 x20 x21 x25 x26 (wrap64 (x27 + 1)))) else (none)) else (none))) else (none)) else (spec_plTable.l2 k x0 x1 x5 x6 x7 x9 x19 x20 x21 x25 x26 (wrap64 (x27 + 1)))) else (none)) else (none)) else (none)) else (spec_plTable.l1 k x0 x1 x5 x6 x7 x19 x20 (wrap64 (x21 + 1)))
end
def spec_plTable.f (k : Nat) (l0 : List (List Int)) (a1 : Int) : Option ((List (List Int))) := spec_plTable.l0 k l0 a1 ([] : List (List Int)) 0
theorem spec_plTable.calls (k : Nat) (A0 : Option Addr) (c0 : Nat) (l0 : List (List Int)) (a1 : Int) (r : List (List Int)) (w : World) (hr0 : Kd.C (Kd.slice 3 (Kd.int .i64)) w A0 l0.length l0) (hc0 : l0.length ≤ c0) (h : spec_plTable.f k l0 a1 = some r) :
  Calls Try.prog 92 #[.slice A0 l0.length c0, .int .i64 a1] w fun e w' => ∃ v0_ : Value, e = .returned (v0_) ∧ Kd.S (Kd.slice 3 (Kd.int .i64)) 39 w' w.heap.size (fun _ => True) v0_ r ∧ Below w.heap.size w w' := by
 have HR0 := aM hr0
 have HC0 := aM hc0
 clear hr0 hc0
 have HB := aM (Below.refl w.heap.size w)
 have H : (spec_plTable.l0 k l0 a1 ([] : List (List Int)) 0) = some r := h
 clear h
 have H' := aM H
 clear H
 go_enter Try.func92, Try.ntmps92
 go_wp2
 repeat (go_quiet (fail); try go_wp2)
 go_loopg [5, 6] k (fun kq v5 v6 w' => ∃ (x5_1 : List (List Int)) (x6_1 : Int), v6 = .int .i64 x6_1 ∧ Aside0 (spec_plTable.l0 kq l0 a1 x5_1 x6_1 = some r) ∧ Aside0 (kq ≤ k) ∧ Aside0 (Kd.S (Kd.slice 3 (Kd.int .i64)) 39 w' w.heap.size (fun _ => True) v5 x5_1) ∧ Aside0 (Below w.heap.size w w'))
 case atStart => exact ⟨(([] : List (List Int))), (0), zc_, H', ⟨Nat.le_refl _⟩, ⟨zfh_⟩, ⟨zb_⟩⟩
 case round =>
  clear H'; obtain ⟨x5_1, x6_1, rfl, HA, HK1, HO_5, HB⟩ := hrel
  cases gk with
  | zero => exact absurd HA.out (by simp [spec_plTable.l0])
  | succ k1 =>
   have H := HA.out; clear HA
   simp only [spec_plTable.l0] at H
   by_cases c3 : x6_1 < a1
   ·rw [if_pos c3] at H
    have c3b0 := decide_eq_true c3; clear c3
    by_cases c4 : 0 ≤ a1
    ·rw [if_pos c4] at H
     have c4b0 := eq_true c4; have c4b1 := decide_eq_true c4; clear c4
     by_cases c5 : (a1 : Int).toNat ≤ 35184372088832
     ·rw [if_pos c5] at H
      have c5b0 := eq_true c5; have c5b1 := decide_eq_true c5; clear c5; obtain ⟨y294, hy294⟩ : ∃ y_ : List Int, y_ = (List.replicate (a1 : Int).toNat 0) := ⟨_, rfl⟩; replace H : (spec_plTable.l1 k1 l0 a1 x5_1 x6_1 y294 l0 (l0.length : Int) 0) = some r := q3y_ hy294 H
      have Ny294 := aM hy294; clear hy294; have H' := aM H; clear H
      go_wp2_with (first | ((with_reducible refine gate_dst (N := 18) rfl ?_); refine Kd.R_make (Kd.int .i64) _ 3 rfl (N := 18) rfl 39 _ _ rfl a1 rfl rfl Try.underlying39 (.int .i64 0) 8 info3 rfl (by decide) (by omega) 0 (ok := fun _ => True) (okp := fun _ => True) rfl (fun _ hk => hk) trivial (of_decide_eq_true za_) (Nat.le_trans (Nat.mul_le_mul_right _ (of_decide_eq_true za_ : a1.toNat ≤ 35184372088832)) (by omega)) (Below.refl _ _) (Nat.le_refl _) ?_; intro v295 w6 ho7 hb hg_ hnew_; clear hg_ hnew_; (first | rw [← Ny294.out] at ho7 | (simp only [Int.reduceToNat] at ho7; rw [← Ny294.out] at ho7)); have n_ := z (Kd.S_elder' (zs HO_5.out) (Kd.R_base ho7) hb) <| z (Kd.R_lower ho7 (below_size zb_)) <| z1 (below_step zb_ hb); clear HO_5 HB; obtain ⟨HO_5, HO296, HB⟩ := n_; clear hb ho7))
      repeat (go_quiet (first | ((with_reducible refine gate_dst (N := 18) rfl ?_); refine Kd.R_make (Kd.int .i64) _ 3 rfl (N := 18) rfl 39 _ _ rfl a1 rfl rfl Try.underlying39 (.int .i64 0) 8 info3 rfl (by decide) (by omega) 0 (ok := fun _ => True) (okp := fun _ => True) rfl (fun _ hk => hk) trivial (of_decide_eq_true za_) (Nat.le_trans (Nat.mul_le_mul_right _ (of_decide_eq_true za_ : a1.toNat ≤ 35184372088832)) (by omega)) (Below.refl _ _) (Nat.le_refl _) ?_; intro v295 w6 ho7 hb hg_ hnew_; clear hg_ hnew_; (first | rw [← Ny294.out] at ho7 | (simp only [Int.reduceToNat] at ho7; rw [← Ny294.out] at ho7)); have n_ := z (Kd.S_elder' (zs HO_5.out) (Kd.R_base ho7) hb) <| z (Kd.R_lower ho7 (below_size zb_)) <| z1 (below_step zb_ hb); clear HO_5 HB; obtain ⟨HO_5, HO296, HB⟩ := n_; clear hb ho7)); try go_wp2_with (first | ((with_reducible refine gate_dst (N := 18) rfl ?_); refine Kd.R_make (Kd.int .i64) _ 3 rfl (N := 18) rfl 39 _ _ rfl a1 rfl rfl Try.underlying39 (.int .i64 0) 8 info3 rfl (by decide) (by omega) 0 (ok := fun _ => True) (okp := fun _ => True) rfl (fun _ hk => hk) trivial (of_decide_eq_true za_) (Nat.le_trans (Nat.mul_le_mul_right _ (of_decide_eq_true za_ : a1.toNat ≤ 35184372088832)) (by omega)) (Below.refl _ _) (Nat.le_refl _) ?_; intro v295 w6 ho7 hb hg_ hnew_; clear hg_ hnew_; (first | rw [← Ny294.out] at ho7 | (simp only [Int.reduceToNat] at ho7; rw [← Ny294.out] at ho7)); have n_ := z (Kd.S_elder' (zs HO_5.out) (Kd.R_base ho7) hb) <| z (Kd.R_lower ho7 (below_size zb_)) <| z1 (below_step zb_ hb); clear HO_5 HB; obtain ⟨HO_5, HO296, HB⟩ := n_; clear hb ho7)))
      go_loopg [21] k1 (fun kq v21 w' => ∃ (x7_2 : List Int) (x21_2 : Int), v21 = .int .i64 x21_2 ∧ Aside0 (spec_plTable.l1 kq l0 a1 x5_1 x6_1 x7_2 l0 (l0.length : Int) x21_2 = some r) ∧ Aside0 (kq ≤ k1) ∧ Aside0 (Kd.S (Kd.slice 3 (Kd.int .i64)) 39 w' w.heap.size (fun k_ => some k_ ≠ (v295 : Value).ownBlock) u5 x5_1) ∧ Aside0 (Kd.R (Kd.int .i64) 3 w' w.heap.size (fun _ => True) v295 x7_2) ∧ Aside0 (Below w.heap.size w w'))
      case atStart => exact ⟨(y294), (0), zc_, H', ⟨Nat.le_refl _⟩, ⟨by refine zs ?_; exact Kd.S_mono HO_5.out (fun _ hk => hk.2)⟩, ⟨zr HO296.out⟩, ⟨zb_⟩⟩
      case round =>
       clear H'; (try clear c3b0); (try clear c4b0); (try clear c4b1); (try clear c5b0); (try clear c5b1); obtain ⟨x7_2, x21_2, rfl, HA, HK2, HO_5, HO_7, HB⟩ := hrel
       cases gk with
       | zero => exact absurd HA.out (by simp [spec_plTable.l1])
       | succ k2 =>
        have H := HA.out; clear HA
        simp only [spec_plTable.l1] at H
        by_cases c8 : x21_2 < (l0.length : Int)
        ·rw [if_pos c8] at H
         have c8b0 := decide_eq_true c8; clear c8
         by_cases c9 : 0 ≤ x21_2
         ·rw [if_pos c9] at H
          have c9b0 := decide_eq_true c9; clear c9
          by_cases c10 : x21_2 < (l0.length : Int)
          ·rw [if_pos c10] at H
           have c10b0 := decide_eq_true c10; clear c10; have H' := aM H; clear H; have p300 : 0 ≤ (x21_2 : Int) := of_decide_eq_true za_; have q300 : x21_2 < (l0.length : Int) := of_decide_eq_true za_; obtain ⟨ad300, A300_0, c300_0, e300, hx300_0, hl300_0, hi300_0⟩ := at_L4 HR0.out x21_2 p300 q300
           cases e300
           (try (replace hx300_0 := q3h_ HB.out hx300_0)); have HR300_0 := aM hi300_0; have HC300_0 := aM hl300_0; clear hi300_0 hl300_0; replace p300 := eq_true p300; replace q300 := eq_true q300
           go_wp2
           repeat (go_quiet (fail); try go_wp2)
           go_loopg [27] k2 (fun kq v27 w' => ∃ (x7_3 : List Int) (x27_3 : Int), v27 = .int .i64 x27_3 ∧ Aside0 (spec_plTable.l2 kq l0 a1 x5_1 x6_1 x7_3 (rd_L4 l0 x21_2) l0 (l0.length : Int) x21_2 l0 (l0.length : Int) x27_3 = some r) ∧ Aside0 (kq ≤ k2) ∧ Aside0 (Kd.S (Kd.slice 3 (Kd.int .i64)) 39 w' w.heap.size (fun k_ => some k_ ≠ (v295 : Value).ownBlock) u5 x5_1) ∧ Aside0 (Kd.R (Kd.int .i64) 3 w' w.heap.size (fun _ => True) v295 x7_3) ∧ Aside0 (Below w.heap.size w w'))
           case atStart => exact ⟨(x7_2), (0), zc_, H', ⟨Nat.le_refl _⟩, ⟨zs HO_5.out⟩, ⟨zr HO_7.out⟩, ⟨zb_⟩⟩
           case round =>
            clear H'; (try clear c8b0); (try clear c9b0); (try clear c10b0); (try clear hx300_0); (try clear p300); (try clear q300); obtain ⟨x7_3, x27_3, rfl, HA, HK3, HO_5, HO_7, HB⟩ := hrel
            cases gk with
            | zero => exact absurd HA.out (by simp [spec_plTable.l2])
            | succ k3 =>
             have H := HA.out; clear HA
             simp only [spec_plTable.l2] at H
             by_cases c11 : x27_3 < (l0.length : Int)
             ·rw [if_pos c11] at H
              have c11b0 := decide_eq_true c11; clear c11
              by_cases c12 : 0 ≤ x27_3
              ·rw [if_pos c12] at H
               have c12b0 := decide_eq_true c12; clear c12
               by_cases c13 : x27_3 < (l0.length : Int)
               ·rw [if_pos c13] at H
                have c13b0 := decide_eq_true c13; clear c13
                by_cases c14 : 1 < ((rd_L4 l0 x21_2).length : Int)
                ·rw [if_pos c14] at H
                 have c14b0 := decide_eq_true c14; have c14b1 : decide (1 < (rd_L4 l0 x21_2).length) = true := decide_eq_true (by omega); clear c14
                 by_cases c15 : (rd (rd_L4 l0 x21_2) 1) = x6_1
                 ·rw [if_pos c15] at H
                  have c15b0 := beq_iff_eq.mpr c15; have c15b1 := bne_eq_false_iff_eq.mpr c15; clear c15
                  by_cases c16 : 1 < ((rd_L4 l0 x27_3).length : Int)
                  ·rw [if_pos c16] at H
                   have c16b0 := decide_eq_true c16; have c16b1 : decide (1 < (rd_L4 l0 x27_3).length) = true := decide_eq_true (by omega); clear c16
                   by_cases c17 : (rd (rd_L4 l0 x27_3) 1) = x6_1
                   ·rw [if_pos c17] at H
                    have c17b0 := beq_iff_eq.mpr c17; have c17b1 := bne_eq_false_iff_eq.mpr c17; clear c17; have H' := aM H; clear H; have p301 : 0 ≤ (x27_3 : Int) := of_decide_eq_true za_; have q301 : x27_3 < (l0.length : Int) := of_decide_eq_true za_; obtain ⟨ad301, A301_0, c301_0, e301, hx301_0, hl301_0, hi301_0⟩ := at_L4 HR0.out x27_3 p301 q301; obtain rfl : ad300 = ad301 := (by injection e301); (try (replace hx301_0 := q3h_ HB.out hx301_0)); have HR301_0 := aM hi301_0; have HC301_0 := aM hl301_0; clear hi301_0 hl301_0; replace p301 := eq_true p301; replace q301 := eq_true q301; have p302 : 0 ≤ (1 : Int) := (by omega); have q302 : 1 < ((rd_L4 l0 x21_2).length : Int) := of_decide_eq_true za_; obtain ⟨ad302, e302, hx302_0⟩ := Kd.at_int HR300_0.out 1 p302 q302
                    cases e302
                    (try simp only [show (1 : Int).toNat = 1 from rfl, Nat.reduceMul, Nat.reduceEqDiff, Go.Addr.add, ↓reduceIte] at hx302_0); have qi302 : (1 < (rd_L4 l0 x21_2).length) = True := eq_true (by omega); (try rw [show ((1 : Int)).toNat = 1 from rfl] at hx302_0); (try (replace hx302_0 := q3h_ HB.out hx302_0)); replace p302 := eq_true p302; replace q302 := eq_true q302; have p303 : 0 ≤ (1 : Int) := (by omega); have q303 : 1 < ((rd_L4 l0 x27_3).length : Int) := of_decide_eq_true za_; obtain ⟨ad303, e303, hx303_0⟩ := Kd.at_int HR301_0.out 1 p303 q303
                    cases e303
                    (try simp only [show (1 : Int).toNat = 1 from rfl, Nat.reduceMul, Nat.reduceEqDiff, Go.Addr.add, ↓reduceIte] at hx303_0); have qi303 : (1 < (rd_L4 l0 x27_3).length) = True := eq_true (by omega); (try rw [show ((1 : Int)).toNat = 1 from rfl] at hx303_0); (try (replace hx303_0 := q3h_ HB.out hx303_0)); replace p303 := eq_true p303; replace q303 := eq_true q303
                    go_wp2
                    repeat (go_quiet (fail); try go_wp2)
                    go_roundg k3
                    case measure => have := HK1.out; have := HK2.out; have := HK3.out; omega
                    case rel => exact ⟨(x7_3), (wrap64 (x27_3 + 1)), zc_, H', ⟨zbd_⟩, ⟨zs HO_5.out⟩, ⟨zr HO_7.out⟩, ⟨zb_⟩⟩
                   ·rw [if_neg c17] at H
                    have c17b0 := beq_eq_false_iff_ne.mpr c17; have c17b1 := bne_iff_ne.mpr c17
                    by_cases c18 : 0 < ((rd_L4 l0 x21_2).length : Int)
                    ·rw [if_pos c18] at H
                     have c18b0 := decide_eq_true c18; have c18b1 : decide (0 < (rd_L4 l0 x21_2).length) = true := decide_eq_true (by omega); clear c18
                     by_cases c19 : 0 < ((rd_L4 l0 x27_3).length : Int)
                     ·rw [if_pos c19] at H
                      have c19b0 := decide_eq_true c19; have c19b1 : decide (0 < (rd_L4 l0 x27_3).length) = true := decide_eq_true (by omega); clear c19
                      by_cases c20 : (rd (rd_L4 l0 x21_2) 0) > (rd (rd_L4 l0 x27_3) 0)
                      ·rw [if_pos c20] at H
                       have c20b0 : decide ((rd (rd_L4 l0 x27_3) 0) < (rd (rd_L4 l0 x21_2) 0)) = true := decide_eq_true c20; clear c20
                       by_cases c21 : 0 ≤ (rd (rd_L4 l0 x27_3) 1)
                       ·rw [if_pos c21] at H
                        have c21b0 := decide_eq_true c21; clear c21
                        by_cases c22 : (rd (rd_L4 l0 x27_3) 1) < (x7_3.length : Int)
                        ·rw [if_pos c22] at H
                         have c22b0 := decide_eq_true c22; clear c22; obtain ⟨y308, hy308⟩ : ∃ y_ : List Int, y_ = (x7_3.set ((rd (rd_L4 l0 x27_3) 1) : Int).toNat (wrap64 ((rd x7_3 (rd (rd_L4 l0 x27_3) 1)) + 1))) := ⟨_, rfl⟩; replace H : (spec_plTable.l2 k3 l0 a1 x5_1 x6_1 y308 (rd_L4 l0 x21_2) l0 (l0.length : Int) x21_2 l0 (l0.length : Int) (wrap64 (x27_3 + 1))) = some r := q3y_ hy308 H
                         have Ny308 := aM hy308; clear hy308; have H' := aM H; clear H; have p301 : 0 ≤ (x27_3 : Int) := of_decide_eq_true za_; have q301 : x27_3 < (l0.length : Int) := of_decide_eq_true za_; obtain ⟨ad301, A301_0, c301_0, e301, hx301_0, hl301_0, hi301_0⟩ := at_L4 HR0.out x27_3 p301 q301; obtain rfl : ad300 = ad301 := (by injection e301); (try (replace hx301_0 := q3h_ HB.out hx301_0)); have HR301_0 := aM hi301_0; have HC301_0 := aM hl301_0; clear hi301_0 hl301_0; replace p301 := eq_true p301; replace q301 := eq_true q301; have p302 : 0 ≤ (1 : Int) := (by omega); have q302 : 1 < ((rd_L4 l0 x21_2).length : Int) := of_decide_eq_true za_; obtain ⟨ad302, e302, hx302_0⟩ := Kd.at_int HR300_0.out 1 p302 q302
                         cases e302
                         (try simp only [show (1 : Int).toNat = 1 from rfl, Nat.reduceMul, Nat.reduceEqDiff, Go.Addr.add, ↓reduceIte] at hx302_0); have qi302 : (1 < (rd_L4 l0 x21_2).length) = True := eq_true (by omega); (try rw [show ((1 : Int)).toNat = 1 from rfl] at hx302_0); (try (replace hx302_0 := q3h_ HB.out hx302_0)); replace p302 := eq_true p302; replace q302 := eq_true q302; have p303 : 0 ≤ (1 : Int) := (by omega); have q303 : 1 < ((rd_L4 l0 x27_3).length : Int) := of_decide_eq_true za_; obtain ⟨ad303, e303, hx303_0⟩ := Kd.at_int HR301_0.out 1 p303 q303
                         cases e303
                         (try simp only [show (1 : Int).toNat = 1 from rfl, Nat.reduceMul, Nat.reduceEqDiff, Go.Addr.add, ↓reduceIte] at hx303_0); have qi303 : (1 < (rd_L4 l0 x27_3).length) = True := eq_true (by omega); (try rw [show ((1 : Int)).toNat = 1 from rfl] at hx303_0); (try (replace hx303_0 := q3h_ HB.out hx303_0)); replace p303 := eq_true p303; replace q303 := eq_true q303; have p304 : 0 ≤ (0 : Int) := (by omega); have q304 : 0 < ((rd_L4 l0 x21_2).length : Int) := of_decide_eq_true za_; obtain ⟨ad304, e304, hx304_0⟩ := Kd.at_int HR300_0.out 0 p304 q304; obtain rfl : ad302 = ad304 := (by injection e304); have qi304 : (0 < (rd_L4 l0 x21_2).length) = True := eq_true (by omega); (try rw [show ((0 : Int)).toNat = 0 from rfl] at hx304_0); (try rw [Addr.add_zero'] at hx304_0); (try (replace hx304_0 := q3h_ HB.out hx304_0)); replace p304 := eq_true p304; replace q304 := eq_true q304; have p305 : 0 ≤ (0 : Int) := (by omega); have q305 : 0 < ((rd_L4 l0 x27_3).length : Int) := of_decide_eq_true za_; obtain ⟨ad305, e305, hx305_0⟩ := Kd.at_int HR301_0.out 0 p305 q305; obtain rfl : ad303 = ad305 := (by injection e305); have qi305 : (0 < (rd_L4 l0 x27_3).length) = True := eq_true (by omega); (try rw [show ((0 : Int)).toNat = 0 from rfl] at hx305_0); (try rw [Addr.add_zero'] at hx305_0); (try (replace hx305_0 := q3h_ HB.out hx305_0)); replace p305 := eq_true p305; replace q305 := eq_true q305; have p306 : 0 ≤ (1 : Int) := (by omega); have q306 : 1 < ((rd_L4 l0 x27_3).length : Int) := of_decide_eq_true za_; obtain ⟨ad306, e306, hx306_0⟩ := Kd.at_int HR301_0.out 1 p306 q306; obtain rfl : ad303 = ad306 := (by injection e306); (try simp only [show (1 : Int).toNat = 1 from rfl, Nat.reduceMul, Nat.reduceEqDiff, Go.Addr.add, ↓reduceIte] at hx306_0); have qi306 : (1 < (rd_L4 l0 x27_3).length) = True := eq_true (by omega); (try rw [show ((1 : Int)).toNat = 1 from rfl] at hx306_0); (try (replace hx306_0 := q3h_ HB.out hx306_0)); replace p306 := eq_true p306; replace q306 := eq_true q306; obtain ⟨Ao24, co24, eo24⟩ := Kd.R_slice HO_7.out; subst eo24; have p307 : 0 ≤ ((rd (rd_L4 l0 x27_3) 1) : Int) := of_decide_eq_true za_; have q307 : (rd (rd_L4 l0 x27_3) 1) < (x7_3.length : Int) := of_decide_eq_true za_; obtain ⟨ad307, e307, hx307_0⟩ := Kd.at_int (Kd.R_reads' HO_7.out).2.2 (rd (rd_L4 l0 x27_3) 1) p307 q307
                         cases e307
                         replace p307 := eq_true p307; replace q307 := eq_true q307; have p23 : 0 ≤ ((rd (rd_L4 l0 x27_3) 1) : Int) := of_decide_eq_true za_; have q23 : ((rd (rd_L4 l0 x27_3) 1) : Int) < ((x7_3.length : Int) : Int) := of_decide_eq_true za_; obtain ⟨go23, co23, eo23, gb23, gl23, cl23, HG23⟩ := Kd.R_form HO_7.out (by omega); (first | cases eo23 | (injection eo23 with ea_ en_ ec_; (first | subst ea_ | (injection ea_ with ea_; subst ea_)); subst ec_; clear en_)); have GB23 := aM gb23; have GG23 := aM HG23; clear gb23 gl23 HG23; (first | simp only [add_plain] at hx307_0 | skip); obtain ⟨hx23_0, hf23_0⟩ := Kd.R_celln 0 HO_7.out ((rd (rd_L4 l0 x27_3) 1) : Int) p23 q23; replace p23 := eq_true p23; replace q23 := eq_true q23; have HP25 := Kd.R_putg HO_7.out ((rd (rd_L4 l0 x27_3) 1) : Int) (wrap64 ((rd x7_3 (rd (rd_L4 l0 x27_3) 1)) + 1))
                         go_wp2_with (first | ((with_reducible refine gate_store (t := 3) (p := 59) rfl ?_); (try (rw [drewN_self wr]; generalize hq_ : World.drewN wr _ = wr; have n_ := z (Kd.S_at hq_ HO_5.out) <| z (Kd.R_at hq_ HO_7.out) <| z1 (below_at hq_ HB.out); clear hq_ HO_5 HO_7 HB; obtain ⟨HO_5, HO_7, HB⟩ := n_; (try (obtain ⟨hx23_0z, hf23_0z⟩ := Kd.R_celln 0 HO_7.out ((rd (rd_L4 l0 x27_3) 1) : Int) (of_eq_true p23) (of_eq_true q23))); (try (have HP25 := Kd.R_putg HO_7.out ((rd (rd_L4 l0 x27_3) 1) : Int) (wrap64 ((rd x7_3 (rd (rd_L4 l0 x27_3) 1)) + 1)))))); refine store_event (t := 3) (p := 59) (v := ?vo_w26) (w1 := (wr.setCell ⟨go23, ((rd (rd_L4 l0 x27_3) 1) : Int).toNat, none⟩ (.int .i64 (wrap64 ((rd x7_3 (rd (rd_L4 l0 x27_3) 1)) + 1))))) ?hg ?ho ?hn ?hr ?_; (case ho => rfl); (case hg => rfl); (case hn => rfl); (case hr => exact zd_); intro w26 hw; have hg : wr.grownBy w26 (some go23) := (by rw [hw]; exact HP25.2); have hp_ : Kd.R (Kd.int .i64) 3 w26 w.heap.size (fun _ => True) (.slice (some ⟨go23, 0, none⟩) x7_3.length co24) y308 := (by rw [hw, Ny308.out]; exact HP25.1); clear HP25; have n_ := z (Kd.S_after (v := (.slice (some ⟨go23, 0, none⟩) x7_3.length co24)) (v1 := (.slice (some ⟨go23, 0, none⟩) x7_3.length co24)) (ok := (fun _ => True)) (by refine zs ?_; exact Kd.S_mono HO_5.out (fun _ hk => ⟨trivial, hk⟩)) hg (.inl rfl)) <| z (hp_) <| z1 ((by rw [hw]; exact below_set (HB.out) GB23.out : Below w.heap.size w w26)); clear HO_5 HO_7 HB; obtain ⟨HO_5, HO_7, HB⟩ := n_; clear hg hw hp_))
                         repeat (go_quiet (first | ((with_reducible refine gate_store (t := 3) (p := 59) rfl ?_); (try (rw [drewN_self wr]; generalize hq_ : World.drewN wr _ = wr; have n_ := z (Kd.S_at hq_ HO_5.out) <| z (Kd.R_at hq_ HO_7.out) <| z1 (below_at hq_ HB.out); clear hq_ HO_5 HO_7 HB; obtain ⟨HO_5, HO_7, HB⟩ := n_; (try (obtain ⟨hx23_0z, hf23_0z⟩ := Kd.R_celln 0 HO_7.out ((rd (rd_L4 l0 x27_3) 1) : Int) (of_eq_true p23) (of_eq_true q23))); (try (have HP25 := Kd.R_putg HO_7.out ((rd (rd_L4 l0 x27_3) 1) : Int) (wrap64 ((rd x7_3 (rd (rd_L4 l0 x27_3) 1)) + 1)))))); refine store_event (t := 3) (p := 59) (v := ?vo_w26) (w1 := (wr.setCell ⟨go23, ((rd (rd_L4 l0 x27_3) 1) : Int).toNat, none⟩ (.int .i64 (wrap64 ((rd x7_3 (rd (rd_L4 l0 x27_3) 1)) + 1))))) ?hg ?ho ?hn ?hr ?_; (case ho => rfl); (case hg => rfl); (case hn => rfl); (case hr => exact zd_); intro w26 hw; have hg : wr.grownBy w26 (some go23) := (by rw [hw]; exact HP25.2); have hp_ : Kd.R (Kd.int .i64) 3 w26 w.heap.size (fun _ => True) (.slice (some ⟨go23, 0, none⟩) x7_3.length co24) y308 := (by rw [hw, Ny308.out]; exact HP25.1); clear HP25; have n_ := z (Kd.S_after (v := (.slice (some ⟨go23, 0, none⟩) x7_3.length co24)) (v1 := (.slice (some ⟨go23, 0, none⟩) x7_3.length co24)) (ok := (fun _ => True)) (by refine zs ?_; exact Kd.S_mono HO_5.out (fun _ hk => ⟨trivial, hk⟩)) hg (.inl rfl)) <| z (hp_) <| z1 ((by rw [hw]; exact below_set (HB.out) GB23.out : Below w.heap.size w w26)); clear HO_5 HO_7 HB; obtain ⟨HO_5, HO_7, HB⟩ := n_; clear hg hw hp_)); try go_wp2_with (first | ((with_reducible refine gate_store (t := 3) (p := 59) rfl ?_); (try (rw [drewN_self wr]; generalize hq_ : World.drewN wr _ = wr; have n_ := z (Kd.S_at hq_ HO_5.out) <| z (Kd.R_at hq_ HO_7.out) <| z1 (below_at hq_ HB.out); clear hq_ HO_5 HO_7 HB; obtain ⟨HO_5, HO_7, HB⟩ := n_; (try (obtain ⟨hx23_0z, hf23_0z⟩ := Kd.R_celln 0 HO_7.out ((rd (rd_L4 l0 x27_3) 1) : Int) (of_eq_true p23) (of_eq_true q23))); (try (have HP25 := Kd.R_putg HO_7.out ((rd (rd_L4 l0 x27_3) 1) : Int) (wrap64 ((rd x7_3 (rd (rd_L4 l0 x27_3) 1)) + 1)))))); refine store_event (t := 3) (p := 59) (v := ?vo_w26) (w1 := (wr.setCell ⟨go23, ((rd (rd_L4 l0 x27_3) 1) : Int).toNat, none⟩ (.int .i64 (wrap64 ((rd x7_3 (rd (rd_L4 l0 x27_3) 1)) + 1))))) ?hg ?ho ?hn ?hr ?_; (case ho => rfl); (case hg => rfl); (case hn => rfl); (case hr => exact zd_); intro w26 hw; have hg : wr.grownBy w26 (some go23) := (by rw [hw]; exact HP25.2); have hp_ : Kd.R (Kd.int .i64) 3 w26 w.heap.size (fun _ => True) (.slice (some ⟨go23, 0, none⟩) x7_3.length co24) y308 := (by rw [hw, Ny308.out]; exact HP25.1); clear HP25; have n_ := z (Kd.S_after (v := (.slice (some ⟨go23, 0, none⟩) x7_3.length co24)) (v1 := (.slice (some ⟨go23, 0, none⟩) x7_3.length co24)) (ok := (fun _ => True)) (by refine zs ?_; exact Kd.S_mono HO_5.out (fun _ hk => ⟨trivial, hk⟩)) hg (.inl rfl)) <| z (hp_) <| z1 ((by rw [hw]; exact below_set (HB.out) GB23.out : Below w.heap.size w w26)); clear HO_5 HO_7 HB; obtain ⟨HO_5, HO_7, HB⟩ := n_; clear hg hw hp_)))
                         go_roundg k3
                         case measure => have := HK1.out; have := HK2.out; have := HK3.out; omega
                         case rel => exact ⟨(y308), (wrap64 (x27_3 + 1)), zc_, H', ⟨zbd_⟩, ⟨by refine zs ?_; exact Kd.S_mono HO_5.out (fun _ hk => hk.2)⟩, ⟨zr HO_7.out⟩, ⟨zb_⟩⟩
                        ·rw [if_neg c22] at H
                         exact q3n_ H
                       ·rw [if_neg c21] at H
                        exact q3n_ H
                      ·rw [if_neg c20] at H
                       have c20b0 : decide ((rd (rd_L4 l0 x27_3) 0) < (rd (rd_L4 l0 x21_2) 0)) = false := decide_eq_false c20; clear c20; have H' := aM H; clear H; have p301 : 0 ≤ (x27_3 : Int) := of_decide_eq_true za_; have q301 : x27_3 < (l0.length : Int) := of_decide_eq_true za_; obtain ⟨ad301, A301_0, c301_0, e301, hx301_0, hl301_0, hi301_0⟩ := at_L4 HR0.out x27_3 p301 q301; obtain rfl : ad300 = ad301 := (by injection e301); (try (replace hx301_0 := q3h_ HB.out hx301_0)); have HR301_0 := aM hi301_0; have HC301_0 := aM hl301_0; clear hi301_0 hl301_0; replace p301 := eq_true p301; replace q301 := eq_true q301; have p302 : 0 ≤ (1 : Int) := (by omega); have q302 : 1 < ((rd_L4 l0 x21_2).length : Int) := of_decide_eq_true za_; obtain ⟨ad302, e302, hx302_0⟩ := Kd.at_int HR300_0.out 1 p302 q302
                       cases e302
                       (try simp only [show (1 : Int).toNat = 1 from rfl, Nat.reduceMul, Nat.reduceEqDiff, Go.Addr.add, ↓reduceIte] at hx302_0); have qi302 : (1 < (rd_L4 l0 x21_2).length) = True := eq_true (by omega); (try rw [show ((1 : Int)).toNat = 1 from rfl] at hx302_0); (try (replace hx302_0 := q3h_ HB.out hx302_0)); replace p302 := eq_true p302; replace q302 := eq_true q302; have p303 : 0 ≤ (1 : Int) := (by omega); have q303 : 1 < ((rd_L4 l0 x27_3).length : Int) := of_decide_eq_true za_; obtain ⟨ad303, e303, hx303_0⟩ := Kd.at_int HR301_0.out 1 p303 q303
                       cases e303
                       (try simp only [show (1 : Int).toNat = 1 from rfl, Nat.reduceMul, Nat.reduceEqDiff, Go.Addr.add, ↓reduceIte] at hx303_0); have qi303 : (1 < (rd_L4 l0 x27_3).length) = True := eq_true (by omega); (try rw [show ((1 : Int)).toNat = 1 from rfl] at hx303_0); (try (replace hx303_0 := q3h_ HB.out hx303_0)); replace p303 := eq_true p303; replace q303 := eq_true q303; have p304 : 0 ≤ (0 : Int) := (by omega); have q304 : 0 < ((rd_L4 l0 x21_2).length : Int) := of_decide_eq_true za_; obtain ⟨ad304, e304, hx304_0⟩ := Kd.at_int HR300_0.out 0 p304 q304; obtain rfl : ad302 = ad304 := (by injection e304); have qi304 : (0 < (rd_L4 l0 x21_2).length) = True := eq_true (by omega); (try rw [show ((0 : Int)).toNat = 0 from rfl] at hx304_0); (try rw [Addr.add_zero'] at hx304_0); (try (replace hx304_0 := q3h_ HB.out hx304_0)); replace p304 := eq_true p304; replace q304 := eq_true q304; have p305 : 0 ≤ (0 : Int) := (by omega); have q305 : 0 < ((rd_L4 l0 x27_3).length : Int) := of_decide_eq_true za_; obtain ⟨ad305, e305, hx305_0⟩ := Kd.at_int HR301_0.out 0 p305 q305; obtain rfl : ad303 = ad305 := (by injection e305); have qi305 : (0 < (rd_L4 l0 x27_3).length) = True := eq_true (by omega); (try rw [show ((0 : Int)).toNat = 0 from rfl] at hx305_0); (try rw [Addr.add_zero'] at hx305_0); (try (replace hx305_0 := q3h_ HB.out hx305_0)); replace p305 := eq_true p305; replace q305 := eq_true q305
                       go_wp2
                       repeat (go_quiet (fail); try go_wp2)
                       go_roundg k3
                       case measure => have := HK1.out; have := HK2.out; have := HK3.out; omega
                       case rel => exact ⟨(x7_3), (wrap64 (x27_3 + 1)), zc_, H', ⟨zbd_⟩, ⟨zs HO_5.out⟩, ⟨zr HO_7.out⟩, ⟨zb_⟩⟩
                     ·rw [if_neg c19] at H
                      exact q3n_ H
                    ·rw [if_neg c18] at H
                     exact q3n_ H
                  ·rw [if_neg c16] at H
                   exact q3n_ H
                 ·rw [if_neg c15] at H
                  have c15b0 := beq_eq_false_iff_ne.mpr c15; have c15b1 := bne_iff_ne.mpr c15; have H' := aM H; clear H; have p301 : 0 ≤ (x27_3 : Int) := of_decide_eq_true za_; have q301 : x27_3 < (l0.length : Int) := of_decide_eq_true za_; obtain ⟨ad301, A301_0, c301_0, e301, hx301_0, hl301_0, hi301_0⟩ := at_L4 HR0.out x27_3 p301 q301; obtain rfl : ad300 = ad301 := (by injection e301); (try (replace hx301_0 := q3h_ HB.out hx301_0)); have HR301_0 := aM hi301_0; have HC301_0 := aM hl301_0; clear hi301_0 hl301_0; replace p301 := eq_true p301; replace q301 := eq_true q301; have p302 : 0 ≤ (1 : Int) := (by omega); have q302 : 1 < ((rd_L4 l0 x21_2).length : Int) := of_decide_eq_true za_; obtain ⟨ad302, e302, hx302_0⟩ := Kd.at_int HR300_0.out 1 p302 q302
                  cases e302
                  (try simp only [show (1 : Int).toNat = 1 from rfl, Nat.reduceMul, Nat.reduceEqDiff, Go.Addr.add, ↓reduceIte] at hx302_0); have qi302 : (1 < (rd_L4 l0 x21_2).length) = True := eq_true (by omega); (try rw [show ((1 : Int)).toNat = 1 from rfl] at hx302_0); (try (replace hx302_0 := q3h_ HB.out hx302_0)); replace p302 := eq_true p302; replace q302 := eq_true q302
                  go_wp2
                  repeat (go_quiet (fail); try go_wp2)
                  go_roundg k3
                  case measure => have := HK1.out; have := HK2.out; have := HK3.out; omega
                  case rel => exact ⟨(x7_3), (wrap64 (x27_3 + 1)), zc_, H', ⟨zbd_⟩, ⟨zs HO_5.out⟩, ⟨zr HO_7.out⟩, ⟨zb_⟩⟩
                ·rw [if_neg c14] at H
                 exact q3n_ H
               ·rw [if_neg c13] at H
                exact q3n_ H
              ·rw [if_neg c12] at H
               exact q3n_ H
             ·rw [if_neg c11] at H
              have c11b0 := decide_eq_false c11; clear c11; have H' := aM H; clear H
              go_wp2
              repeat (go_quiet (fail); try go_wp2)
              go_roundg k3
              case measure => have := HK1.out; have := HK2.out; have := HK3.out; omega
              case rel => exact ⟨(x7_3), (wrap64 (x21_2 + 1)), zc_, H', ⟨zbd_⟩, ⟨zs HO_5.out⟩, ⟨zr HO_7.out⟩, ⟨zb_⟩⟩
          ·rw [if_neg c10] at H
           exact q3n_ H
         ·rw [if_neg c9] at H
          exact q3n_ H
        ·rw [if_neg c8] at H
         have c8b0 := decide_eq_false c8; clear c8
         by_cases c27 : x5_1.length < 5864062014805
         ·rw [if_pos c27] at H
          have LMc27 := aM c27; clear c27; obtain ⟨y297, hy297⟩ : ∃ y_ : List (List Int), y_ = (x5_1 ++ [x7_2]) := ⟨_, rfl⟩; replace H : (spec_plTable.l0 k2 l0 a1 y297 (wrap64 (x6_1 + 1))) = some r := q3y_ hy297 H
          have Ny297 := aM hy297; clear hy297; have H' := aM H; clear H; obtain ⟨Ao29, co29, eo29⟩ := Kd.R_slice HO_7.out; subst eo29
          go_wp2_with (first | ((with_reducible refine gate_builtin (b := .append) (xs := #[.tmp 62, .tmp 64]) rfl ?_); at_builtin; refine Kd.S_append (Kd.slice 3 (Kd.int .i64)) (w0 := w) w.heap.size rfl (.tmp 62) (.tmp 64) 63 39 (.slice none 0 0) 24 rfl Try.underlying63 info39 rfl (by decide) (by omega) u5 x5_1 x7_2 [.slice Ao29 x7_2.length co29] (fun _ => True) (fun k_ => some k_ = (.slice Ao29 x7_2.length co29 : Value).ownBlock) rfl rfl ?aP (fun k_ hk_ => ((Kd.R_mono (ok' := fun k_ => ((fun _ => True)) k_ ∧ some k_ ≠ (u5 : Value).ownBlock) (Kd.R_apart' (HO_7.out) (Kd.S_typed HO_5.out) (by decide)) (fun k_ hk => ⟨trivial, hk.2⟩))).1 k_ hk_.symm) ?aF ?aO ?aB ?aS ?aL ?_; (case aP => exact zib_); (case aB => exact zde_); (case aF => exact zcd_); (case aO => exact zfj_); (case aS => exact zdf_); (case aL => have := LMc27.out; omega); intro v298 w28 ho hb hg hat; rw [← Ny297.out] at ho; have n_ := z (hb) <| z1 (ho); clear HB HO_5 HO_7; obtain ⟨HB, HO299⟩ := n_; clear ho hb hg hat))
          repeat (go_quiet (first | ((with_reducible refine gate_builtin (b := .append) (xs := #[.tmp 62, .tmp 64]) rfl ?_); at_builtin; refine Kd.S_append (Kd.slice 3 (Kd.int .i64)) (w0 := w) w.heap.size rfl (.tmp 62) (.tmp 64) 63 39 (.slice none 0 0) 24 rfl Try.underlying63 info39 rfl (by decide) (by omega) u5 x5_1 x7_2 [.slice Ao29 x7_2.length co29] (fun _ => True) (fun k_ => some k_ = (.slice Ao29 x7_2.length co29 : Value).ownBlock) rfl rfl ?aP (fun k_ hk_ => ((Kd.R_mono (ok' := fun k_ => ((fun _ => True)) k_ ∧ some k_ ≠ (u5 : Value).ownBlock) (Kd.R_apart' (HO_7.out) (Kd.S_typed HO_5.out) (by decide)) (fun k_ hk => ⟨trivial, hk.2⟩))).1 k_ hk_.symm) ?aF ?aO ?aB ?aS ?aL ?_; (case aP => exact zib_); (case aB => exact zde_); (case aF => exact zcd_); (case aO => exact zfj_); (case aS => exact zdf_); (case aL => have := LMc27.out; omega); intro v298 w28 ho hb hg hat; rw [← Ny297.out] at ho; have n_ := z (hb) <| z1 (ho); clear HB HO_5 HO_7; obtain ⟨HB, HO299⟩ := n_; clear ho hb hg hat)); try go_wp2_with (first | ((with_reducible refine gate_builtin (b := .append) (xs := #[.tmp 62, .tmp 64]) rfl ?_); at_builtin; refine Kd.S_append (Kd.slice 3 (Kd.int .i64)) (w0 := w) w.heap.size rfl (.tmp 62) (.tmp 64) 63 39 (.slice none 0 0) 24 rfl Try.underlying63 info39 rfl (by decide) (by omega) u5 x5_1 x7_2 [.slice Ao29 x7_2.length co29] (fun _ => True) (fun k_ => some k_ = (.slice Ao29 x7_2.length co29 : Value).ownBlock) rfl rfl ?aP (fun k_ hk_ => ((Kd.R_mono (ok' := fun k_ => ((fun _ => True)) k_ ∧ some k_ ≠ (u5 : Value).ownBlock) (Kd.R_apart' (HO_7.out) (Kd.S_typed HO_5.out) (by decide)) (fun k_ hk => ⟨trivial, hk.2⟩))).1 k_ hk_.symm) ?aF ?aO ?aB ?aS ?aL ?_; (case aP => exact zib_); (case aB => exact zde_); (case aF => exact zcd_); (case aO => exact zfj_); (case aS => exact zdf_); (case aL => have := LMc27.out; omega); intro v298 w28 ho hb hg hat; rw [← Ny297.out] at ho; have n_ := z (hb) <| z1 (ho); clear HB HO_5 HO_7; obtain ⟨HB, HO299⟩ := n_; clear ho hb hg hat)))
          go_roundg k2
          case measure => have := HK1.out; have := HK2.out; omega
          case rel => exact ⟨(y297), (wrap64 (x6_1 + 1)), zc_, H', ⟨zbh_⟩, ⟨zs HO299.out⟩, ⟨zb_⟩⟩
         ·rw [if_neg c27] at H
          exact q3n_ H
     ·rw [if_neg c5] at H
      exact q3n_ H
    ·rw [if_neg c4] at H
     exact q3n_ H
   ·rw [if_neg c3] at H
    have c3b0 := decide_eq_false c3; clear c3; obtain rfl := Option.some.inj H
    go_wp2
    repeat (go_quiet (fail); try go_wp2)
    go_ret
    exact ⟨_, zh_, by refine zs ?_; exact HO_5.out, zb_⟩
end Go.Proofs.Ytlnhpkjioppbiaa.QFnLevels
