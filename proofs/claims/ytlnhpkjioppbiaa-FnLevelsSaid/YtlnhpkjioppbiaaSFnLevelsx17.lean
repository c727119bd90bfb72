/- Functions of FnLevels, each as a Lean function, with the proof that the Go code comes to its answers. -/
import Derived.Test.YtlnhpkjioppbiaaSFnLevelsx1
import Derived.Test.YtlnhpkjioppbiaaSFnLevelsx11
import Derived.Test.YtlnhpkjioppbiaaSFnLevelsx13
import Derived.Test.YtlnhpkjioppbiaaSFnLevelsx15
namespace Go.Proofs.Ytlnhpkjioppbiaa.QFnLevels
open Go.RowKit Go.Proofs.YtlnhpkjioppbiaaW.PrintWords Go.Proofs.YtlnhpkjioppbiaaW.PrintLast Go.Proofs.YtlnhpkjioppbiaaW.PrintMore
open Go.Proofs.YtlnhpkjioppbiaaW.PrintWords renaming pw_below_drewN → pN, below_drew1 → p1, below_alloc → pA
open Go.Proofs.YtlnhpkjioppbiaaW.PrintWords.Kd renaming R_alloc → kA, R_drewN → kN, R_drew → kD, Q_alloc → qA, Q_drewN → qN, Q_drew → qD, C_alloc → cA, C_drewN → cN, C_drew → cD
open Go.Proofs.YtlnhpkjioppbiaaW.PrintWords.Aside0 renaming mk → aM
open List renaming setIfInBounds_toArray → sI, set_cons_zero → s0, set_cons_succ → sS, map_toArray → mT, length_take → lT, length_drop → lD, map_cons → mC, map_nil → mN
open Option renaming bind_eq_some_iff → oB
attribute [local go_sem] max2_int min2_int max_two min_two max_three min_three max_four min_four
set_option linter.unusedVariables false
set_option linter.unusedSimpArgs false
open Option renaming bind_eq_some_iff → oB, bind_some → oS
set_option maxHeartbeats 8000000
set_option maxRecDepth 100000
def spec_FewestCrossings.f (k : Nat) (l0 : List (List Int)) (a1 : Int) : Option (List Int × Int × Bool) :=
 (spec_plWires.f k l0 a1).bind fun t => if t = true then ((spec_plTable.f k l0 a1).bind fun T => (if 0 ≤ a1 ∧ a1 ≤ 8 ∧ 100 ≤ k ∧ Sep.fcOk T a1.toNat (Sep.pm a1.toNat a1.toNat []) = true then some ((Sep.fcAt T a1.toNat (Sep.pm a1.toNat a1.toNat []) (Sep.pm a1.toNat a1.toNat []).length).1, (Sep.fcAt T a1.toNat (Sep.pm a1.toNat a1.toNat []) (Sep.pm a1.toNat a1.toNat []).length).2, true) else none)) else some ([], 0, false)
open Go.Proofs.Ytlnhpkjioppbiaa.Sep in
set_option maxHeartbeats 16000000 in
set_option maxRecDepth 100000 in
theorem spec_FewestCrossings.calls (k : Nat) (A0 : Option Addr) (c0 : Nat) (l0 : List (List Int)) (a1 : Int) (r1 : List Int) (r2 : Int) (r3 : Bool) (w : World) (hr0 : Kd.C (Kd.slice 3 (Kd.int .i64)) w A0 l0.length l0) (hc0 : l0.length ≤ c0) (h : spec_FewestCrossings.f k l0 a1 = some (r1, r2, r3)) :
  Calls Try.prog 39 #[.slice A0 l0.length c0, .int .i64 a1] w fun e w' => ∃ v0_ : Value, e = .returned (.tuple #[v0_, .int .i64 r2, .bool r3]) ∧ Kd.R (Kd.int .i64) 3 w' w.heap.size (fun _ => True) v0_ r1 ∧ Below w.heap.size w w' := by
 have HR0 := aM hr0
 have HC0 := aM hc0
 clear hr0 hc0
 unfold spec_FewestCrossings.f at h
 obtain ⟨t, hA, h1⟩ := oB.mp h
 clear h
 have HA := aM hA
 clear hA
 cases t with
 | false =>
  have h2 : (([] : List Int), (0 : Int), false) = (r1, r2, r3) := Option.some.inj h1; clear h1
  injection h2 with e1 e2
  injection e2 with e2 e3
  subst e1; subst e2; subst e3
  go_enter Try.func39, Try.ntmps39
  go_wp2_with (first | ((with_reducible refine gate_callee (f := 91) rfl ?_); refine goesL_ (some 17) rfl rfl Try.func91 (by kernel_rfl) rfl #[.slice A0 l0.length c0, .int .i64 a1] rfl ze_ ?_; (with_reducible refine (spec_plWires.calls k _ _ l0 a1 false _ (by exact HR0.out) HC0.out HA.out).mono ?_); rintro e w_1 ⟨rfl, hd⟩; refine ⟨_, rfl, ?_⟩; have HO_1 := aM ((Sep.Own.nil w).below hd.below); clear hd))
  go_ret3
  exact ⟨_, rfl, Kd.R_nil _ _ _ _ _, HO_1.out.base⟩
 | true =>
  replace h1 := h1; rw [if_pos rfl] at h1; obtain ⟨T, hT, h2⟩ := oB.mp h1; clear h1; have HT := aM hT; clear hT
  split at h2
  ·rename_i hc
   obtain ⟨hm0, hm8, hk, hok⟩ := hc; obtain ⟨m, rfl⟩ := Int.eq_ofNat_of_zero_le hm0; rw [Int.toNat_natCast] at h2 hok; obtain ⟨os, hos⟩ : ∃ os, os = Sep.pm m m [] := ⟨_, rfl⟩; have HOS := aM hos.symm; rw [← hos] at h2 hok; have HOK := aM (Sep.fcOk_out hok); have HM := aM (show m ≤ 8 by omega); clear hok hos hk hm0 hm8; replace h2 := Option.some.inj h2
   injection h2 with e1 e2
   injection e2 with e2 e3
   subst e1; subst e2; subst e3; obtain ⟨hom, htm, holen, hosn, hmn⟩ := HOK.out
   go_enter Try.func39, Try.ntmps39
   go_wp2_with (first | ((with_reducible refine gate_callee (f := 91) rfl ?_); refine goesL_ (some 17) rfl rfl Try.func91 (by kernel_rfl) rfl #[.slice A0 l0.length c0, .int .i64 ((m : Int))] rfl ze_ ?_; (with_reducible refine (spec_plWires.calls k _ _ l0 (m : Int) true _ (by exact HR0.out) HC0.out HA.out).mono ?_); rintro e w_1 ⟨rfl, hd⟩; refine ⟨_, rfl, ?_⟩; have HO_1 := aM ((Sep.Own.nil w).below hd.below); clear hd) | ((with_reducible refine gate_callee (f := 92) rfl ?_); refine goesL_ (some 21) rfl rfl Try.func92 (by kernel_rfl) rfl #[.slice A0 l0.length c0, .int .i64 ((m : Int))] rfl ze_ ?_; (with_reducible refine (spec_plTable.calls k _ _ l0 (m : Int) T _ (by exact Kd.C_below HR0.out HO_1.out.base) HC0.out HT.out).mono ?_); rintro e w_2 ⟨v_2, rfl, hR, hb⟩; refine ⟨_, rfl, ?_⟩; have ho := HO_1.out.add_rows hR hb; obtain ⟨At, ct, rfl⟩ := ho.rows_slice 0 rfl; have HO_2 := aM ho; clear ho hR hb) | ((with_reducible refine gate_callee (f := 77) rfl ?_); refine goesL_ (some 23) rfl rfl Try.func77 (by kernel_rfl) rfl #[.int .i64 ((m : Int)), .slice none 0 0] rfl ze_ ?_; (with_reducible refine (spec_ddOrders.ext m HM.out w m [] _ _ [Item.rows (Kd.slice 3 (Kd.int .i64)) 39 (.slice At T.length ct) (T)] (HO_2.out.nilrow (Kd.int .i64) 3) (by simp)).mono ?_); rintro e w_3 ⟨v_3, rfl, ho⟩; refine ⟨_, rfl, ?_⟩; rw [HOS.out] at ho; obtain ⟨Ao, co, rfl⟩ := ho.row_slice 0 rfl; have HO_3 := aM ho; clear ho))
   (try simp only [Act.put, sI, s0, sS])
   go_loopw [8, 9, 25] (fun v8 v9 v25 wr => ∃ (j : Int), 0 ≤ j ∧ j ≤ (os.length : Int) ∧ v25 = .int .i64 j ∧ v9 = .int .i64 (fcAt T m os j.toNat).2 ∧ Aside0 (∃ P_, Kd.R (Kd.int .i64) 3 wr w.heap.size P_ v8 (fcAt T m os j.toNat).1) ∧ Aside0 (Own w wr [Item.row (Kd.slice 3 (Kd.int .i64)) 39 (.slice Ao os.length co) (os), Item.rows (Kd.slice 3 (Kd.int .i64)) 39 (.slice At T.length ct) (T)])) (fun _ _ v25 _ => os.length - (intOf v25).toNat)
   case atStart => exact ⟨0, Int.le_refl _, by omega, rfl, rfl, ⟨⟨fun _ => True, Kd.R_nil _ _ _ _ _⟩⟩, ⟨((HO_3.out.front 1 rfl).front 1 rfl)⟩⟩
   case round =>
    obtain ⟨j, hj0, hj1, rfl, rfl, HB, HO1⟩ := hrel; clear HO_3; have HO := HO1; clear HO1
    by_cases c1 : j < (os.length : Int)
    ·have c1b := decide_eq_true c1
     have hwj : wrap64 (j + 1) = j + 1 := by unfold wrap64; omega
     obtain ⟨ado, Ae, ce, eo, hel, hle, hCe, hRe⟩ := HO.out.elem 0 rfl j hj0 c1
     cases eo
     have hst := Sep.fcAt_succ T m os j hj0 c1; have hol := holen j hj0 c1; obtain ⟨o, hoo⟩ : ∃ o, o = os.getD j.toNat [] := ⟨_, rfl⟩; rw [← hoo] at hel hle hCe hRe hst hol; have HRE := aM hRe; have HST := aM hst; have HOL := aM hol; have p1 : (0 ≤ j) = True := eq_true hj0; have q1 : (j < (os.length : Int)) = True := eq_true c1; clear hCe hle hRe hst hoo hol
     go_wp2
     go_loopw [12, 13] (fun v12 v13 wr => ∃ (i : Int), 0 ≤ i ∧ i ≤ (m : Int) ∧ v13 = .int .i64 i ∧ v12 = .int .i64 (fcSum T o m i.toNat) ∧ Aside0 (∃ P_, Kd.R (Kd.int .i64) 3 wr w.heap.size P_ u8 (fcAt T m os j.toNat).1) ∧ Aside0 (∃ P_, Kd.R (Kd.int .i64) 3 wr w.heap.size P_ (.slice Ae o.length ce) o) ∧ Aside0 (Own w wr [Item.row (Kd.slice 3 (Kd.int .i64)) 39 (.slice (some ado) os.length co) (os), Item.rows (Kd.slice 3 (Kd.int .i64)) 39 (.slice At T.length ct) (T)])) (fun _ v13 _ => m - (intOf v13).toNat)
     case atStart => exact ⟨0, Int.le_refl _, by omega, rfl, rfl, HB, HRE, HO⟩
     case round =>
      clear HB HRE HO hel; obtain ⟨i, hi0, hi1, rfl, rfl, HB, HRE, HO⟩ := hrel; have hol := HOL.out
      by_cases c2 : i < (m : Int)
      ·have c2b := decide_eq_true c2
       have hwi : wrap64 (i + 1) = i + 1 := by unfold wrap64; omega
       clear hol
       go_wp2
       go_loopw [12, 14] (fun v12 v14 wr => ∃ (k : Int), 0 ≤ k ∧ k ≤ (m : Int) ∧ v14 = .int .i64 k ∧ v12 = .int .i64 (fcRow T o i k.toNat (fcSum T o m i.toNat)) ∧ Aside0 (∃ P_, Kd.R (Kd.int .i64) 3 wr w.heap.size P_ u8 (fcAt T m os j.toNat).1) ∧ Aside0 (∃ P_, Kd.R (Kd.int .i64) 3 wr w.heap.size P_ (.slice Ae o.length ce) o) ∧ Aside0 (Own w wr [Item.row (Kd.slice 3 (Kd.int .i64)) 39 (.slice (some ado) os.length co) (os), Item.rows (Kd.slice 3 (Kd.int .i64)) 39 (.slice At T.length ct) (T)])) (fun _ v14 _ => m - (intOf v14).toNat)
       case atStart => exact ⟨0, Int.le_refl _, by have := HOL.out; omega, rfl, rfl, HB, HRE, HO⟩
       case round =>
        clear HB HRE HO; obtain ⟨k, hk0, hk1, rfl, rfl, HB, HRE, HO⟩ := hrel; have hol := HOL.out
        by_cases c3 : k < (m : Int)
        ·have c3b := decide_eq_true c3
         have hwk : wrap64 (k + 1) = k + 1 := by unfold wrap64; omega
         have hio : i < (o.length : Int) := by omega
         have hko : k < (o.length : Int) := by omega
         have him : i < (T.length : Int) := by omega
         have hkt : k < ((T.getD i.toNat []).length : Int) := by have := htm i hi0 (by omega); omega
         obtain ⟨P_, hRe⟩ := HRE.out; have hCe := (Kd.R_reads' hRe).2.2; obtain ⟨ade, ee, hxi⟩ := Kd.at_int hCe i hi0 hio
         cases ee
         obtain ⟨ade2, ee, hxk⟩ := Kd.at_int hCe k hk0 hko
         cases ee
         obtain ⟨adt, Ax, cx, et, htl, hxl, hCx⟩ := at_L4 (HO.out.rows_reads 1 rfl).2.2 i hi0 him
         cases et
         obtain ⟨adx, ex, hxt⟩ := Kd.at_int hCx k hk0 hkt
         cases ex
         have hrow := Sep.fcRow_succ T o i k hk0 (fcSum T o m i.toNat); have HROW := aM hrow; clear hCe hCx hRe hxl hrow hol; have p1 : (0 ≤ i) = True := eq_true hi0; have p2 : (0 ≤ k) = True := eq_true hk0; have q1 : (i < (o.length : Int)) = True := eq_true hio; have q2 : (k < (o.length : Int)) = True := eq_true hko; have q3 : (i < (T.length : Int)) = True := eq_true him; have q4 : (k < ((rd_L4 T i).length : Int)) = True := eq_true hkt
         by_cases c4 : rd o i < rd o k
         ·have c4b := decide_eq_true c4
          have hr := HROW.out; rw [if_pos c4] at hr; have HR := aM hr; clear hr HROW
          go_wp2
          have HD_16_0 := aM (HO.out.drew); have HB_ := aM (show ∃ P_, Kd.R (Kd.int .i64) 3 wr.drew w.heap.size P_ u8 (fcAt T m os j.toNat).1 from HB.out.imp (fun _ h => kD h)); clear HB; have HB := HB_; clear HB_; have HRE_ := aM (show ∃ P_, Kd.R (Kd.int .i64) 3 wr.drew w.heap.size P_ (.slice (some ade) o.length ce) o from HRE.out.imp (fun _ h => kD h)); clear HRE; have HRE := HRE_; clear HRE_; have htl_ := (show wr.drew.cell? (adt.add i.toNat) = some (.slice (some adx) (rd_L4 T i).length cx) from htl); clear htl; have htl := htl_; clear htl_; have hxt_ := (show wr.drew.cell? (adx.add k.toNat) = some (.int .i64 (rd (rd_L4 T i) k)) from hxt); clear hxt; have hxt := hxt_; clear hxt_
          refine start_ (n := 9) (S := fun w' => w'.cell? (ade.add i.toNat) = some (.int .i64 (rd o i)) ∧ w'.cell? (ade.add k.toNat) = some (.int .i64 (rd o k))) (ds := []) #[fi,fi,fi,fi,fi,fi,fi,fi,fi] (by kernel_rfl) rfl rfl ⟨hxi, hxk⟩ (fun hHeld => ?_)
          generalize wr.drew = wd_16_1 at HD_16_0 HB HRE htl hxt hHeld ⊢
          refine oz_ 0 39 ?_
          refine oz_ 1 40 ?_
          refine oz_ 2 41 ?_
          refine oz_ 4 43 ?_
          refine oz_ 5 44 ?_
          refine oz_ 6 45 ?_
          refine tz2_ 3 42 hHeld ?_
          refine tz2_ 7 46 hHeld ?_
          refine oz_ 8 47 ?_
          refine done_ (by kernel_rfl) ?_
          go_wp2
          go_roundw
          case measure => simp only [intOf, hwk]; omega
          case rel => exact ⟨k + 1, by omega, by omega, by first | rfl | rw [hwk], by first | (rw [HR.out]; rfl) | (rw [HR.out]), HB, HRE, HD_16_0⟩
         ·have c4b := decide_eq_false c4
          have hr := HROW.out; rw [if_neg c4] at hr; have HR := aM hr; clear hr HROW
          go_wp2
          have HD_16_0 := aM (HO.out.drew); have HB_ := aM (show ∃ P_, Kd.R (Kd.int .i64) 3 wr.drew w.heap.size P_ u8 (fcAt T m os j.toNat).1 from HB.out.imp (fun _ h => kD h)); clear HB; have HB := HB_; clear HB_; have HRE_ := aM (show ∃ P_, Kd.R (Kd.int .i64) 3 wr.drew w.heap.size P_ (.slice (some ade) o.length ce) o from HRE.out.imp (fun _ h => kD h)); clear HRE; have HRE := HRE_; clear HRE_; have htl_ := (show wr.drew.cell? (adt.add i.toNat) = some (.slice (some adx) (rd_L4 T i).length cx) from htl); clear htl; have htl := htl_; clear htl_; have hxt_ := (show wr.drew.cell? (adx.add k.toNat) = some (.int .i64 (rd (rd_L4 T i) k)) from hxt); clear hxt; have hxt := hxt_; clear hxt_
          refine start_ (n := 9) (S := fun w' => w'.cell? (ade.add i.toNat) = some (.int .i64 (rd o i)) ∧ w'.cell? (ade.add k.toNat) = some (.int .i64 (rd o k))) (ds := []) #[fi,fi,fi,fi,fi,fi,fi,fi,fi] (by kernel_rfl) rfl rfl ⟨hxi, hxk⟩ (fun hHeld => ?_)
          generalize wr.drew = wd_16_1 at HD_16_0 HB HRE htl hxt hHeld ⊢
          refine oz_ 0 39 ?_
          refine oz_ 1 40 ?_
          refine oz_ 2 41 ?_
          refine oz_ 4 43 ?_
          refine oz_ 5 44 ?_
          refine oz_ 6 45 ?_
          refine tz2_ 3 42 hHeld ?_
          refine tz2_ 7 46 hHeld ?_
          refine oz_ 8 47 ?_
          refine done_ (by kernel_rfl) ?_
          go_wp2
          go_roundw
          case measure => simp only [intOf, hwk]; omega
          case rel => exact ⟨k + 1, by omega, by omega, by first | rfl | rw [hwk], by rw [HR.out], HB, HRE, HD_16_0⟩
        ·have c3b := decide_eq_false c3
         have hs := Sep.fcSum_succ T o m i hi0; have HS := aM hs; clear hs; obtain rfl : k = (m : Int) := by omega
         go_wp2
         go_roundw
         case measure => simp only [intOf, hwi]; omega
         case rel => exact ⟨i + 1, by omega, by omega, zci_, by rw [HS.out,  Int.toNat_natCast], HB, HRE, HO⟩
      ·have c2b := decide_eq_false c2
       obtain rfl : i = (m : Int) := by omega
       have hn : fcSum T o m ((m : Int)).toNat = fcSum T o m m := by rw [Int.toNat_natCast]
       rw [hn]; clear hn
       by_cases c5 : (fcAt T m os j.toNat).2 < 0
       ·have c5b := decide_eq_true c5
        have hp := HST.out
        unfold Sep.fcPick at hp
        rw [if_pos (Or.inl c5)] at hp; have HP := aM hp; clear hp HST
        go_wp2
        go_roundw
        case measure => simp only [intOf, hwj]; omega
        case rel => exact ⟨j + 1, by omega, by omega, zdd_, by rw [HP.out], ⟨by rw [HP.out]; exact HRE.out⟩, HO⟩
       ·have c5b := decide_eq_false c5
        by_cases c6 : fcSum T o m m < (fcAt T m os j.toNat).2
        ·have c6b := decide_eq_true c6
         have hp := HST.out
         unfold Sep.fcPick at hp
         rw [if_pos (Or.inr c6)] at hp; have HP := aM hp; clear hp HST
         go_wp2
         go_roundw
         case measure => simp only [intOf, hwj]; omega
         case rel => exact ⟨j + 1, by omega, by omega, zdd_, by rw [HP.out], ⟨by rw [HP.out]; exact HRE.out⟩, HO⟩
        ·have c6b := decide_eq_false c6
         have hp := HST.out
         unfold Sep.fcPick at hp
         rw [if_neg (by rintro (h | h); exact c5 h; exact c6 h)] at hp; have HP := aM hp; clear hp HST
         go_wp2
         go_roundw
         case measure => simp only [intOf, hwj]; omega
         case rel => exact ⟨j + 1, by omega, by omega, zdd_, by rw [HP.out], ⟨by rw [HP.out]; exact HB.out⟩, HO⟩
    ·have c1b := decide_eq_false c1
     obtain rfl : j = (os.length : Int) := by omega
     simp only [Int.toNat_natCast]
     have hb := HB.out; rw [Int.toNat_natCast] at hb; have HB2 := aM hb; clear hb
     go_wp2
     go_ret3
     obtain ⟨P_, hP⟩ := HB2.out
     exact ⟨_, rfl, Kd.R_mono hP (fun _ _ => trivial), HO.out.base⟩
  ·cases h2
mutual
def impl_CrossingBound.l0 : Nat → Int → List (List Int) → Int → Int → Int → Option (Int × Bool)
 | 0, _, _, _, _, _ => none
 | k + 1, x1, x6, x7, x18, x19 => if x19 < x18 then (impl_CrossingBound.l1 k x1 x6 x7 x19 (wrap64 (x19 + 1)) x18 x19) else (some (x7, true))
def impl_CrossingBound.l1 : Nat → Int → List (List Int) → Int → Int → Int → Int → Int → Option (Int × Bool)
 | 0, _, _, _, _, _, _, _ => none
 | k + 1, x1, x6, x7, x8, x9, x18, x19 => if x9 < x1 then (if 0 ≤ x8 then (if x8 < (x6.length : Int) then (if 0 ≤ x9 then (if x9 < ((rd_L4 x6 x8).length : Int) then (if x9 < (x6.length : Int) then (if x8 < ((rd_L4 x6 x9).length : Int) then (impl_CrossingBound.l1 k x1 x6 (wrap64 (x7 + (mn (rd (rd_L4 x6 x8) x9) (rd (rd_L4 x6 x9) x8)))) x8 (wrap64 (x9 + 1)) x18 x19) else (none)) else (none)) else (none)) else (none)) else (none)) else (none)) else (impl_CrossingBound.l0 k x1 x6 x7 x18 (wrap64 (x19 + 1)))
end
def impl_CrossingBound.f (k : Nat) (l0 : List (List Int)) (a1 : Int) : Option (Int × Bool) := (impl_AreLevelWires.f k l0 a1).bind fun t309 => (if t309 = true then ((impl_crossingTable.f k l0 a1).bind fun t310 => (impl_CrossingBound.l0 k a1 t310 0 (t310.length : Int) 0)) else (some (0, false)))
set_option maxHeartbeats 8000000 in
set_option maxRecDepth 100000 in
theorem impl_CrossingBound.calls (k : Nat) (A0 : Option Addr) (c0 : Nat) (l0 : List (List Int)) (a1 : Int) (r1 : Int) (r2 : Bool) (w : World) (hr0 : Kd.C (Kd.slice 3 (Kd.int .i64)) w A0 l0.length l0) (hc0 : l0.length ≤ c0) (h : impl_CrossingBound.f k l0 a1 = some (r1, r2)) :
  Calls Try.prog 40 #[.slice A0 l0.length c0, .int .i64 a1] w fun e w' => e = .returned (.tuple #[.int .i64 r1, .bool r2]) ∧ Below w.heap.size w w' := by
 have HR0 := aM hr0
 have HC0 := aM hc0
 clear hr0 hc0
 have HB := aM (Below.refl w.heap.size w)
 have H : ((impl_AreLevelWires.f k l0 a1).bind fun t309 => (if t309 = true then ((impl_crossingTable.f k l0 a1).bind fun t310 => (impl_CrossingBound.l0 k a1 t310 0 (t310.length : Int) 0)) else (some (0, false)))) = some (r1, r2) := h
 clear h
 replace H := oB.mp H
 obtain ⟨t309, A30, H⟩ := H
 replace H : (if t309 = true then ((impl_crossingTable.f k l0 a1).bind fun t310 => (impl_CrossingBound.l0 k a1 t310 0 (t310.length : Int) 0)) else (some (0, false))) = some (r1, r2) := H
 have A3 := aM A30
 clear A30
 by_cases c4 : t309 = true
 ·subst c4
  have H1 : ((impl_crossingTable.f k l0 a1).bind fun t310 => (impl_CrossingBound.l0 k a1 t310 0 (t310.length : Int) 0)) = some (r1, r2) := by rw [if_pos rfl] at H; exact H
  clear H; have H := H1; clear H1; replace H := oB.mp H; obtain ⟨t310, A50, H⟩ := H; replace H : (impl_CrossingBound.l0 k a1 t310 0 (t310.length : Int) 0) = some (r1, r2) := H; have A5 := aM A50; clear A50; have H' := aM H; clear H
  go_enter Try.func40, Try.ntmps40
  go_wp2_with (first | (go_at_call 48; (with_reducible refine (impl_AreLevelWires.calls k _ _ l0 a1 true _ ?side1 ?side2 A3.out).mono ?_); (case side1 => exact zi_); (case side2 => exact HC0.out); rintro e w' ⟨rfl, ⟨nd, rfl⟩⟩; (try exact q3d_)) | (go_at_call 90; (with_reducible refine (impl_crossingTable.calls k _ _ l0 a1 t310 _ ?side1 ?side2 A5.out).mono ?_); (case side1 => exact zi_); (case side2 => exact HC0.out); rintro e w6 ⟨v311, rfl, ho0, hb⟩; have n_ := z (Kd.S_lower ho0 (below_size zb_)) <| z1 (below_step zb_ hb); clear HB; obtain ⟨HO312, HB⟩ := n_; clear hb; (try clear ho0); obtain ⟨Ao7, co7, eo7⟩ := Kd.S_slice HO312.out; subst eo7))
  repeat (go_quiet (first | (go_at_call 48; (with_reducible refine (impl_AreLevelWires.calls k _ _ l0 a1 true _ ?side1 ?side2 A3.out).mono ?_); (case side1 => exact zi_); (case side2 => exact HC0.out); rintro e w' ⟨rfl, ⟨nd, rfl⟩⟩; (try exact q3d_)) | (go_at_call 90; (with_reducible refine (impl_crossingTable.calls k _ _ l0 a1 t310 _ ?side1 ?side2 A5.out).mono ?_); (case side1 => exact zi_); (case side2 => exact HC0.out); rintro e w6 ⟨v311, rfl, ho0, hb⟩; have n_ := z (Kd.S_lower ho0 (below_size zb_)) <| z1 (below_step zb_ hb); clear HB; obtain ⟨HO312, HB⟩ := n_; clear hb; (try clear ho0); obtain ⟨Ao7, co7, eo7⟩ := Kd.S_slice HO312.out; subst eo7)); try go_wp2_with (first | (go_at_call 48; (with_reducible refine (impl_AreLevelWires.calls k _ _ l0 a1 true _ ?side1 ?side2 A3.out).mono ?_); (case side1 => exact zi_); (case side2 => exact HC0.out); rintro e w' ⟨rfl, ⟨nd, rfl⟩⟩; (try exact q3d_)) | (go_at_call 90; (with_reducible refine (impl_crossingTable.calls k _ _ l0 a1 t310 _ ?side1 ?side2 A5.out).mono ?_); (case side1 => exact zi_); (case side2 => exact HC0.out); rintro e w6 ⟨v311, rfl, ho0, hb⟩; have n_ := z (Kd.S_lower ho0 (below_size zb_)) <| z1 (below_step zb_ hb); clear HB; obtain ⟨HO312, HB⟩ := n_; clear hb; (try clear ho0); obtain ⟨Ao7, co7, eo7⟩ := Kd.S_slice HO312.out; subst eo7)))
  go_loopg [7, 19] k (fun kq v7 v19 w' => ∃ (x7_1 : Int) (x19_1 : Int), v7 = .int .i64 x7_1 ∧ v19 = .int .i64 x19_1 ∧ Aside0 (impl_CrossingBound.l0 kq a1 t310 x7_1 (t310.length : Int) x19_1 = some (r1, r2)) ∧ Aside0 (kq ≤ k) ∧ Aside0 (Kd.S (Kd.slice 3 (Kd.int .i64)) 39 w' w.heap.size (fun _ => True) (.slice Ao7 t310.length co7) t310) ∧ Aside0 (Below w.heap.size w w'))
  case atStart => exact ⟨(0), (0), zc_, zc_, H', ⟨Nat.le_refl _⟩, ⟨zs HO312.out⟩, ⟨zb_⟩⟩
  case round =>
   clear H'; obtain ⟨x7_1, x19_1, rfl, rfl, HA, HK1, HO_6, HB⟩ := hrel
   cases gk with
   | zero => exact absurd HA.out (by simp [impl_CrossingBound.l0])
   | succ k1 =>
    have H := HA.out; clear HA
    simp only [impl_CrossingBound.l0] at H
    by_cases c8 : x19_1 < (t310.length : Int)
    ·rw [if_pos c8] at H
     have c8b0 := decide_eq_true c8; clear c8; have H' := aM H; clear H
     go_wp2
     repeat (go_quiet (fail); try go_wp2)
     go_loopg [7, 9] k1 (fun kq v7 v9 w' => ∃ (x7_2 : Int) (x9_2 : Int), v7 = .int .i64 x7_2 ∧ v9 = .int .i64 x9_2 ∧ Aside0 (impl_CrossingBound.l1 kq a1 t310 x7_2 x19_1 x9_2 (t310.length : Int) x19_1 = some (r1, r2)) ∧ Aside0 (kq ≤ k1) ∧ Aside0 (Kd.S (Kd.slice 3 (Kd.int .i64)) 39 w' w.heap.size (fun _ => True) (.slice Ao7 t310.length co7) t310) ∧ Aside0 (Below w.heap.size w w'))
     case atStart => exact ⟨(x7_1), (wrap64 (x19_1 + 1)), zc_, zc_, H', ⟨Nat.le_refl _⟩, ⟨zs HO_6.out⟩, ⟨zb_⟩⟩
     case round =>
      clear H'; (try clear c8b0); obtain ⟨x7_2, x9_2, rfl, rfl, HA, HK2, HO_6, HB⟩ := hrel
      cases gk with
      | zero => exact absurd HA.out (by simp [impl_CrossingBound.l1])
      | succ k2 =>
       have H := HA.out; clear HA
       simp only [impl_CrossingBound.l1] at H
       by_cases c9 : x9_2 < a1
       ·rw [if_pos c9] at H
        have c9b0 := decide_eq_true c9; clear c9
        by_cases c10 : 0 ≤ x19_1
        ·rw [if_pos c10] at H
         have c10b0 := decide_eq_true c10; clear c10
         by_cases c11 : x19_1 < (t310.length : Int)
         ·rw [if_pos c11] at H
          have c11b0 := decide_eq_true c11; clear c11
          by_cases c12 : 0 ≤ x9_2
          ·rw [if_pos c12] at H
           have c12b0 := decide_eq_true c12; clear c12
           by_cases c13 : x9_2 < ((rd_L4 t310 x19_1).length : Int)
           ·rw [if_pos c13] at H
            have c13b0 := decide_eq_true c13; clear c13
            by_cases c14 : x9_2 < (t310.length : Int)
            ·rw [if_pos c14] at H
             have c14b0 := decide_eq_true c14; clear c14
             by_cases c15 : x19_1 < ((rd_L4 t310 x9_2).length : Int)
             ·rw [if_pos c15] at H
              have c15b0 := decide_eq_true c15; clear c15; obtain ⟨ji16, hji16⟩ : ∃ j_ : Int, (mn (rd (rd_L4 t310 x19_1) x9_2) (rd (rd_L4 t310 x9_2) x19_1)) = j_ := ⟨_, rfl⟩; replace H : (impl_CrossingBound.l1 k2 a1 t310 (wrap64 (x7_2 + (ji16))) x19_1 (wrap64 (x9_2 + 1)) (t310.length : Int) x19_1) = some (r1, r2) := by first | (rw [hji16] at H; exact H) | (simp only [hji16] at H ⊢; exact H)
              have hji16_ : (if (rd (rd_L4 t310 x9_2) x19_1) < (rd (rd_L4 t310 x19_1) x9_2) then (rd (rd_L4 t310 x9_2) x19_1) else (rd (rd_L4 t310 x19_1) x9_2)) = ji16 := hji16; have H' := aM H; clear H; have p313 : 0 ≤ (x19_1 : Int) := of_decide_eq_true za_; have q313 : x19_1 < (t310.length : Int) := of_decide_eq_true za_; obtain ⟨ad313, A313_0, c313_0, e313, hx313_0, hl313_0, hi313_0⟩ := at_L4 (Kd.S_reads' HO_6.out).2.2 x19_1 p313 q313
              cases e313
              obtain ⟨ce313, hce313, hMe313, hcc313⟩ := Kd.S_get HO_6.out [] x19_1 p313 (by first | exact q313 | exact of_decide_eq_true za_ | (have e_ := (Kd.S_reads' HO_6.out).1; omega)); obtain ⟨ve313_0, rfl, ge313_0⟩ := hMe313; have hv313_0 := hcc313 0 _ rfl; rw [Nat.add_zero, show ((Kd.slice 3 (Kd.int .i64))).sz = 1 from rfl, Nat.mul_one] at hv313_0; replace hv313_0 := Option.some.inj (hv313_0.symm.trans hx313_0); rw [hv313_0] at ge313_0; have HL313_0 := aM (show Kd.R (Kd.int .i64) 3 _ _ _ _ (rd_L4 t310 x19_1) from ge313_0); clear hv313_0 ge313_0 hcc313 hce313; have HR313_0 := aM hi313_0; have HC313_0 := aM hl313_0; clear hi313_0 hl313_0; replace p313 := eq_true p313; replace q313 := eq_true q313; have p314 : 0 ≤ (x9_2 : Int) := of_decide_eq_true za_; have q314 : x9_2 < ((rd_L4 t310 x19_1).length : Int) := of_decide_eq_true za_; obtain ⟨ad314, e314, hx314_0⟩ := Kd.at_int (by repeat (first | (with_reducible exact HR313_0.out) | (with_reducible refine cA ?_ _) | (with_reducible refine cN ?_ _) | (with_reducible refine cD ?_) | exact HR313_0.out)) x9_2 p314 q314
              cases e314
              replace p314 := eq_true p314; replace q314 := eq_true q314; have p315 : 0 ≤ (x9_2 : Int) := of_decide_eq_true za_; have q315 : x9_2 < (t310.length : Int) := of_decide_eq_true za_; obtain ⟨ad315, A315_0, c315_0, e315, hx315_0, hl315_0, hi315_0⟩ := at_L4 (Kd.S_reads' HO_6.out).2.2 x9_2 p315 q315; obtain rfl : ad313 = ad315 := (by injection e315); obtain ⟨ce315, hce315, hMe315, hcc315⟩ := Kd.S_get HO_6.out [] x9_2 p315 (by first | exact q315 | exact of_decide_eq_true za_ | (have e_ := (Kd.S_reads' HO_6.out).1; omega)); obtain ⟨ve315_0, rfl, ge315_0⟩ := hMe315; have hv315_0 := hcc315 0 _ rfl; rw [Nat.add_zero, show ((Kd.slice 3 (Kd.int .i64))).sz = 1 from rfl, Nat.mul_one] at hv315_0; replace hv315_0 := Option.some.inj (hv315_0.symm.trans hx315_0); rw [hv315_0] at ge315_0; have HL315_0 := aM (show Kd.R (Kd.int .i64) 3 _ _ _ _ (rd_L4 t310 x9_2) from ge315_0); clear hv315_0 ge315_0 hcc315 hce315; have HR315_0 := aM hi315_0; have HC315_0 := aM hl315_0; clear hi315_0 hl315_0; replace p315 := eq_true p315; replace q315 := eq_true q315; have p316 : 0 ≤ (x19_1 : Int) := of_decide_eq_true za_; have q316 : x19_1 < ((rd_L4 t310 x9_2).length : Int) := of_decide_eq_true za_; obtain ⟨ad316, e316, hx316_0⟩ := Kd.at_int (by repeat (first | (with_reducible exact HR315_0.out) | (with_reducible refine cA ?_ _) | (with_reducible refine cN ?_ _) | (with_reducible refine cD ?_) | exact HR315_0.out)) x19_1 p316 q316
              cases e316
              replace p316 := eq_true p316; replace q316 := eq_true q316
              go_wp2
              repeat (go_quiet (fail); try go_wp2)
              go_roundg k2
              case measure => have := HK1.out; have := HK2.out; omega
              case rel => exact ⟨(wrap64 (x7_2 + (ji16))), (wrap64 (x9_2 + 1)), (by first | rfl | (simp; done) | (simp only [← hji16] <;> (first | rfl | simp)) | (simp [*]; done)), zc_, H', ⟨zbh_⟩, ⟨zs HO_6.out⟩, ⟨zb_⟩⟩
             ·rw [if_neg c15] at H
              exact q3n_ H
            ·rw [if_neg c14] at H
             exact q3n_ H
           ·rw [if_neg c13] at H
            exact q3n_ H
          ·rw [if_neg c12] at H
           exact q3n_ H
         ·rw [if_neg c11] at H
          exact q3n_ H
        ·rw [if_neg c10] at H
         exact q3n_ H
       ·rw [if_neg c9] at H
        have c9b0 := decide_eq_false c9; clear c9; have H' := aM H; clear H
        go_wp2
        repeat (go_quiet (fail); try go_wp2)
        go_roundg k2
        case measure => have := HK1.out; have := HK2.out; omega
        case rel => exact ⟨(x7_2), (wrap64 (x19_1 + 1)), zc_, zc_, H', ⟨zbh_⟩, ⟨zs HO_6.out⟩, ⟨zb_⟩⟩
    ·rw [if_neg c8] at H
     have c8b0 := decide_eq_false c8; clear c8
     simp only [Option.some.injEq, Prod.mk.injEq] at H
     obtain ⟨rfl, rfl⟩ := H
     go_wp2
     repeat (go_quiet (fail); try go_wp2)
     go_ret2
     exact ⟨zh_, zb_⟩
 ·replace c4 := Bool.eq_false_iff.mpr c4
  subst c4; have H1 : (some (0, false)) = some (r1, r2) := by rw [if_neg (show ¬ (false = true) by decide)] at H; exact H
  clear H; have H := H1; clear H1
  simp only [Option.some.injEq, Prod.mk.injEq] at H
  obtain ⟨rfl, rfl⟩ := H
  go_enter Try.func40, Try.ntmps40
  go_wp2_with (first | (go_at_call 48; (with_reducible refine (impl_AreLevelWires.calls k _ _ l0 a1 false _ ?side1 ?side2 A3.out).mono ?_); (case side1 => exact zi_); (case side2 => exact HC0.out); rintro e w' ⟨rfl, ⟨nd, rfl⟩⟩; (try exact q3d_)))
  repeat (go_quiet (first | (go_at_call 48; (with_reducible refine (impl_AreLevelWires.calls k _ _ l0 a1 false _ ?side1 ?side2 A3.out).mono ?_); (case side1 => exact zi_); (case side2 => exact HC0.out); rintro e w' ⟨rfl, ⟨nd, rfl⟩⟩; (try exact q3d_))); try go_wp2_with (first | (go_at_call 48; (with_reducible refine (impl_AreLevelWires.calls k _ _ l0 a1 false _ ?side1 ?side2 A3.out).mono ?_); (case side1 => exact zi_); (case side2 => exact HC0.out); rintro e w' ⟨rfl, ⟨nd, rfl⟩⟩; (try exact q3d_))))
  go_ret2
  exact ⟨zh_, zb_⟩
def spec_l1Least.f (a0 : Int) (a1 : Int) : Option (Int) := if a0 < a1 then (some a0) else (some a1)
set_option maxHeartbeats 8000000 in
set_option maxRecDepth 100000 in
theorem spec_l1Least.calls (a0 : Int) (a1 : Int) (r : Int) (w : World) (h : spec_l1Least.f a0 a1 = some r) :
  Calls Try.prog 64 #[.int .i64 a0, .int .i64 a1] w fun e w' => e = .returned (.int .i64 r) ∧ Drawn0 w w' := by
 have H : (if a0 < a1 then (some a0) else (some a1)) = some r := h
 clear h
 by_cases c3 : a0 < a1
 ·rw [if_pos c3] at H
  have c3b0 := decide_eq_true c3; clear c3; obtain rfl := Option.some.inj H
  go_enter Try.func64, Try.ntmps64
  go_wp2
  go_ret
  exact ⟨zc_, zg_⟩
 ·rw [if_neg c3] at H
  have c3b0 := decide_eq_false c3; clear c3; obtain rfl := Option.some.inj H
  go_enter Try.func64, Try.ntmps64
  go_wp2
  go_ret
  exact ⟨zc_, zg_⟩
mutual
def spec_CrossingBound.l0 : Nat → Int → List (List Int) → Int → Int → Option (Int × Bool)
 | 0, _, _, _, _ => none
 | k + 1, x1, x6, x7, x8 => if x8 < x1 then (spec_CrossingBound.l1 k x1 x6 x7 x8 (wrap64 (x8 + 1))) else (some (x7, true))
def spec_CrossingBound.l1 : Nat → Int → List (List Int) → Int → Int → Int → Option (Int × Bool)
 | 0, _, _, _, _, _ => none
 | k + 1, x1, x6, x7, x8, x9 => if x9 < x1 then (if 0 ≤ x8 then (if x8 < (x6.length : Int) then (if 0 ≤ x9 then (if x9 < ((rd_L4 x6 x8).length : Int) then (if x9 < (x6.length : Int) then (if x8 < ((rd_L4 x6 x9).length : Int) then ((spec_l1Least.f (rd (rd_L4 x6 x8) x9) (rd (rd_L4 x6 x9) x8)).bind fun t325 => (spec_CrossingBound.l1 k x1 x6 (wrap64 (x7 + t325)) x8 (wrap64 (x9 + 1)))) else (none)) else (none)) else (none)) else (none)) else (none)) else (none)) else (spec_CrossingBound.l0 k x1 x6 x7 (wrap64 (x8 + 1)))
end
def spec_CrossingBound.f (k : Nat) (l0 : List (List Int)) (a1 : Int) : Option (Int × Bool) := (spec_plWires.f k l0 a1).bind fun t317 => (if t317 = true then ((spec_plTable.f k l0 a1).bind fun t318 => (spec_CrossingBound.l0 k a1 t318 0 0)) else (some (0, false)))
theorem spec_CrossingBound.calls (k : Nat) (A0 : Option Addr) (c0 : Nat) (l0 : List (List Int)) (a1 : Int) (r1 : Int) (r2 : Bool) (w : World) (hr0 : Kd.C (Kd.slice 3 (Kd.int .i64)) w A0 l0.length l0) (hc0 : l0.length ≤ c0) (h : spec_CrossingBound.f k l0 a1 = some (r1, r2)) :
  Calls Try.prog 41 #[.slice A0 l0.length c0, .int .i64 a1] w fun e w' => e = .returned (.tuple #[.int .i64 r1, .bool r2]) ∧ Below w.heap.size w w' := by
 have HR0 := aM hr0
 have HC0 := aM hc0
 clear hr0 hc0
 have HB := aM (Below.refl w.heap.size w)
 have H : ((spec_plWires.f k l0 a1).bind fun t317 => (if t317 = true then ((spec_plTable.f k l0 a1).bind fun t318 => (spec_CrossingBound.l0 k a1 t318 0 0)) else (some (0, false)))) = some (r1, r2) := h
 clear h
 replace H := oB.mp H
 obtain ⟨t317, A30, H⟩ := H
 replace H : (if t317 = true then ((spec_plTable.f k l0 a1).bind fun t318 => (spec_CrossingBound.l0 k a1 t318 0 0)) else (some (0, false))) = some (r1, r2) := H
 have A3 := aM A30
 clear A30
 by_cases c4 : t317 = true
 ·subst c4
  have H1 : ((spec_plTable.f k l0 a1).bind fun t318 => (spec_CrossingBound.l0 k a1 t318 0 0)) = some (r1, r2) := by rw [if_pos rfl] at H; exact H
  clear H; have H := H1; clear H1; replace H := oB.mp H; obtain ⟨t318, A50, H⟩ := H; replace H : (spec_CrossingBound.l0 k a1 t318 0 0) = some (r1, r2) := H; have A5 := aM A50; clear A50; have H' := aM H; clear H
  go_enter Try.func41, Try.ntmps41
  go_wp2_with (first | (go_at_call 91; (with_reducible refine (spec_plWires.calls k _ _ l0 a1 true _ ?side1 ?side2 A3.out).mono ?_); (case side1 => exact zi_); (case side2 => exact HC0.out); rintro e w' ⟨rfl, ⟨nd, rfl⟩⟩; (try exact q3d_)) | (go_at_call 92; (with_reducible refine (spec_plTable.calls k _ _ l0 a1 t318 _ ?side1 ?side2 A5.out).mono ?_); (case side1 => exact zi_); (case side2 => exact HC0.out); rintro e w6 ⟨v319, rfl, ho0, hb⟩; have n_ := z (Kd.S_lower ho0 (below_size zb_)) <| z1 (below_step zb_ hb); clear HB; obtain ⟨HO320, HB⟩ := n_; clear hb; (try clear ho0)))
  repeat (go_quiet (first | (go_at_call 91; (with_reducible refine (spec_plWires.calls k _ _ l0 a1 true _ ?side1 ?side2 A3.out).mono ?_); (case side1 => exact zi_); (case side2 => exact HC0.out); rintro e w' ⟨rfl, ⟨nd, rfl⟩⟩; (try exact q3d_)) | (go_at_call 92; (with_reducible refine (spec_plTable.calls k _ _ l0 a1 t318 _ ?side1 ?side2 A5.out).mono ?_); (case side1 => exact zi_); (case side2 => exact HC0.out); rintro e w6 ⟨v319, rfl, ho0, hb⟩; have n_ := z (Kd.S_lower ho0 (below_size zb_)) <| z1 (below_step zb_ hb); clear HB; obtain ⟨HO320, HB⟩ := n_; clear hb; (try clear ho0))); try go_wp2_with (first | (go_at_call 91; (with_reducible refine (spec_plWires.calls k _ _ l0 a1 true _ ?side1 ?side2 A3.out).mono ?_); (case side1 => exact zi_); (case side2 => exact HC0.out); rintro e w' ⟨rfl, ⟨nd, rfl⟩⟩; (try exact q3d_)) | (go_at_call 92; (with_reducible refine (spec_plTable.calls k _ _ l0 a1 t318 _ ?side1 ?side2 A5.out).mono ?_); (case side1 => exact zi_); (case side2 => exact HC0.out); rintro e w6 ⟨v319, rfl, ho0, hb⟩; have n_ := z (Kd.S_lower ho0 (below_size zb_)) <| z1 (below_step zb_ hb); clear HB; obtain ⟨HO320, HB⟩ := n_; clear hb; (try clear ho0))))
  go_loopg [7, 8] k (fun kq v7 v8 w' => ∃ (x7_1 : Int) (x8_1 : Int), v7 = .int .i64 x7_1 ∧ v8 = .int .i64 x8_1 ∧ Aside0 (spec_CrossingBound.l0 kq a1 t318 x7_1 x8_1 = some (r1, r2)) ∧ Aside0 (kq ≤ k) ∧ Aside0 (Kd.S (Kd.slice 3 (Kd.int .i64)) 39 w' w.heap.size (fun _ => True) v319 t318) ∧ Aside0 (Below w.heap.size w w'))
  case atStart => exact ⟨(0), (0), zc_, zc_, H', ⟨Nat.le_refl _⟩, ⟨zs HO320.out⟩, ⟨zb_⟩⟩
  case round =>
   clear H'; obtain ⟨x7_1, x8_1, rfl, rfl, HA, HK1, HO_6, HB⟩ := hrel
   cases gk with
   | zero => exact absurd HA.out (by simp [spec_CrossingBound.l0])
   | succ k1 =>
    have H := HA.out; clear HA
    simp only [spec_CrossingBound.l0] at H
    by_cases c7 : x8_1 < a1
    ·rw [if_pos c7] at H
     have c7b0 := decide_eq_true c7; clear c7; have H' := aM H; clear H
     go_wp2
     repeat (go_quiet (fail); try go_wp2)
     go_loopg [7, 9] k1 (fun kq v7 v9 w' => ∃ (x7_2 : Int) (x9_2 : Int), v7 = .int .i64 x7_2 ∧ v9 = .int .i64 x9_2 ∧ Aside0 (spec_CrossingBound.l1 kq a1 t318 x7_2 x8_1 x9_2 = some (r1, r2)) ∧ Aside0 (kq ≤ k1) ∧ Aside0 (Kd.S (Kd.slice 3 (Kd.int .i64)) 39 w' w.heap.size (fun _ => True) v319 t318) ∧ Aside0 (Below w.heap.size w w'))
     case atStart => exact ⟨(x7_1), (wrap64 (x8_1 + 1)), zc_, zc_, H', ⟨Nat.le_refl _⟩, ⟨zs HO_6.out⟩, ⟨zb_⟩⟩
     case round =>
      clear H'; (try clear c7b0); obtain ⟨x7_2, x9_2, rfl, rfl, HA, HK2, HO_6, HB⟩ := hrel
      cases gk with
      | zero => exact absurd HA.out (by simp [spec_CrossingBound.l1])
      | succ k2 =>
       have H := HA.out; clear HA
       simp only [spec_CrossingBound.l1] at H
       by_cases c8 : x9_2 < a1
       ·rw [if_pos c8] at H
        have c8b0 := decide_eq_true c8; clear c8
        by_cases c9 : 0 ≤ x8_1
        ·rw [if_pos c9] at H
         have c9b0 := decide_eq_true c9; clear c9
         by_cases c10 : x8_1 < (t318.length : Int)
         ·rw [if_pos c10] at H
          have c10b0 := decide_eq_true c10; clear c10
          by_cases c11 : 0 ≤ x9_2
          ·rw [if_pos c11] at H
           have c11b0 := decide_eq_true c11; clear c11
           by_cases c12 : x9_2 < ((rd_L4 t318 x8_1).length : Int)
           ·rw [if_pos c12] at H
            have c12b0 := decide_eq_true c12; clear c12
            by_cases c13 : x9_2 < (t318.length : Int)
            ·rw [if_pos c13] at H
             have c13b0 := decide_eq_true c13; clear c13
             by_cases c14 : x8_1 < ((rd_L4 t318 x9_2).length : Int)
             ·rw [if_pos c14] at H
              have c14b0 := decide_eq_true c14; clear c14; replace H := oB.mp H; obtain ⟨t325, A150, H⟩ := H; replace H : (spec_CrossingBound.l1 k2 a1 t318 (wrap64 (x7_2 + t325)) x8_1 (wrap64 (x9_2 + 1))) = some (r1, r2) := H; have A15 := aM A150; clear A150; have H' := aM H; clear H; obtain ⟨Ao16, co16, eo16⟩ := Kd.S_slice HO_6.out; subst eo16; have p321 : 0 ≤ (x8_1 : Int) := of_decide_eq_true za_; have q321 : x8_1 < (t318.length : Int) := of_decide_eq_true za_; obtain ⟨ad321, A321_0, c321_0, e321, hx321_0, hl321_0, hi321_0⟩ := at_L4 (Kd.S_reads' HO_6.out).2.2 x8_1 p321 q321
              cases e321
              obtain ⟨ce321, hce321, hMe321, hcc321⟩ := Kd.S_get HO_6.out [] x8_1 p321 (by first | exact q321 | exact of_decide_eq_true za_ | (have e_ := (Kd.S_reads' HO_6.out).1; omega)); obtain ⟨ve321_0, rfl, ge321_0⟩ := hMe321; have hv321_0 := hcc321 0 _ rfl; rw [Nat.add_zero, show ((Kd.slice 3 (Kd.int .i64))).sz = 1 from rfl, Nat.mul_one] at hv321_0; replace hv321_0 := Option.some.inj (hv321_0.symm.trans hx321_0); rw [hv321_0] at ge321_0; have HL321_0 := aM (show Kd.R (Kd.int .i64) 3 _ _ _ _ (rd_L4 t318 x8_1) from ge321_0); clear hv321_0 ge321_0 hcc321 hce321; have HR321_0 := aM hi321_0; have HC321_0 := aM hl321_0; clear hi321_0 hl321_0; replace p321 := eq_true p321; replace q321 := eq_true q321; have p322 : 0 ≤ (x9_2 : Int) := of_decide_eq_true za_; have q322 : x9_2 < ((rd_L4 t318 x8_1).length : Int) := of_decide_eq_true za_; obtain ⟨ad322, e322, hx322_0⟩ := Kd.at_int (by repeat (first | (with_reducible exact HR321_0.out) | (with_reducible refine cA ?_ _) | (with_reducible refine cN ?_ _) | (with_reducible refine cD ?_) | exact HR321_0.out)) x9_2 p322 q322
              cases e322
              replace p322 := eq_true p322; replace q322 := eq_true q322; have p323 : 0 ≤ (x9_2 : Int) := of_decide_eq_true za_; have q323 : x9_2 < (t318.length : Int) := of_decide_eq_true za_; obtain ⟨ad323, A323_0, c323_0, e323, hx323_0, hl323_0, hi323_0⟩ := at_L4 (Kd.S_reads' HO_6.out).2.2 x9_2 p323 q323; obtain rfl : ad321 = ad323 := (by injection e323); obtain ⟨ce323, hce323, hMe323, hcc323⟩ := Kd.S_get HO_6.out [] x9_2 p323 (by first | exact q323 | exact of_decide_eq_true za_ | (have e_ := (Kd.S_reads' HO_6.out).1; omega)); obtain ⟨ve323_0, rfl, ge323_0⟩ := hMe323; have hv323_0 := hcc323 0 _ rfl; rw [Nat.add_zero, show ((Kd.slice 3 (Kd.int .i64))).sz = 1 from rfl, Nat.mul_one] at hv323_0; replace hv323_0 := Option.some.inj (hv323_0.symm.trans hx323_0); rw [hv323_0] at ge323_0; have HL323_0 := aM (show Kd.R (Kd.int .i64) 3 _ _ _ _ (rd_L4 t318 x9_2) from ge323_0); clear hv323_0 ge323_0 hcc323 hce323; have HR323_0 := aM hi323_0; have HC323_0 := aM hl323_0; clear hi323_0 hl323_0; replace p323 := eq_true p323; replace q323 := eq_true q323; have p324 : 0 ≤ (x8_1 : Int) := of_decide_eq_true za_; have q324 : x8_1 < ((rd_L4 t318 x9_2).length : Int) := of_decide_eq_true za_; obtain ⟨ad324, e324, hx324_0⟩ := Kd.at_int (by repeat (first | (with_reducible exact HR323_0.out) | (with_reducible refine cA ?_ _) | (with_reducible refine cN ?_ _) | (with_reducible refine cD ?_) | exact HR323_0.out)) x8_1 p324 q324
              cases e324
              replace p324 := eq_true p324; replace q324 := eq_true q324
              go_wp2_with (first | (go_at_call 64; (with_reducible refine (spec_l1Least.calls (rd (rd_L4 t318 x8_1) x9_2) (rd (rd_L4 t318 x9_2) x8_1) t325 _ A15.out).mono ?_); rintro e w' ⟨rfl, ⟨nd, rfl⟩⟩; (try exact q3d_)))
              repeat (go_quiet (first | (go_at_call 64; (with_reducible refine (spec_l1Least.calls (rd (rd_L4 t318 x8_1) x9_2) (rd (rd_L4 t318 x9_2) x8_1) t325 _ A15.out).mono ?_); rintro e w' ⟨rfl, ⟨nd, rfl⟩⟩; (try exact q3d_))); try go_wp2_with (first | (go_at_call 64; (with_reducible refine (spec_l1Least.calls (rd (rd_L4 t318 x8_1) x9_2) (rd (rd_L4 t318 x9_2) x8_1) t325 _ A15.out).mono ?_); rintro e w' ⟨rfl, ⟨nd, rfl⟩⟩; (try exact q3d_))))
              go_roundg k2
              case measure => have := HK1.out; have := HK2.out; omega
              case rel => exact ⟨(wrap64 (x7_2 + t325)), (wrap64 (x9_2 + 1)), zc_, zc_, H', ⟨zbh_⟩, ⟨zs HO_6.out⟩, ⟨zb_⟩⟩
             ·rw [if_neg c14] at H
              exact q3n_ H
            ·rw [if_neg c13] at H
             exact q3n_ H
           ·rw [if_neg c12] at H
            exact q3n_ H
          ·rw [if_neg c11] at H
           exact q3n_ H
         ·rw [if_neg c10] at H
          exact q3n_ H
        ·rw [if_neg c9] at H
         exact q3n_ H
       ·rw [if_neg c8] at H
        have c8b0 := decide_eq_false c8; clear c8; have H' := aM H; clear H
        go_wp2
        repeat (go_quiet (fail); try go_wp2)
        go_roundg k2
        case measure => have := HK1.out; have := HK2.out; omega
        case rel => exact ⟨(x7_2), (wrap64 (x8_1 + 1)), zc_, zc_, H', ⟨zbh_⟩, ⟨zs HO_6.out⟩, ⟨zb_⟩⟩
    ·rw [if_neg c7] at H
     have c7b0 := decide_eq_false c7; clear c7
     simp only [Option.some.injEq, Prod.mk.injEq] at H
     obtain ⟨rfl, rfl⟩ := H
     go_wp2
     repeat (go_quiet (fail); try go_wp2)
     go_ret2
     exact ⟨zh_, zb_⟩
 ·replace c4 := Bool.eq_false_iff.mpr c4
  subst c4; have H1 : (some (0, false)) = some (r1, r2) := by rw [if_neg (show ¬ (false = true) by decide)] at H; exact H
  clear H; have H := H1; clear H1
  simp only [Option.some.injEq, Prod.mk.injEq] at H
  obtain ⟨rfl, rfl⟩ := H
  go_enter Try.func41, Try.ntmps41
  go_wp2_with (first | (go_at_call 91; (with_reducible refine (spec_plWires.calls k _ _ l0 a1 false _ ?side1 ?side2 A3.out).mono ?_); (case side1 => exact zi_); (case side2 => exact HC0.out); rintro e w' ⟨rfl, ⟨nd, rfl⟩⟩; (try exact q3d_)))
  repeat (go_quiet (first | (go_at_call 91; (with_reducible refine (spec_plWires.calls k _ _ l0 a1 false _ ?side1 ?side2 A3.out).mono ?_); (case side1 => exact zi_); (case side2 => exact HC0.out); rintro e w' ⟨rfl, ⟨nd, rfl⟩⟩; (try exact q3d_))); try go_wp2_with (first | (go_at_call 91; (with_reducible refine (spec_plWires.calls k _ _ l0 a1 false _ ?side1 ?side2 A3.out).mono ?_); (case side1 => exact zi_); (case side2 => exact HC0.out); rintro e w' ⟨rfl, ⟨nd, rfl⟩⟩; (try exact q3d_))))
  go_ret2
  exact ⟨zh_, zb_⟩
mutual
def impl_CountCrossings.l0 : Nat → List (List Int) → Int → List (List Int) → Int → Int → Option (Int × Bool)
 | 0, _, _, _, _, _ => none
 | k + 1, x0, x6, x15, x16, x17 => if x17 < x16 then (if 0 ≤ x17 then (if x17 < (x15.length : Int) then (if x17 ≤ (x0.length : Int) then ((some (x0.take (x17 : Int).toNat : List (List Int))).bind fun y328 => (impl_CountCrossings.l1 k x0 x6 (rd_L4 x15 x17) x15 x16 x17 y328 (y328.length : Int) 0)) else (none)) else (none)) else (none)) else (some (x6, true))
def impl_CountCrossings.l1 : Nat → List (List Int) → Int → List Int → List (List Int) → Int → Int → List (List Int) → Int → Int → Option (Int × Bool)
 | 0, _, _, _, _, _, _, _, _, _ => none
 | k + 1, x0, x6, x8, x15, x16, x17, x24, x25, x26 => if x26 < x25 then (if 0 ≤ x26 then (if x26 < (x24.length : Int) then (if 0 < (x8.length : Int) then (if 0 < ((rd_L4 x24 x26).length : Int) then (if 1 < (x8.length : Int) then (if 1 < ((rd_L4 x24 x26).length : Int) then (if (wrap64 ((wrap64 ((rd x8 0) - (rd (rd_L4 x24 x26) 0))) * (wrap64 ((rd x8 1) - (rd (rd_L4 x24 x26) 1))))) < 0 then (impl_CountCrossings.l1 k x0 (wrap64 (x6 + 1)) x8 x15 x16 x17 x24 x25 (wrap64 (x26 + 1))) else (impl_CountCrossings.l1 k x0 x6 x8 x15 x16 x17 x24 x25 (wrap64 (x26 + 1)))) else (none)) else (none)) else (none)) else (none)) else (none)) else (none)) else (impl_CountCrossings.l0 k x0 x6 x15 x16 (wrap64 (x17 + 1)))
end
def impl_CountCrossings.f (k : Nat) (l0 : List (List Int)) (a1 : Int) : Option (Int × Bool) := (impl_AreLevelWires.f k l0 a1).bind fun t326 => (if t326 = true then (impl_CountCrossings.l0 k l0 0 l0 (l0.length : Int) 0) else (some (0, false)))
theorem impl_CountCrossings.calls (k : Nat) (A0 : Option Addr) (c0 : Nat) (l0 : List (List Int)) (a1 : Int) (r1 : Int) (r2 : Bool) (w : World) (hr0 : Kd.C (Kd.slice 3 (Kd.int .i64)) w A0 l0.length l0) (hc0 : l0.length ≤ c0) (h : impl_CountCrossings.f k l0 a1 = some (r1, r2)) :
  Calls Try.prog 42 #[.slice A0 l0.length c0, .int .i64 a1] w fun e w' => e = .returned (.tuple #[.int .i64 r1, .bool r2]) ∧ Drawn0 w w' := by
 have HR0 := aM hr0
 have HC0 := aM hc0
 clear hr0 hc0
 have H : ((impl_AreLevelWires.f k l0 a1).bind fun t326 => (if t326 = true then (impl_CountCrossings.l0 k l0 0 l0 (l0.length : Int) 0) else (some (0, false)))) = some (r1, r2) := h
 clear h
 replace H := oB.mp H
 obtain ⟨t326, A30, H⟩ := H
 replace H : (if t326 = true then (impl_CountCrossings.l0 k l0 0 l0 (l0.length : Int) 0) else (some (0, false))) = some (r1, r2) := H
 have A3 := aM A30
 clear A30
 by_cases c4 : t326 = true
 ·subst c4
  have H1 : (impl_CountCrossings.l0 k l0 0 l0 (l0.length : Int) 0) = some (r1, r2) := by rw [if_pos rfl] at H; exact H
  clear H; have H := H1; clear H1; have H' := aM H; clear H
  go_enter Try.func42, Try.ntmps42
  go_wp2_with (first | (go_at_call 48; (with_reducible refine (impl_AreLevelWires.calls k _ _ l0 a1 true _ ?side1 ?side2 A3.out).mono ?_); (case side1 => exact zi_); (case side2 => exact HC0.out); rintro e w' ⟨rfl, ⟨nd, rfl⟩⟩; (try exact q3d_)))
  repeat (go_quiet (first | (go_at_call 48; (with_reducible refine (impl_AreLevelWires.calls k _ _ l0 a1 true _ ?side1 ?side2 A3.out).mono ?_); (case side1 => exact zi_); (case side2 => exact HC0.out); rintro e w' ⟨rfl, ⟨nd, rfl⟩⟩; (try exact q3d_))); try go_wp2_with (first | (go_at_call 48; (with_reducible refine (impl_AreLevelWires.calls k _ _ l0 a1 true _ ?side1 ?side2 A3.out).mono ?_); (case side1 => exact zi_); (case side2 => exact HC0.out); rintro e w' ⟨rfl, ⟨nd, rfl⟩⟩; (try exact q3d_))))
  go_loopg [6, 17] k (fun kq v6 v17 w' => ∃ (x6_1 : Int) (x17_1 : Int), v6 = .int .i64 x6_1 ∧ v17 = .int .i64 x17_1 ∧ Aside0 (impl_CountCrossings.l0 kq l0 x6_1 l0 (l0.length : Int) x17_1 = some (r1, r2)) ∧ Aside0 (kq ≤ k) ∧ Drawn0 w w')
  case atStart => exact ⟨(0), (0), zc_, zc_, H', ⟨Nat.le_refl _⟩, zg_⟩
  case round =>
   clear H'; obtain ⟨x6_1, x17_1, rfl, rfl, HA, HK1, ⟨m1, rfl⟩⟩ := hrel
   cases gk with
   | zero => exact absurd HA.out (by simp [impl_CountCrossings.l0])
   | succ k1 =>
    have H := HA.out; clear HA
    simp only [impl_CountCrossings.l0] at H
    by_cases c5 : x17_1 < (l0.length : Int)
    ·rw [if_pos c5] at H
     have c5b0 := decide_eq_true c5; clear c5
     by_cases c6 : 0 ≤ x17_1
     ·rw [if_pos c6] at H
      have c6b0 := decide_eq_true c6; clear c6
      by_cases c7 : x17_1 < (l0.length : Int)
      ·rw [if_pos c7] at H
       have c7b0 := decide_eq_true c7; clear c7; have c8b0 := eq_true (of_decide_eq_true za_ : 0 ≤ x17_1)
       by_cases c9 : x17_1 ≤ (l0.length : Int)
       ·rw [if_pos c9] at H
        have c9b0 := eq_true c9; have c9b1 := decide_eq_true c9; clear c9; obtain ⟨y328, hy328⟩ : ∃ y_ : List (List Int), y_ = (l0.take (x17_1 : Int).toNat) := ⟨_, rfl⟩; replace H : (impl_CountCrossings.l1 k1 l0 x6_1 (rd_L4 l0 x17_1) l0 (l0.length : Int) x17_1 y328 (y328.length : Int) 0) = some (r1, r2) := q3y_ hy328 H
        have Ny328 := aM hy328; clear hy328; have H' := aM H; clear H; have p327 : 0 ≤ (x17_1 : Int) := of_decide_eq_true za_; have q327 : x17_1 < (l0.length : Int) := of_decide_eq_true za_; obtain ⟨ad327, A327_0, c327_0, e327, hx327_0, hl327_0, hi327_0⟩ := at_L4 HR0.out x17_1 p327 q327
        cases e327
        have HR327_0 := aM hi327_0; have HC327_0 := aM hl327_0; clear hi327_0 hl327_0; replace p327 := eq_true p327; replace q327 := eq_true q327; have q10 : (x17_1 : Int) ≤ ((l0.length : Int) : Int) := of_decide_eq_true za_; obtain ⟨i010, hi010, _, hsz10, _⟩ := info_parts info39; have hroom10 : l0.length ≤ c0 := HC0.out; have hC10 : Kd.C (Kd.slice 3 (Kd.int .i64)) _ (some ad327) l0.length l0 := HR0.out; have hcut10 := cut_to (P := Try.prog) 63 39 .i64 Try.underlying63 hi010 (some ad327) l0.length c0 x17_1 (of_decide_eq_true za_) q10 hroom10; have hr10 := Kd.C_take (m := (x17_1 : Int).toNat) hC10 (by omega); have hy10 : y328.length = (x17_1 : Int).toNat := (by rw [Ny328.out, lT]; omega); rw [← Ny328.out] at hr10; rw [← hy10] at hcut10; have HR331 := aM hr10; have HC331 := aM (show y328.length ≤ c0 from by omega); clear hr10 hC10 hroom10 hi010 hsz10; have KY10 := aM hy10; clear hy10; replace q10 := eq_true q10
        go_wp2
        repeat (go_quiet (fail); try go_wp2)
        go_loopg [6, 26] k1 (fun kq v6 v26 w' => ∃ (x6_2 : Int) (x26_2 : Int), v6 = .int .i64 x6_2 ∧ v26 = .int .i64 x26_2 ∧ Aside0 (impl_CountCrossings.l1 kq l0 x6_2 (rd_L4 l0 x17_1) l0 (l0.length : Int) x17_1 y328 (y328.length : Int) x26_2 = some (r1, r2)) ∧ Aside0 (kq ≤ k1) ∧ Drawn0 w w')
        case atStart => exact ⟨(x6_1), (0), zc_, zc_, H', ⟨Nat.le_refl _⟩, zg_⟩
        case round =>
         clear H'; (try clear c5b0); (try clear c6b0); (try clear c7b0); (try clear c8b0); (try clear c9b0); (try clear c9b1); (try clear q10); (try clear hx327_0); (try clear p327); (try clear q327); obtain ⟨x6_2, x26_2, rfl, rfl, HA, HK2, ⟨m2, rfl⟩⟩ := hrel
         cases gk with
         | zero => exact absurd HA.out (by simp [impl_CountCrossings.l1])
         | succ k2 =>
          have H := HA.out; clear HA
          simp only [impl_CountCrossings.l1] at H
          by_cases c11 : x26_2 < (y328.length : Int)
          ·rw [if_pos c11] at H
           have c11b0 := decide_eq_true c11; clear c11
           by_cases c12 : 0 ≤ x26_2
           ·rw [if_pos c12] at H
            have c12b0 := decide_eq_true c12; clear c12
            by_cases c13 : x26_2 < (y328.length : Int)
            ·rw [if_pos c13] at H
             have c13b0 := decide_eq_true c13; clear c13
             by_cases c14 : 0 < ((rd_L4 l0 x17_1).length : Int)
             ·rw [if_pos c14] at H
              have c14b0 := decide_eq_true c14; have c14b1 : decide (0 < (rd_L4 l0 x17_1).length) = true := decide_eq_true (by omega); clear c14
              by_cases c15 : 0 < ((rd_L4 y328 x26_2).length : Int)
              ·rw [if_pos c15] at H
               have c15b0 := decide_eq_true c15; have c15b1 : decide (0 < (rd_L4 y328 x26_2).length) = true := decide_eq_true (by omega); clear c15
               by_cases c16 : 1 < ((rd_L4 l0 x17_1).length : Int)
               ·rw [if_pos c16] at H
                have c16b0 := decide_eq_true c16; have c16b1 : decide (1 < (rd_L4 l0 x17_1).length) = true := decide_eq_true (by omega); clear c16
                by_cases c17 : 1 < ((rd_L4 y328 x26_2).length : Int)
                ·rw [if_pos c17] at H
                 have c17b0 := decide_eq_true c17; have c17b1 : decide (1 < (rd_L4 y328 x26_2).length) = true := decide_eq_true (by omega); clear c17
                 by_cases c18 : (wrap64 ((wrap64 ((rd (rd_L4 l0 x17_1) 0) - (rd (rd_L4 y328 x26_2) 0))) * (wrap64 ((rd (rd_L4 l0 x17_1) 1) - (rd (rd_L4 y328 x26_2) 1))))) < 0
                 ·rw [if_pos c18] at H
                  have c18b0 := decide_eq_true c18; clear c18; have H' := aM H; clear H; have p332 : 0 ≤ (x26_2 : Int) := of_decide_eq_true za_; have q332 : x26_2 < (y328.length : Int) := of_decide_eq_true za_; obtain ⟨ad332, A332_0, c332_0, e332, hx332_0, hl332_0, hi332_0⟩ := at_L4 HR331.out x26_2 p332 q332; obtain rfl : ad327 = ad332 := (by injection e332); have HR332_0 := aM hi332_0; have HC332_0 := aM hl332_0; clear hi332_0 hl332_0; replace p332 := eq_true p332; replace q332 := eq_true q332; have p333 : 0 ≤ (0 : Int) := (by omega); have q333 : 0 < ((rd_L4 l0 x17_1).length : Int) := of_decide_eq_true za_; obtain ⟨ad333, e333, hx333_0⟩ := Kd.at_int HR327_0.out 0 p333 q333
                  cases e333
                  have qi333 : (0 < (rd_L4 l0 x17_1).length) = True := eq_true (by omega); (try rw [show ((0 : Int)).toNat = 0 from rfl] at hx333_0); (try rw [Addr.add_zero'] at hx333_0); replace p333 := eq_true p333; replace q333 := eq_true q333; have p334 : 0 ≤ (0 : Int) := (by omega); have q334 : 0 < ((rd_L4 y328 x26_2).length : Int) := of_decide_eq_true za_; obtain ⟨ad334, e334, hx334_0⟩ := Kd.at_int HR332_0.out 0 p334 q334
                  cases e334
                  have qi334 : (0 < (rd_L4 y328 x26_2).length) = True := eq_true (by omega); (try rw [show ((0 : Int)).toNat = 0 from rfl] at hx334_0); (try rw [Addr.add_zero'] at hx334_0); replace p334 := eq_true p334; replace q334 := eq_true q334; have p335 : 0 ≤ (1 : Int) := (by omega); have q335 : 1 < ((rd_L4 l0 x17_1).length : Int) := of_decide_eq_true za_; obtain ⟨ad335, e335, hx335_0⟩ := Kd.at_int HR327_0.out 1 p335 q335; obtain rfl : ad333 = ad335 := (by injection e335); (try simp only [show (1 : Int).toNat = 1 from rfl, Nat.reduceMul, Nat.reduceEqDiff, Go.Addr.add, ↓reduceIte] at hx335_0); have qi335 : (1 < (rd_L4 l0 x17_1).length) = True := eq_true (by omega); (try rw [show ((1 : Int)).toNat = 1 from rfl] at hx335_0); replace p335 := eq_true p335; replace q335 := eq_true q335; have p336 : 0 ≤ (1 : Int) := (by omega); have q336 : 1 < ((rd_L4 y328 x26_2).length : Int) := of_decide_eq_true za_; obtain ⟨ad336, e336, hx336_0⟩ := Kd.at_int HR332_0.out 1 p336 q336; obtain rfl : ad334 = ad336 := (by injection e336); (try simp only [show (1 : Int).toNat = 1 from rfl, Nat.reduceMul, Nat.reduceEqDiff, Go.Addr.add, ↓reduceIte] at hx336_0); have qi336 : (1 < (rd_L4 y328 x26_2).length) = True := eq_true (by omega); (try rw [show ((1 : Int)).toNat = 1 from rfl] at hx336_0); replace p336 := eq_true p336; replace q336 := eq_true q336
                  go_wp2
                  repeat (go_quiet (fail); try go_wp2)
                  go_roundg k2
                  case measure => have := HK1.out; have := HK2.out; omega
                  case rel => exact ⟨(wrap64 (x6_2 + 1)), (wrap64 (x26_2 + 1)), zc_, zc_, H', ⟨zbh_⟩, zg_⟩
                 ·rw [if_neg c18] at H
                  have c18b0 := decide_eq_false c18; clear c18; have H' := aM H; clear H; have p332 : 0 ≤ (x26_2 : Int) := of_decide_eq_true za_; have q332 : x26_2 < (y328.length : Int) := of_decide_eq_true za_; obtain ⟨ad332, A332_0, c332_0, e332, hx332_0, hl332_0, hi332_0⟩ := at_L4 HR331.out x26_2 p332 q332; obtain rfl : ad327 = ad332 := (by injection e332); have HR332_0 := aM hi332_0; have HC332_0 := aM hl332_0; clear hi332_0 hl332_0; replace p332 := eq_true p332; replace q332 := eq_true q332; have p333 : 0 ≤ (0 : Int) := (by omega); have q333 : 0 < ((rd_L4 l0 x17_1).length : Int) := of_decide_eq_true za_; obtain ⟨ad333, e333, hx333_0⟩ := Kd.at_int HR327_0.out 0 p333 q333
                  cases e333
                  have qi333 : (0 < (rd_L4 l0 x17_1).length) = True := eq_true (by omega); (try rw [show ((0 : Int)).toNat = 0 from rfl] at hx333_0); (try rw [Addr.add_zero'] at hx333_0); replace p333 := eq_true p333; replace q333 := eq_true q333; have p334 : 0 ≤ (0 : Int) := (by omega); have q334 : 0 < ((rd_L4 y328 x26_2).length : Int) := of_decide_eq_true za_; obtain ⟨ad334, e334, hx334_0⟩ := Kd.at_int HR332_0.out 0 p334 q334
                  cases e334
                  have qi334 : (0 < (rd_L4 y328 x26_2).length) = True := eq_true (by omega); (try rw [show ((0 : Int)).toNat = 0 from rfl] at hx334_0); (try rw [Addr.add_zero'] at hx334_0); replace p334 := eq_true p334; replace q334 := eq_true q334; have p335 : 0 ≤ (1 : Int) := (by omega); have q335 : 1 < ((rd_L4 l0 x17_1).length : Int) := of_decide_eq_true za_; obtain ⟨ad335, e335, hx335_0⟩ := Kd.at_int HR327_0.out 1 p335 q335; obtain rfl : ad333 = ad335 := (by injection e335); (try simp only [show (1 : Int).toNat = 1 from rfl, Nat.reduceMul, Nat.reduceEqDiff, Go.Addr.add, ↓reduceIte] at hx335_0); have qi335 : (1 < (rd_L4 l0 x17_1).length) = True := eq_true (by omega); (try rw [show ((1 : Int)).toNat = 1 from rfl] at hx335_0); replace p335 := eq_true p335; replace q335 := eq_true q335; have p336 : 0 ≤ (1 : Int) := (by omega); have q336 : 1 < ((rd_L4 y328 x26_2).length : Int) := of_decide_eq_true za_; obtain ⟨ad336, e336, hx336_0⟩ := Kd.at_int HR332_0.out 1 p336 q336; obtain rfl : ad334 = ad336 := (by injection e336); (try simp only [show (1 : Int).toNat = 1 from rfl, Nat.reduceMul, Nat.reduceEqDiff, Go.Addr.add, ↓reduceIte] at hx336_0); have qi336 : (1 < (rd_L4 y328 x26_2).length) = True := eq_true (by omega); (try rw [show ((1 : Int)).toNat = 1 from rfl] at hx336_0); replace p336 := eq_true p336; replace q336 := eq_true q336
                  go_wp2
                  repeat (go_quiet (fail); try go_wp2)
                  go_roundg k2
                  case measure => have := HK1.out; have := HK2.out; omega
                  case rel => exact ⟨(x6_2), (wrap64 (x26_2 + 1)), zc_, zc_, H', ⟨zbh_⟩, zg_⟩
                ·rw [if_neg c17] at H
                 exact q3n_ H
               ·rw [if_neg c16] at H
                exact q3n_ H
              ·rw [if_neg c15] at H
               exact q3n_ H
             ·rw [if_neg c14] at H
              exact q3n_ H
            ·rw [if_neg c13] at H
             exact q3n_ H
           ·rw [if_neg c12] at H
            exact q3n_ H
          ·rw [if_neg c11] at H
           have c11b0 := decide_eq_false c11; clear c11; have H' := aM H; clear H
           go_wp2
           repeat (go_quiet (fail); try go_wp2)
           go_roundg k2
           case measure => have := HK1.out; have := HK2.out; omega
           case rel => exact ⟨(x6_2), (wrap64 (x17_1 + 1)), zc_, zc_, H', ⟨zbh_⟩, zg_⟩
       ·rw [if_neg c9] at H
        exact q3n_ H
      ·rw [if_neg c7] at H
       exact q3n_ H
     ·rw [if_neg c6] at H
      exact q3n_ H
    ·rw [if_neg c5] at H
     have c5b0 := decide_eq_false c5; clear c5
     simp only [Option.some.injEq, Prod.mk.injEq] at H
     obtain ⟨rfl, rfl⟩ := H
     go_wp2
     repeat (go_quiet (fail); try go_wp2)
     go_ret2
     exact ⟨zc_, zg_⟩
 ·replace c4 := Bool.eq_false_iff.mpr c4
  subst c4; have H1 : (some (0, false)) = some (r1, r2) := by rw [if_neg (show ¬ (false = true) by decide)] at H; exact H
  clear H; have H := H1; clear H1
  simp only [Option.some.injEq, Prod.mk.injEq] at H
  obtain ⟨rfl, rfl⟩ := H
  go_enter Try.func42, Try.ntmps42
  go_wp2_with (first | (go_at_call 48; (with_reducible refine (impl_AreLevelWires.calls k _ _ l0 a1 false _ ?side1 ?side2 A3.out).mono ?_); (case side1 => exact zi_); (case side2 => exact HC0.out); rintro e w' ⟨rfl, ⟨nd, rfl⟩⟩; (try exact q3d_)))
  repeat (go_quiet (first | (go_at_call 48; (with_reducible refine (impl_AreLevelWires.calls k _ _ l0 a1 false _ ?side1 ?side2 A3.out).mono ?_); (case side1 => exact zi_); (case side2 => exact HC0.out); rintro e w' ⟨rfl, ⟨nd, rfl⟩⟩; (try exact q3d_))); try go_wp2_with (first | (go_at_call 48; (with_reducible refine (impl_AreLevelWires.calls k _ _ l0 a1 false _ ?side1 ?side2 A3.out).mono ?_); (case side1 => exact zi_); (case side2 => exact HC0.out); rintro e w' ⟨rfl, ⟨nd, rfl⟩⟩; (try exact q3d_))))
  go_ret2
  exact ⟨zc_, zg_⟩
end Go.Proofs.Ytlnhpkjioppbiaa.QFnLevels
