/- Functions of FnLevels, each as a Lean function, with the proof that the Go code comes to its answers. -/
import Derived.Test.YtlnhpkjioppbiaaSFnLevelsx1
import Derived.Test.YtlnhpkjioppbiaaSFnLevelsx11
import Derived.Test.YtlnhpkjioppbiaaSFnLevelsx19
import Derived.Test.YtlnhpkjioppbiaaSFnLevelsx22
import Derived.Test.YtlnhpkjioppbiaaSFnLevelsx15
namespace Go.Proofs.Ytlnhpkjioppbiaa.QFnLevels
open Go.RowKit Go.Proofs.YtlnhpkjioppbiaaW.PrintWords Go.Proofs.YtlnhpkjioppbiaaW.PrintLast Go.Proofs.YtlnhpkjioppbiaaW.PrintMore
open Go.Proofs.YtlnhpkjioppbiaaW.PrintWords renaming pw_below_drewN → pN, below_drew1 → p1, below_alloc → pA
open Go.Proofs.YtlnhpkjioppbiaaW.PrintWords.Kd renaming R_alloc → kA, R_drewN → kN, R_drew → kD, Q_alloc → qA, Q_drewN → qN, Q_drew → qD, C_alloc → cA, C_drewN → cN, C_drew → cD
open Go.Proofs.YtlnhpkjioppbiaaW.PrintWords.Aside0 renaming mk → aM
open List renaming setIfInBounds_toArray → sI, set_cons_zero → s0, set_cons_succ → sS, map_toArray → mT, length_take → lT, length_drop → lD, map_cons → mC, map_nil → mN
open Option renaming bind_eq_some_iff → oB
attribute [local go_sem] max2_int min2_int max_two min_two max_three min_three max_four min_four
set_option linter.unusedVariables false
set_option linter.unusedSimpArgs false
open Option renaming bind_eq_some_iff → oB, bind_some → oS
def mdAbI (p : Int) : List (List Int) → List Int → List Int
 | [], o => o
 | w :: r, o => mdAbI p r (if rd w 1 = p then o ++ [rd w 0] else o)
def mdSorted (l : List (List Int)) (p : Int) : List Int := (mdAbI p l []).mergeSort fun x y => decide (x ≤ y)
def mdMidI (l : List (List Int)) (p : Int) : Int := if mdAbI p l [] = [] then -1 else rd (mdSorted l p) (((mdAbI p l []).length / 2 : Nat) : Int)
def mdRow (l : List (List Int)) (n : Nat) (i : Int) : List Int := (Sep.iota n).map (fun j => if j < i then mdMidI l j else 0)
def mdCmp (l : List (List Int)) (p q : Int) : Int := wrap64 (mdMidI l p - mdMidI l q)
def mdOrd (l : List (List Int)) (n : Nat) : List Int := Sep.isTo (mdCmp l) (Sep.iota n) n
theorem mdRow_length (l : List (List Int)) (n : Nat) (i : Int) : (mdRow l n i).length = n := by rw [mdRow, List.length_map, Sep.iota_length]
theorem md_iota_get (n q : Nat) (h : q < n) : (Sep.iota n)[q]? = some (q : Int) := by
 unfold Sep.iota
 rw [List.getElem?_map, List.getElem?_range h]
 rfl
theorem mdRow_rd (l : List (List Int)) (n : Nat) (i p : Int) (h0 : 0 ≤ p) (h1 : p < (n : Int)) : rd (mdRow l n i) p = if p < i then mdMidI l p else 0 := by
 unfold rd mdRow
 rw [List.getD_eq_getElem?_getD, List.getElem?_map, md_iota_get n p.toNat (by omega)]
 show (if ((p.toNat : Nat) : Int) < i then mdMidI l ((p.toNat : Nat) : Int) else 0) = _
 rw [Int.toNat_of_nonneg h0]
theorem mdRow_set (l : List (List Int)) (n : Nat) (i : Int) (h0 : 0 ≤ i) (h1 : i < (n : Int)) : (mdRow l n i).set i.toNat (mdMidI l i) = mdRow l n (i + 1) := by
 apply List.ext_getElem?
 intro q
 unfold mdRow
 rw [List.getElem?_set, List.getElem?_map, List.getElem?_map, List.length_map, Sep.iota_length]
 by_cases hq : q < n
 ·rw [md_iota_get n q hq]
  by_cases e : i.toNat = q
  ·subst e
   rw [if_pos rfl, if_pos hq]
   simp only [Option.map_some]
   rw [if_pos (by omega), Int.toNat_of_nonneg h0]
  ·rw [if_neg e]
   simp only [Option.map_some]
   by_cases e2 : (q : Int) < i
   ·rw [if_pos e2, if_pos (by omega)]
   ·rw [if_neg e2, if_neg (by omega)]
 ·have hn : (Sep.iota n)[q]? = none := List.getElem?_eq_none (by rw [Sep.iota_length]; omega)
  rw [hn, if_neg (by omega)]
  rfl
theorem mdRow_zero (l : List (List Int)) (n : Nat) : mdRow l n 0 = List.replicate n 0 := by
 apply List.ext_getElem?
 intro q
 unfold mdRow
 rw [List.getElem?_map]
 by_cases hq : q < n
 ·rw [md_iota_get n q hq, List.getElem?_replicate, if_pos hq]
  simp only [Option.map_some]
  rw [if_neg (by omega)]
 ·have hn : (Sep.iota n)[q]? = none := List.getElem?_eq_none (by rw [Sep.iota_length]; omega)
  rw [hn, List.getElem?_replicate, if_neg hq]
  rfl
theorem md_set2 (l : List Int) (i : Nat) (a b : Int) : (l.set i a).set i b = l.set i b := by
 apply List.ext_getElem?
 intro q
 simp only [List.getElem?_set, List.length_set]
 split <;> rfl
theorem mdAbI_length (p : Int) : ∀ (r : List (List Int)) (o : List Int), (mdAbI p r o).length ≤ o.length + r.length := by
 intro r
 induction r with
 | nil => intro o; exact Nat.le_refl _
 | cons w r ih =>
  intro o
  rw [mdAbI]
  split
  ·have := ih (o ++ [rd w 0]); simp at this ⊢; omega
  ·have := ih o; simp; omega
theorem ints_of {W : World} {b : Nat} {ok : Nat → Prop} {xs : List Int} {inner : List Value} (h : Reps ((Kd.int .i64).M W b ok) (Kd.int .i64).sz xs inner) : inner = xs.map (Value.int .i64) := by
 obtain ⟨h1, h2⟩ := h
 have h1' : inner.length = xs.length * 1 := h1
 apply List.ext_getElem?
 intro j
 rw [List.getElem?_map]
 cases hx : xs[j]? with
 | none =>
  rw [List.getElem?_eq_none_iff] at hx; rw [List.getElem?_eq_none (by omega)]
  rfl
 | some x =>
  have h4 : (inner.drop (j * 1)).take 1 = [.int .i64 x] := h2 j x hx; have h5 := congrArg (fun l : List Value => l[0]?) h4; rw [List.getElem?_take_of_lt (by omega), List.getElem?_drop, Nat.mul_one, Nat.add_zero] at h5
  exact h5
theorem own_sort {e g n cap : Nat} {zs : List Int} {w0 W : World} {L : List Sep.Item} (h : Sep.Own w0 W L) (i : Nat) (hi : L[i]? = some (Sep.Item.row (Kd.int .i64) e (.slice (some ⟨g, 0, none⟩) n cap) zs)) :
  «Sort».Holds (Value.int .i64) W g 0 zs.toArray ∧ g < W.heap.size ∧ n = zs.length ∧ ∀ (ts : List Int) (q : Nat) (os : Array Obj), ts.length = zs.length → Sep.Own w0 («Sort».grow («Sort».putRow (Value.int .i64) («Sort».ahead W q) g 0 ts.toArray) os) (L.set i (Sep.Item.row (Kd.int .i64) e (.slice (some ⟨g, 0, none⟩) n cap) ts)) := by
 obtain ⟨P', hR, hb, hback⟩ := h.upd i hi
 obtain ⟨h0, inner, ho, hr⟩ := hR
 have hlen := (Kd.R_reads' ⟨h0, inner, ho, hr⟩).1
 subst hlen
 have hin : inner = zs.map (Value.int .i64) := ints_of hr
 subst hin
 rcases ho.2 with ⟨hv, _⟩ | ⟨g', cap', cur, hv, hg, hblk, hn, hcap, hsz, htake⟩
 ·cases hv
 ·cases hv
  rw [show zs.length * (Kd.int .i64).sz = zs.length from Nat.mul_one _] at htake
  refine ⟨holds_of_blockI hblk htake, blk_lt hblk, rfl, fun ts q os hl => ?_⟩
  have hP : P' g := h0 g (by simp [Value.ownBlock])
  refine hback _ _ ((Sep.Chg.grown (grownBy_sortedI (n := q) (os := os) ts.toArray)).mono (fun k hk => by injection hk with hk; subst hk; exact hP)) ?_
  have hS := ownsRow_sortedI (n := q) (os := os) hl hg hblk hn hcap hsz
  refine ⟨fun k hk => .inl (h0 k hk), ts.map (Value.int .i64), by rw [hl]; exact hS, ?_⟩
  exact Sep.reps_map _ _ _ _
open Go.Proofs.Ytlnhpkjioppbiaa.Sep in
set_option maxHeartbeats 8000000 in
set_option maxRecDepth 100000 in
theorem sort_ins (fv : FuncId) (fn : Func) (hfn : Try.prog.funcs[fv]? = some fn) (hnm : (fn.name == "runtime.NumGoroutine") = false) (hbd : fn.body.isSome = true) (caps : Array Value) (c : Int → Int → Int) (Pc : Int → Prop) (w0 : World) (F : List Sep.Item) (g n cap : Nat)
  (hcmp : ∀ (xs : List Int) (w : World) (p q : Int), Own w0 w (Sep.Item.row (Kd.int .i64) 3 (.slice (some ⟨g, 0, none⟩) n cap) xs :: F) → Pc p → Pc q → Calls Try.prog fv (#[.int .i64 p, .int .i64 q] ++ caps) w fun e w' => e = .returned (.int .i64 (c p q)) ∧ Own w0 w' (Sep.Item.row (Kd.int .i64) 3 (.slice (some ⟨g, 0, none⟩) n cap) xs :: F))
  (xs : List Int) (w : World) (_hx : ∀ y ∈ xs, Pc y) (_hn : xs.length = n) (_hb : 1 ≤ n ∧ n ≤ 1000) (_h : Own w0 w (Sep.Item.row (Kd.int .i64) 3 (.slice (some ⟨g, 0, none⟩) n cap) xs :: F)) :
  Calls Try.prog 139 #[(.slice (some ⟨g, 0, none⟩) n cap), .int .i64 0, .int .i64 (n : Int), .func (.func fv) #[] caps] w fun e w' => e = .returned (.tuple #[]) ∧ Own w0 w' (Sep.Item.row (Kd.int .i64) 3 (.slice (some ⟨g, 0, none⟩) n cap) (isTo c xs n) :: F) := by
 have HO := aM _h
 have HX := aM _hx
 have HN := aM _hn
 have HC := aM hcmp
 clear _h _hx _hn hcmp
 go_enter Try.func139, Try.ntmps139
 go_wp2
 go_loopw [8] (fun v8 wr => ∃ (i : Int), 1 ≤ i ∧ i ≤ (n : Int) ∧ v8 = .int .i64 i ∧ Aside0 (Own w0 wr (Sep.Item.row (Kd.int .i64) 3 (.slice (some ⟨g, 0, none⟩) n cap) (isTo c xs i.toNat) :: F))) (fun v8 _ => n - (intOf v8).toNat)
 case atStart => exact ⟨1, by omega, by omega, by first | rfl | simp [wrap64], HO⟩
 case round =>
  obtain ⟨i, hi1, hin, rfl, HO1⟩ := hrel; clear HO; have HO := HO1; clear HO1
  by_cases c1 : i < (n : Int)
  ·have c1b := decide_eq_true c1
   have hwi : wrap64 (i + 1) = i + 1 := by unfold wrap64; omega
   have hall := isTo_all c xs HX.out i.toNat (by have := HN.out; omega); have hlen := isTo_length c xs i.toNat; obtain ⟨ys, hys⟩ : ∃ ys, ys = isTo c xs i.toNat := ⟨_, rfl⟩; rw [← hys] at HO hall hlen; have HA := aM hall; have HL := aM (show ys.length = n by have := HN.out; omega); have HYS := aM hys; clear hall hlen hys
   go_wp2
   go_loopw [9] (fun v9 wr => ∃ (j : Int) (zs : List Int), 0 ≤ j ∧ j ≤ i ∧ v9 = .int .i64 j ∧ Aside0 (isSink c j.toNat zs = isSink c i.toNat ys) ∧ Aside0 (∀ y ∈ zs, Pc y) ∧ Aside0 (zs.length = n) ∧ Aside0 (Own w0 wr (Sep.Item.row (Kd.int .i64) 3 (.slice (some ⟨g, 0, none⟩) n cap) zs :: F))) (fun v9 _ => (intOf v9).toNat)
   case atStart => exact ⟨i, ys, by omega, Int.le_refl _, rfl, ⟨rfl⟩, HA, HL, HO⟩
   case round =>
    clear HO; obtain ⟨j, zs, hj0, hji, rfl, HS, HZ, HZL, HO⟩ := hrel
    by_cases c2 : j > 0
    ·have c2b := decide_eq_true c2
     obtain ⟨jp, hjp⟩ : ∃ jp : Int, jp = j - 1 := ⟨_, rfl⟩; have hwj : wrap64 (j - 1) = jp := by unfold wrap64; omega
     have hst := isSink_step c zs j (by omega); rw [← hjp] at hst; have HST := aM hst; have hzl := HZL.out; have hp := HZ.out _ (rd_mem (xs := zs) (j := j) hj0 (by omega)); have hq := HZ.out _ (rd_mem (xs := zs) (j := jp) (by omega) (by omega)); have HP := aM hp; have HQ := aM hq; have HJP := aM hjp; have hjp0 : 0 ≤ jp ∧ jp < (n : Int) := by omega
     have p1 : (0 ≤ j) = True := eq_true hj0; have p2 : (0 ≤ jp) = True := eq_true hjp0.1; have q1 : (j < (n : Int)) = True := eq_true (by omega); have q2 : (jp < (n : Int)) = True := eq_true hjp0.2; clear hst hzl hp hq hjp
     by_cases c3 : c (rd zs j) (rd zs jp) < 0
     ·have c3b := decide_eq_true c3
      have hs := HST.out; rw [if_pos c3] at hs; have HS2 := aM (hs.symm.trans HS.out); clear hs HST
      go_wp2
      have HD_4_0 := aM (HO.out.drew)
      refine start_ (n := 17) (S := fun w' => w'.cell? ⟨g, j.toNat, none⟩ = some (.int .i64 (rd zs j)) ∧ w'.cell? ⟨g, jp.toNat, none⟩ = some (.int .i64 (rd zs jp))) (ds := []) #[fi,fi,fi,fi,fi,fi,fi,fi,fi,fi,fi,fi,fi,fi,fi,fi,fi] (by kernel_rfl) rfl rfl ⟨(Sep.own_row_cell (0 : Int) HD_4_0.out 0 rfl j hj0 zda_).1, (Sep.own_row_cell (0 : Int) HD_4_0.out 0 rfl jp hjp0.1 zda_).1⟩ (fun hHeld => ?_)
      generalize wr.drew = wd_4_1 at HD_4_0 hHeld ⊢
      refine oz_ 0 18 ?_
      refine oz_ 1 19 ?_
      refine oz_ 2 20 ?_
      refine oz_ 3 21 ?_
      refine oz_ 4 22 ?_
      refine oz_ 5 23 ?_
      refine oz_ 6 24 ?_
      refine oz_ 7 25 ?_
      refine oz_ 9 27 ?_
      refine oz_ 10 28 ?_
      refine oz_ 11 29 ?_
      refine oz_ 12 30 ?_
      refine tz2_ 8 26 hHeld ?_
      refine tz2_ 13 31 hHeld ?_
      refine oo_ 14 32 (fun K hK => ?_)
      refine Sep.goesC_ (f := fv) hfn hnm hbd (#[.int .i64 (rd zs j), .int .i64 (rd zs jp)] ++ caps) (by rfl) rfl rfl rfl ze_ ?_
      refine (HC.out zs _ _ _ HD_4_0.out HP.out HQ.out).mono ?_
      rintro e w_1 ⟨rfl, ho⟩
      refine ⟨_, rfl, ?_⟩
      have HO_1 := aM ho; clear ho
      refine hK.out _ _ ⟨(Sep.own_row_cell (0 : Int) HO_1.out 0 rfl j hj0 zda_).1, (Sep.own_row_cell (0 : Int) HO_1.out 0 rfl jp hjp0.1 zda_).1⟩ (fun hHeld => ?_)
      clear hK K
      refine nz_ 32 ?_
      refine oz_ 15 33 ?_
      refine oz_ 16 34 ?_
      refine done_ (by kernel_rfl) ?_
      go_wp2
      have HD_6_1 := aM (HO_1.out.drew)
      refine start_ (n := 18) (S := fun w' => w'.cell? ⟨g, jp.toNat, none⟩ = some (.int .i64 (rd zs jp)) ∧ w'.cell? ⟨g, j.toNat, none⟩ = some (.int .i64 (rd zs j))) (ds := [15, 17]) #[fi,fi,fi,fi,fi,fi,fi,fi,fi,fi,fi,fi,fi,fi,fi,fi,fi,fi] (by kernel_rfl) rfl rfl ⟨(Sep.own_row_cell (0 : Int) HD_6_1.out 0 rfl jp hjp0.1 zda_).1, (Sep.own_row_cell (0 : Int) HD_6_1.out 0 rfl j hj0 zda_).1⟩ (fun hHeld => ?_)
      generalize w_1.drew = wd_6_2 at HD_6_1 hHeld ⊢
      refine oz_ 0 37 ?_
      refine oz_ 1 38 ?_
      refine oz_ 2 39 ?_
      refine oz_ 3 40 ?_
      refine oz_ 4 41 ?_
      refine oz_ 5 42 ?_
      refine oz_ 6 43 ?_
      refine oz_ 7 44 ?_
      refine oz_ 8 45 ?_
      refine oz_ 10 47 ?_
      refine oz_ 11 48 ?_
      refine oz_ 12 49 ?_
      refine tz2_ 9 46 hHeld ?_
      refine tz2_ 13 50 hHeld ?_
      refine oz_ 14 51 ?_
      refine last_ (i := 15) (N := none) #[ti,ti,ti,ti,ti,ti,ti,ti,ti,ti,ti,ti,ti,ti,ti,ti,fi,fi] rfl rfl (by kernel_rfl) (by decide) (fun K hK => ?_)
      obtain ⟨hbs, hbf⟩ := Sep.own_row_cell (0 : Int) HD_6_1.out 0 rfl j hj0 zda_
      refine skip_ (w1 := ?_) (by rfl) rfl ?_ ?_
      rotate_left
      ·go_simp
       rfl
      have HD_6_1a := aM (Sep.own_put HD_6_1.out 0 rfl j (rd zs jp)); clear hbs hbf
      refine hK.out _ _ ?_
      clear hK K
      refine oz_ 16 52 ?_
      refine last_ (i := 17) (N := none) #[ti,ti,ti,ti,ti,ti,ti,ti,ti,ti,ti,ti,ti,ti,ti,ti,ti,ti] rfl rfl (by kernel_rfl) (by decide) (fun K hK => ?_)
      obtain ⟨hbs, hbf⟩ := Sep.own_row_cell (0 : Int) HD_6_1a.out 0 rfl jp hjp0.1 (by have := HZL.out; rw [List.length_set]; omega)
      refine skip_ (w1 := ?_) (by rfl) rfl ?_ ?_
      rotate_left
      ·go_simp
       rfl
      have HD_6_1ab := aM (Sep.own_put HD_6_1a.out 0 rfl jp (rd zs j)); clear hbs hbf
      refine hK.out _ _ ?_
      clear hK K
      refine done_ (by kernel_rfl) ?_
      go_wp2
      go_roundw
      case measure => have := HJP.out; simp only [intOf, hwj]; omega
      case rel => exact ⟨jp, Sep.swp zs j, hjp0.1, by have := HJP.out; omega, by first | rfl | rw [hwj] | rw [HJP.out], HS2, ⟨swp_all HZ.out (by omega) zda_⟩, ⟨by rw [swp_length]; exact HZL.out⟩, ⟨by rw [show Sep.swp zs j = (zs.set j.toNat (rd zs jp)).set jp.toNat (rd zs j) by unfold Sep.swp; rw [HJP.out]]; exact HD_6_1ab.out⟩⟩
     ·have c3b := decide_eq_false c3
      have hs := HST.out; rw [if_neg c3] at hs; have HS2 := aM (hs.symm.trans HS.out); clear hs HST
      go_wp2
      have HD_4_0 := aM (HO.out.drew)
      refine start_ (n := 17) (S := fun w' => w'.cell? ⟨g, j.toNat, none⟩ = some (.int .i64 (rd zs j)) ∧ w'.cell? ⟨g, jp.toNat, none⟩ = some (.int .i64 (rd zs jp))) (ds := []) #[fi,fi,fi,fi,fi,fi,fi,fi,fi,fi,fi,fi,fi,fi,fi,fi,fi] (by kernel_rfl) rfl rfl ⟨(Sep.own_row_cell (0 : Int) HD_4_0.out 0 rfl j hj0 zda_).1, (Sep.own_row_cell (0 : Int) HD_4_0.out 0 rfl jp hjp0.1 zda_).1⟩ (fun hHeld => ?_)
      generalize wr.drew = wd_4_1 at HD_4_0 hHeld ⊢
      refine oz_ 0 18 ?_
      refine oz_ 1 19 ?_
      refine oz_ 2 20 ?_
      refine oz_ 3 21 ?_
      refine oz_ 4 22 ?_
      refine oz_ 5 23 ?_
      refine oz_ 6 24 ?_
      refine oz_ 7 25 ?_
      refine oz_ 9 27 ?_
      refine oz_ 10 28 ?_
      refine oz_ 11 29 ?_
      refine oz_ 12 30 ?_
      refine tz2_ 8 26 hHeld ?_
      refine tz2_ 13 31 hHeld ?_
      refine oo_ 14 32 (fun K hK => ?_)
      refine Sep.goesC_ (f := fv) hfn hnm hbd (#[.int .i64 (rd zs j), .int .i64 (rd zs jp)] ++ caps) (by rfl) rfl rfl rfl ze_ ?_
      refine (HC.out zs _ _ _ HD_4_0.out HP.out HQ.out).mono ?_
      rintro e w_1 ⟨rfl, ho⟩
      refine ⟨_, rfl, ?_⟩
      have HO_1 := aM ho; clear ho
      refine hK.out _ _ ⟨(Sep.own_row_cell (0 : Int) HO_1.out 0 rfl j hj0 zda_).1, (Sep.own_row_cell (0 : Int) HO_1.out 0 rfl jp hjp0.1 zda_).1⟩ (fun hHeld => ?_)
      clear hK K
      refine nz_ 32 ?_
      refine oz_ 15 33 ?_
      refine oz_ 16 34 ?_
      refine done_ (by kernel_rfl) ?_
      go_wp2
      go_roundw
      case measure => simp only [intOf, hwi]; omega
      case rel => exact ⟨i + 1, by omega, by omega, zci_, ⟨by rw [isTo_step c xs i (by omega), ← HYS.out, ← HS2.out]; exact HO_1.out⟩⟩
    ·have c2b := decide_eq_false c2
     obtain rfl : j = 0 := by omega
     have HS2 := aM (show zs = isSink c i.toNat ys from HS.out)
     go_wp2
     have HD_4_0 := aM (HO.out.drew)
     refine start_ (n := 17) (S := fun w' => True) (ds := []) #[fi,fi,fi,fi,fi,fi,fi,fi,fi,fi,fi,fi,fi,fi,fi,fi,fi] (by kernel_rfl) rfl rfl trivial (fun hHeld => ?_)
     generalize wr.drew = wd_4_1 at HD_4_0 ⊢
     refine oz_ 0 18 ?_
     refine oz_ 1 19 ?_
     refine oz_ 2 20 ?_
     refine oz_ 3 21 ?_
     refine ou_ 4 22 ?_
     refine ou_ 5 23 ?_
     refine ou_ 6 24 ?_
     refine ou_ 7 25 ?_
     refine ou_ 8 26 ?_
     refine ou_ 9 27 ?_
     refine ou_ 10 28 ?_
     refine ou_ 11 29 ?_
     refine ou_ 12 30 ?_
     refine ou_ 13 31 ?_
     refine ou_ 14 32 ?_
     refine ou_ 15 33 ?_
     refine oz_ 16 34 ?_
     refine done_ (by kernel_rfl) ?_
     go_wp2
     go_roundw
     case measure => simp only [intOf, hwi]; omega
     case rel => exact ⟨i + 1, by omega, by omega, zci_, ⟨by rw [isTo_step c xs i (by omega), ← HYS.out, ← HS2.out]; exact HD_4_0.out⟩⟩
  ·have c1b := decide_eq_false c1
   have hfin : isTo c xs i.toNat = isTo c xs n := by rw [show i.toNat = n by omega]
   rw [hfin] at HO; clear hfin
   go_wp2
   go_end0
   exact ⟨rfl, HO.out⟩
open Go.Proofs.Ytlnhpkjioppbiaa.Sep in
set_option maxHeartbeats 8000000 in
set_option maxRecDepth 100000 in
theorem sort_none (v fv : Value) (a b : Int) (_h : Aside0 (a = b)) (_ha : 0 ≤ a ∧ a ≤ 1000) (w : World) :
  Calls Try.prog 139 #[v, .int .i64 a, .int .i64 b, fv] w fun e w' => e = .returned (.tuple #[]) ∧ w' = w := by
 have hwa : wrap64 (a + 1) = a + 1 := by unfold wrap64; omega
 go_enter Try.func139, Try.ntmps139
 go_wp2
 go_loopw [8] (fun v8 wr => v8 = .int .i64 (a + 1) ∧ wr = w) (fun _ _ => 0)
 case atStart => exact ⟨by first | rfl | rw [hwa], rfl⟩
 case round =>
  obtain ⟨rfl, rfl⟩ := hrel; have cb : decide (a + 1 < b) = false := decide_eq_false (by have := _h.out; omega)
  go_wp2
  go_end0
  exact ⟨rfl, rfl⟩
open Go.Proofs.Ytlnhpkjioppbiaa.Sep in
set_option maxHeartbeats 8000000 in
set_option maxRecDepth 100000 in
theorem sort_stable (fv : FuncId) (fn : Func) (hfn : Try.prog.funcs[fv]? = some fn) (hnm : (fn.name == "runtime.NumGoroutine") = false) (hbd : fn.body.isSome = true) (caps : Array Value) (c : Int → Int → Int) (Pc : Int → Prop) (w0 : World) (F : List Sep.Item) (g n cap : Nat)
  (hcmp : ∀ (xs : List Int) (w : World) (p q : Int), Own w0 w (Sep.Item.row (Kd.int .i64) 3 (.slice (some ⟨g, 0, none⟩) n cap) xs :: F) → Pc p → Pc q → Calls Try.prog fv (#[.int .i64 p, .int .i64 q] ++ caps) w fun e w' => e = .returned (.int .i64 (c p q)) ∧ Own w0 w' (Sep.Item.row (Kd.int .i64) 3 (.slice (some ⟨g, 0, none⟩) n cap) xs :: F))
  (xs : List Int) (w : World) (_hx : ∀ y ∈ xs, Pc y) (_hn : xs.length = n) (_hb : 1 ≤ n ∧ n ≤ 20) (_h : Own w0 w (Sep.Item.row (Kd.int .i64) 3 (.slice (some ⟨g, 0, none⟩) n cap) xs :: F)) :
  Calls Try.prog 125 #[(.slice (some ⟨g, 0, none⟩) n cap), .int .i64 (n : Int), .func (.func fv) #[] caps] w fun e w' => e = .returned (.tuple #[]) ∧ Own w0 w' (Sep.Item.row (Kd.int .i64) 3 (.slice (some ⟨g, 0, none⟩) n cap) (isTo c xs n) :: F) := by
 have HO := aM _h
 have HX := aM _hx
 have HN := aM _hn
 have HC := aM hcmp
 have HB := aM _hb
 clear _h _hx _hn hcmp _hb
 go_enter Try.func125, Try.ntmps125
 go_wp2
 go_loopw [7, 8] (fun v7 v8 wr => ∃ b : Bool, (b = true → n = 20) ∧ v7 = .int .i64 (if b then 20 else 0) ∧ v8 = .int .i64 (if b then 40 else 20) ∧ Aside0 (Own w0 wr (Sep.Item.row (Kd.int .i64) 3 (.slice (some ⟨g, 0, none⟩) n cap) (if b then isTo c xs n else xs) :: F))) (fun _ v8 _ => 100 - (intOf v8).toNat)
 case atStart => exact ⟨false, by simp, rfl, rfl, HO⟩
 case round =>
  obtain ⟨b, hb, rfl, rfl, HO1⟩ := hrel; clear HO; have HO := HO1; clear HO1; have hB := HB.out
  cases b with
  | false =>
   simp only [Bool.false_eq_true, ↓reduceIte] at HO ⊢
   by_cases c1 : n = 20
   ·have c1b : decide ((20 : Int) ≤ (n : Int)) = true := decide_eq_true (by omega)
    have HN20 := aM (show (n : Int) = 20 by omega); have HNN := aM c1; clear c1 hB hb
    go_wp2_with (first | ((with_reducible refine gate_callee (f := 139) rfl ?_); refine goesL_ (some 18) rfl rfl Try.func139 (by kernel_rfl) rfl #[.slice ((some ⟨g, 0, none⟩)) n cap, .int .i64 0, .int .i64 20, .func (.func fv) #[] caps] rfl ze_ ?_; have hc_ := sort_ins fv fn hfn hnm hbd caps c Pc w0 F g n cap HC.out xs _ HX.out HN.out (by have := HB.out; omega) HO.out; rw [HN20.out] at hc_; refine hc_.mono ?_; rintro e w_1 ⟨rfl, ho⟩; refine ⟨_, rfl, ?_⟩; have HO_1 := aM ho; clear ho hc_))
    go_roundw
    case measure => simp [intOf, wrap64]
    case rel => exact ⟨true, fun _ => HNN.out, rfl, by first | rfl | simp [wrap64], HO_1⟩
   ·have c1b : decide ((20 : Int) ≤ (n : Int)) = false := decide_eq_false (by omega)
    clear hB hb
    go_wp2_with (first | ((with_reducible refine gate_callee (f := 139) rfl ?_); refine goesL_ (some 27) rfl rfl Try.func139 (by kernel_rfl) rfl #[.slice ((some ⟨g, 0, none⟩)) n cap, .int .i64 0, .int .i64 ((n : Int)), .func (.func fv) #[] caps] rfl ze_ ?_; have hc_ := sort_ins fv fn hfn hnm hbd caps c Pc w0 F g n cap HC.out xs _ HX.out HN.out (by have := HB.out; omega) HO.out; refine hc_.mono ?_; rintro e w_1 ⟨rfl, ho⟩; refine ⟨_, rfl, ?_⟩; have HO_1 := aM ho; clear ho hc_))
    (try simp only [Act.put, sI, s0, sS])
    go_loopw [6] (fun v6 wr => v6 = .int .i64 20 ∧ Aside0 (Own w0 wr (Sep.Item.row (Kd.int .i64) 3 (.slice (some ⟨g, 0, none⟩) n cap) (isTo c xs n) :: F))) (fun _ _ => 0)
    case atStart => exact ⟨rfl, HO_1⟩
    case round =>
     clear HO; obtain ⟨rfl, HO⟩ := hrel; have cb : decide ((20 : Int) < (n : Int)) = false := decide_eq_false (by have := HB.out; omega)
     go_wp2
     go_end0
     exact ⟨rfl, HO.out⟩
  | true =>
   simp only [↓reduceIte] at HO ⊢
   have HN20 := aM (show (n : Int) = 20 by have := hb rfl; omega); have c1b : decide ((40 : Int) ≤ (n : Int)) = false := decide_eq_false (by omega); clear hB hb
   go_wp2_with (first | ((with_reducible refine gate_callee (f := 139) rfl ?_); refine goesL_ (some 27) rfl rfl Try.func139 (by kernel_rfl) rfl #[.slice ((some ⟨g, 0, none⟩)) n cap, .int .i64 20, .int .i64 ((n : Int)), .func (.func fv) #[] caps] rfl ze_ ?_; refine (sort_none _ _ 20 (n : Int) ⟨HN20.out.symm⟩ (by omega) _).mono ?_; rintro e w_1 ⟨rfl, rfl⟩; refine ⟨_, rfl, ?_⟩; have HO_1 := HO))
   (try simp only [Act.put, sI, s0, sS])
   go_loopw [6] (fun v6 wr => v6 = .int .i64 20 ∧ Aside0 (Own w0 wr (Sep.Item.row (Kd.int .i64) 3 (.slice (some ⟨g, 0, none⟩) n cap) (isTo c xs n) :: F))) (fun _ _ => 0)
   case atStart => exact ⟨rfl, HO_1⟩
   case round =>
    clear HO; obtain ⟨rfl, HO⟩ := hrel; have cb : decide ((20 : Int) < (n : Int)) = false := decide_eq_false (by have := HB.out; omega)
    go_wp2
    go_end0
    exact ⟨rfl, HO.out⟩
open Go.Proofs.Ytlnhpkjioppbiaa.Sep in
set_option maxHeartbeats 8000000 in
set_option maxRecDepth 100000 in
theorem sort_stableF (fv : FuncId) (fn : Func) (hfn : Try.prog.funcs[fv]? = some fn) (hnm : (fn.name == "runtime.NumGoroutine") = false) (hbd : fn.body.isSome = true) (caps : Array Value) (c : Int → Int → Int) (Pc : Int → Prop) (w0 : World) (F : List Sep.Item) (g n cap : Nat)
  (hcmp : ∀ (xs : List Int) (w : World) (p q : Int), Own w0 w (Sep.Item.row (Kd.int .i64) 3 (.slice (some ⟨g, 0, none⟩) n cap) xs :: F) → Pc p → Pc q → Calls Try.prog fv (#[.int .i64 p, .int .i64 q] ++ caps) w fun e w' => e = .returned (.int .i64 (c p q)) ∧ Own w0 w' (Sep.Item.row (Kd.int .i64) 3 (.slice (some ⟨g, 0, none⟩) n cap) xs :: F))
  (xs : List Int) (w : World) (_hx : ∀ y ∈ xs, Pc y) (_hn : xs.length = n) (_hb : 1 ≤ n ∧ n ≤ 20) (_h : Own w0 w (Sep.Item.row (Kd.int .i64) 3 (.slice (some ⟨g, 0, none⟩) n cap) xs :: F)) :
  Calls Try.prog 97 #[(.slice (some ⟨g, 0, none⟩) n cap), .func (.func fv) #[] caps] w fun e w' => e = .returned (.tuple #[]) ∧ Own w0 w' (Sep.Item.row (Kd.int .i64) 3 (.slice (some ⟨g, 0, none⟩) n cap) (isTo c xs n) :: F) := by
 have HO := aM _h
 have HX := aM _hx
 have HN := aM _hn
 have HC := aM hcmp
 have HB := aM _hb
 clear _h _hx _hn hcmp _hb
 go_enter Try.func97, Try.ntmps97
 go_wp2_with (first | ((with_reducible refine gate_callee (f := 125) rfl ?_); refine goesL_ (some 8) rfl rfl Try.func125 (by kernel_rfl) rfl #[.slice ((some ⟨g, 0, none⟩)) n cap, .int .i64 ((n : Int)), .func (.func fv) #[] caps] rfl ze_ ?_; refine (sort_stable fv fn hfn hnm hbd caps c Pc w0 F g n cap HC.out xs _ HX.out HN.out HB.out HO.out).mono ?_; rintro e w_1 ⟨rfl, ho⟩; refine ⟨_, rfl, ?_⟩; have HO_1 := aM ho; clear ho))
 go_end0
 exact ⟨rfl, HO_1.out⟩
open Go.Proofs.Ytlnhpkjioppbiaa.Sep in
set_option maxHeartbeats 8000000 in
set_option maxRecDepth 100000 in
theorem sort_stable0 (A : Option Addr) (c : Nat) (fv : Value) (w : World) :
  Calls Try.prog 125 #[.slice A 0 c, .int .i64 0, fv] w fun e w' => e = .returned (.tuple #[]) ∧ w' = w := by
 go_enter Try.func125, Try.ntmps125
 go_wp2
 go_loopw [7, 8] (fun v7 v8 wr => v7 = .int .i64 0 ∧ v8 = .int .i64 20 ∧ wr = w) (fun _ _ _ => 0)
 case atStart => exact ⟨rfl, rfl, rfl⟩
 case round =>
  obtain ⟨rfl, rfl, hw_⟩ := hrel; have HW_ := aM hw_; clear hw_
  go_wp2_with (first | ((with_reducible refine gate_callee (f := 139) rfl ?_); refine goesL_ (some 27) rfl rfl Try.func139 (by kernel_rfl) rfl #[.slice A 0 c, .int .i64 0, .int .i64 0, fv] rfl ze_ ?_; refine (sort_none _ _ 0 0 ⟨rfl⟩ (by omega) _).mono ?_; rintro e w' ⟨rfl, rfl⟩; refine ⟨_, rfl, ?_⟩))
  (try simp only [Act.put, sI, s0, sS])
  go_loopw [6] (fun v6 wr' => v6 = .int .i64 20 ∧ Aside0 (wr' = w)) (fun _ _ => 0)
  case atStart => exact ⟨rfl, HW_⟩
  case round =>
   obtain ⟨rfl, HW2_⟩ := hrel
   go_wp2
   go_end0
   exact ⟨rfl, HW2_.out⟩
open Go.Proofs.Ytlnhpkjioppbiaa.Sep in
set_option maxHeartbeats 8000000 in
set_option maxRecDepth 100000 in
theorem sort_stableF0 (A : Option Addr) (c : Nat) (fv : Value) (w : World) :
  Calls Try.prog 97 #[.slice A 0 c, fv] w fun e w' => e = .returned (.tuple #[]) ∧ w' = w := by
 go_enter Try.func97, Try.ntmps97
 go_wp2_with (first | ((with_reducible refine gate_callee (f := 125) rfl ?_); refine goesL_ (some 8) rfl rfl Try.func125 (by kernel_rfl) rfl #[.slice A 0 c, .int .i64 0, fv] rfl ze_ ?_; refine (sort_stable0 _ _ _ _).mono ?_; rintro e w' ⟨rfl, rfl⟩; refine ⟨_, rfl, ?_⟩))
 go_end0
 exact ⟨rfl, rfl⟩
open Go.Proofs.Ytlnhpkjioppbiaa.Sep in
set_option maxHeartbeats 16000000 in
set_option maxRecDepth 100000 in
theorem impl_MiddleOrder.cmp (w0 : World) (gm gr n cm : Nat) (mid : List Int) (hn : mid.length = n) (Y : Sep.Item) (F : List Sep.Item) (w1 : World) (p q : Int) (_h : Own w0 w1 (Y :: Sep.Item.box gm 39 #[.slice ((some ⟨gr, 0, none⟩)) n cm] :: Sep.Item.row (Kd.int .i64) 3 (.slice ((some ⟨gr, 0, none⟩)) n cm) (mid) :: F)) (hp : 0 ≤ p ∧ p < (n : Int)) (hq : 0 ≤ q ∧ q < (n : Int)) :
  Calls Try.prog 98 #[.int .i64 p, .int .i64 q, .pointer (some ⟨gm, 0, none⟩)] w1 fun e w' => e = .returned (.int .i64 (wrap64 (rd mid p - rd mid q))) ∧ Own w0 w' (Y :: Sep.Item.box gm 39 #[.slice ((some ⟨gr, 0, none⟩)) n cm] :: Sep.Item.row (Kd.int .i64) 3 (.slice ((some ⟨gr, 0, none⟩)) n cm) (mid) :: F) := by
 have HO := aM _h
 have HNM := aM hn
 clear _h hn
 have p1 : (0 ≤ p) = True := eq_true hp.1
 have p2 : (0 ≤ q) = True := eq_true hq.1
 have q1 : (p < (n : Int)) = True := eq_true hp.2
 have q2 : (q < (n : Int)) = True := eq_true hq.2
 obtain ⟨a, ha⟩ : ∃ a, rd mid p = a := ⟨_, rfl⟩
 obtain ⟨b, hb⟩ : ∃ b, rd mid q = b := ⟨_, rfl⟩
 rw [ha, hb]
 have HA := aM ha
 have HB := aM hb
 clear ha hb
 go_enter Try.func98, Try.ntmps98
 go_wp2
 have HD_1_0 := aM (HO.out.drew)
 refine start_ (n := 10) (S := fun w' => w'.cell? ⟨gm, 0, none⟩ = some (.slice ((some ⟨gr, 0, none⟩)) n cm) ∧ w'.cell? ⟨gr, p.toNat, none⟩ = some (.int .i64 a) ∧ w'.cell? ⟨gr, q.toNat, none⟩ = some (.int .i64 b)) (ds := []) #[fi,fi,fi,fi,fi,fi,fi,fi,fi,fi] (by kernel_rfl) rfl rfl ⟨(HD_1_0.out.cell 1 rfl 0 rfl), (by have e := (Sep.own_row_cell (0 : Int) HD_1_0.out 2 rfl p hp.1 (by have := HNM.out; omega)).1; rw [show rdOf 0 mid p = a from HA.out] at e; exact e), (by have e := (Sep.own_row_cell (0 : Int) HD_1_0.out 2 rfl q hq.1 (by have := HNM.out; omega)).1; rw [show rdOf 0 mid q = b from HB.out] at e; exact e)⟩ (fun hHeld => ?_)
 generalize w1.drew = wd_1_1 at HD_1_0 hHeld ⊢
 refine oz_ 1 7 ?_
 refine oz_ 5 11 ?_
 refine tz3_ 0 6 hHeld ?_
 refine oz_ 2 8 ?_
 refine tz3_ 3 9 hHeld ?_
 refine tz3_ 4 10 hHeld ?_
 refine oz_ 6 12 ?_
 refine tz3_ 7 13 hHeld ?_
 refine oz_ 8 14 ?_
 refine oz_ 9 5 ?_
 refine done_ (by kernel_rfl) ?_
 go_wp2
 go_ret
 exact ⟨rfl, HD_1_0.out⟩
def impl_MiddleOrder.f (k : Nat) (l0 : List (List Int)) (a1 : Int) : Option (List Int × Bool) := (impl_AreLevelWires.f k l0 a1).bind fun t => if t = true then (if l0.length ≤ 30 ∧ 1 ≤ a1 ∧ a1 ≤ 7 ∧ (∀ x ∈ l0, x.length = 2) then ((impl_placesOf.f k (mdOrd l0 a1.toNat)).bind fun r => some (r, true)) else none) else some ([], false)
open Go.Proofs.Ytlnhpkjioppbiaa.Sep in
set_option maxHeartbeats 16000000 in
set_option maxRecDepth 100000 in
theorem impl_MiddleOrder.calls (k : Nat) (A0 : Option Addr) (c0 : Nat) (l0 : List (List Int)) (a1 : Int) (r1 : List Int) (r2 : Bool) (w : World) (hr0 : Kd.C (Kd.slice 3 (Kd.int .i64)) w A0 l0.length l0) (hc0 : l0.length ≤ c0) (h : impl_MiddleOrder.f k l0 a1 = some (r1, r2)) :
  Calls Try.prog 46 #[.slice A0 l0.length c0, .int .i64 a1] w fun e w' => ∃ v0_ : Value, e = .returned (.tuple #[v0_, .bool r2]) ∧ Kd.R (Kd.int .i64) 3 w' w.heap.size (fun _ => True) v0_ r1 ∧ Below w.heap.size w w' := by
 have HR := aM hr0
 have HC0 := aM hc0
 clear hr0 hc0
 unfold impl_MiddleOrder.f at h
 obtain ⟨t, hA, h1⟩ := oB.mp h
 clear h
 have HA := aM hA
 clear hA
 cases t with
 | false =>
  rw [if_neg (by decide)] at h1; have h2 : (([] : List Int), false) = (r1, r2) := Option.some.inj h1; clear h1
  injection h2 with e1 e2
  subst e1; subst e2
  go_enter Try.func46, Try.ntmps46
  go_wp2_with (first | ((with_reducible refine gate_callee (f := 48) rfl ?_); refine goesL_ (some 14) rfl rfl Try.func48 (by kernel_rfl) rfl #[.slice A0 l0.length c0, .int .i64 a1] rfl ze_ ?_; (with_reducible refine (impl_AreLevelWires.calls k _ _ l0 a1 false _ HR.out HC0.out HA.out).mono ?_); rintro e w_1 ⟨rfl, hd⟩; refine ⟨_, rfl, ?_⟩; have HO_1 := aM ((Sep.Own.nil w).below hd.below); clear hd))
  go_ret2
  exact ⟨_, rfl, Kd.R_nil _ _ _ _ _, HO_1.out.base⟩
 | true =>
  rw [if_pos rfl] at h1
  split at h1
  ·rename_i hcc
   obtain ⟨hl, hm1, hm7, hg⟩ := hcc; obtain ⟨n, rfl⟩ := Int.eq_ofNat_of_zero_le (show 0 ≤ a1 by omega); rw [Int.toNat_natCast] at h1; obtain ⟨ro, hP, h2⟩ := oB.mp h1; clear h1; have h3 := Option.some.inj h2; clear h2
   injection h3 with e1 e2
   subst e1; subst e2; have HPO := aM hP; have HL := aM hl; have HN := aM (show 1 ≤ n ∧ n ≤ 7 by omega); have HG := aM hg; clear hP hl hm1 hm7 hg; have HSL := aM (show (mdOrd l0 n).length = n from by unfold mdOrd; rw [Sep.isTo_length, Sep.iota_length])
   go_enter Try.func46, Try.ntmps46
   go_wp2_with (first | ((with_reducible refine gate_callee (f := 48) rfl ?_); refine goesL_ (some 14) rfl rfl Try.func48 (by kernel_rfl) rfl #[.slice A0 l0.length c0, .int .i64 ((n : Int))] rfl ze_ ?_; (with_reducible refine (impl_AreLevelWires.calls k _ _ l0 (n : Int) true _ HR.out HC0.out HA.out).mono ?_); rintro e w_1 ⟨rfl, hd⟩; refine ⟨_, rfl, ?_⟩; have HO_1 := aM ((Sep.Own.nil w).below hd.below); clear hd) | ((with_reducible refine gate_dst (N := 17) rfl ?_); refine Sep.own_make (Kd.int .i64) HO_1.out 3 rfl (N := 17) rfl 39 _ _ rfl (n : Int) rfl rfl Try.underlying39 (.int .i64 0) 8 info3 rfl (by decide) (by omega) 0 rfl (by omega) (by have := HN.out; omega) ?_; intro x_17 w_2 ho _; rw [Int.toNat_natCast, ← mdRow_zero l0 n] at ho; obtain ⟨gr, ms, cm, hms, rfl⟩ := Sep.own_row_fseal ho 0 rfl (by rw [mdRow_length]; have := HN.out; omega); rw [mdRow_length] at hms; replace hms := hms.symm; subst hms; have HO_2 := aM ho; clear ho) | ((with_reducible refine gate_dst (N := 6) rfl ?_); refine box_event ?hg (N := 6) ?hd (cs := #[.slice none 0 0]) (t := 39) ?hr ?_; (case hd => rfl); (case hg => rfl); (case hr => exact zd_); intro gm hg w_3 hbox hb; have HO_3 := aM (HO_2.out.add_box (T := 39) (cs := #[.slice none 0 0]) hg hbox hb); clear hg hbox hb) | ((with_reducible refine gate_store (t := 39) (p := 6) (v := .tmp 17) rfl ?_); refine Sep.own_store HO_3.out 0 gm 39 _ #[.slice ((some ⟨gr, 0, none⟩)) n cm] rfl rfl rfl 39 (.tmp 6) (.tmp 17) rfl rfl (.slice ((some ⟨gr, 0, none⟩)) n cm) rfl rfl rfl (by kernel_rfl) (by simp [Value.oneCell']) ?_; intro w_4 ho; have HO_4 := aM ho; clear ho) | ((with_reducible refine gate_dst (N := 18) rfl ?_); refine Sep.own_lit0 (Kd.int .i64) HO_4.out 3 ?hg (N := 18) ?hd ?hr ?_; (case hd => rfl); (case hg => rfl); (case hr => exact zd_); intro x_18 w_5 ho _; have HO_5 := aM ho; clear ho; have z_1 : w_5.cell? ⟨gm, 0, none⟩ = some (.slice ((some ⟨gr, 0, none⟩)) n cm) := (HO_5.out.cell 1 rfl 0 rfl)))
   (try simp only [Act.put, sI, s0, sS])
   go_loopw [7, 21] (fun v7 v21 wr => ∃ (i : Int), 0 ≤ i ∧ i ≤ (n : Int) ∧ v21 = .int .i64 i ∧ Aside0 (Own w wr [Item.row (Kd.int .i64) 3 (v7) ((Sep.iota i.toNat)), Item.box gm 39 #[.slice ((some ⟨gr, 0, none⟩)) n cm], Item.row (Kd.int .i64) 3 (.slice ((some ⟨gr, 0, none⟩)) n cm) ((mdRow l0 n i))])) (fun _ v21 _ => n - (intOf v21).toNat)
   case atStart => exact ⟨0, Int.le_refl _, by omega, rfl, ⟨(((HO_5.out.front 2 rfl).front 2 rfl).front 2 rfl)⟩⟩
   case round =>
    clear HO_5; obtain ⟨i, hi0, hi2, rfl, HO⟩ := hrel
    by_cases hi1 : i < (n : Int)
    ·have c1b := decide_eq_true hi1
     have hwi : wrap64 (i + 1) = i + 1 := by have := HN.out; unfold wrap64; omega
     go_wp2_with (first | ((with_reducible refine gate_dst (N := 24) rfl ?_); refine Sep.own_lit0 (Kd.int .i64) HO.out 3 ?hg (N := 24) ?hd ?hr ?_; (case hd => rfl); (case hg => rfl); (case hr => exact zd_); intro x_24 w_1 ho _; have HO_1 := aM ho; clear ho))
     (try simp only [Act.put, sI, s0, sS])
     go_loopw [9, 27] (fun v9 v27 wr => ∃ (j : Int) (o : List Int), 0 ≤ j ∧ j ≤ (l0.length : Int) ∧ v27 = .int .i64 j ∧ Aside0 (mdAbI i (l0.drop j.toNat) o = mdAbI i l0 []) ∧ Aside0 ((o.length : Int) ≤ j) ∧ Aside0 (Own w wr [Item.row (Kd.int .i64) 3 (v9) (o), Item.row (Kd.int .i64) 3 (u7) ((Sep.iota i.toNat)), Item.box gm 39 #[.slice ((some ⟨gr, 0, none⟩)) n cm], Item.row (Kd.int .i64) 3 (.slice ((some ⟨gr, 0, none⟩)) n cm) ((mdRow l0 n i))])) (fun _ v27 _ => l0.length - (intOf v27).toNat)
     case atStart => exact ⟨0, [], Int.le_refl _, by omega, rfl, ⟨rfl⟩, ⟨by simp⟩, ⟨((((HO_1.out.front 3 rfl).front 3 rfl).front 3 rfl).front 3 rfl)⟩⟩
     case round =>
      clear HO; obtain ⟨j, o, hj0, hj2, rfl, HJ, HOL, HO⟩ := hrel
      by_cases hj1 : j < (l0.length : Int)
      ·have c2b := decide_eq_true hj1
       have hwj : wrap64 (j + 1) = j + 1 := by have := HL.out; unfold wrap64; omega
       obtain ⟨ad, aw, cw, y0, y1, e0, hx, hi_, _, e1, e2⟩ := md_row HR.out HG.out j hj0 hj1
       cases e0
       have HI := aM hi_; have hx2 : ∀ w1 : World, Below w.heap.size w w1 → w1.cell? (ad.add j.toNat) = some (.slice (some aw) 2 cw) := fun w1 hb => pw_cell_below hb hx
       have HX := aM hx2; have HY := aM (And.intro e1 e2); clear hx hi_ hx2 e1 e2; have p1 : (0 ≤ j) = True := eq_true hj0; have q1 : (j < (l0.length : Int)) = True := eq_true hj1; have hjd := HJ.out; rw [md_dropL l0 j hj0 hj1, mdAbI, HY.out.1, HY.out.2] at hjd
       by_cases c2 : y1 = i
       ·have c2c : (y1 == i) = true := beq_iff_eq.mpr c2
        rw [if_pos c2] at hjd; have HJ2 := aM hjd; clear hjd c2; have z_2 : wr.cell? (ad.add j.toNat) = some (.slice (some aw) 2 cw) := (HX.out _ HO.out.base); have z_3 : wr.cell? ⟨aw.block, aw.off + 1, none⟩ = some (.int .i64 y1) := zgb_; have z_4 : wr.cell? aw = some (.int .i64 y0) := (by rw [← HY.out.1]; exact (md_at2 (Kd.C_below HI.out HO.out.base)).1)
        go_wp2_with (first | ((with_reducible refine gate_dst (N := 41) rfl ?_); at_builtin; refine Sep.own_append (Kd.int .i64) HO.out 0 _ (o) 3 rfl rfl (.tmp 36) (.tmp 40) 39 (.int .i64 0) 8 rfl Try.underlying39 info3 rfl (by decide) (by omega) y0 [.int .i64 y0] rfl rfl rfl (by have := HOL.out; have := HL.out; omega) ?_; intro x_41 w_2 ho; have HO_2 := aM ho; clear ho))
        go_roundw
        case measure => simp only [intOf, hwj]; omega
        case rel => exact ⟨j + 1, o ++ [y0], by omega, by omega, zdd_, HJ2, ⟨by rw [List.length_append, List.length_singleton]; have := HOL.out; omega⟩, ⟨((((HO_2.out.front 3 rfl).front 3 rfl).front 3 rfl).front 3 rfl)⟩⟩
       ·have c2c : (y1 == i) = false := beq_eq_false_iff_ne.mpr c2
        rw [if_neg c2] at hjd; have HJ2 := aM hjd; clear hjd c2; have z_2 : wr.cell? (ad.add j.toNat) = some (.slice (some aw) 2 cw) := (HX.out _ HO.out.base); have z_3 : wr.cell? ⟨aw.block, aw.off + 1, none⟩ = some (.int .i64 y1) := zgb_
        go_wp2
        go_roundw
        case measure => simp only [intOf, hwj]; omega
        case rel => exact ⟨j + 1, o, by omega, by omega, zdd_, HJ2, ⟨by have := HOL.out; omega⟩, HO⟩
      ·have c2b := decide_eq_false hj1
       obtain rfl : j = (l0.length : Int) := by omega
       have hjd := HJ.out; rw [Int.toNat_natCast, List.drop_length, mdAbI] at hjd; have HJ2 := aM hjd; clear hjd; obtain ⟨Ao, co, rfl⟩ := HO.out.row_slice 0 rfl; have p1 : (0 ≤ i) = True := eq_true hi0; have q1 : (i < (n : Int)) = True := eq_true hi1
       by_cases c2 : o = []
       ·have HM2 := aM (show mdMidI l0 i = -1 from by unfold mdMidI; rw [← HJ2.out, if_pos c2])
        subst c2; clear HJ HJ2 HOL; (try rw [List.length_nil] at HO)
        go_wp2_with (first | ((with_reducible refine gate_callee (f := 96) rfl ?_); refine goesL_ (some 44) rfl rfl Try.func96 (by kernel_rfl) rfl #[.slice Ao 0 co] rfl ze_ ?_; refine (Try.slices_Sort_int_none Ao co _).mono ?_; rintro e w_1 ⟨rfl, hw_⟩; refine ⟨_, rfl, ?_⟩; have HO_1 := aM (show Own w w_1 [Item.row (Kd.int .i64) 3 (.slice Ao 0 co) ([]), Item.row (Kd.int .i64) 3 (u7) ((Sep.iota i.toNat)), Item.box gm 39 #[.slice ((some ⟨gr, 0, none⟩)) n cm], Item.row (Kd.int .i64) 3 (.slice ((some ⟨gr, 0, none⟩)) n cm) ((mdRow l0 n i))] from by rw [hw_]; exact HO.out); clear hw_; have z_2 : w_1.cell? ⟨gm, 0, none⟩ = some (.slice ((some ⟨gr, 0, none⟩)) n cm) := (HO_1.out.cell 2 rfl 0 rfl)) | ((with_reducible refine gate_store (t := 3) (p := 47) (v := .const (.int .i64 (-1))) rfl ?_); refine Sep.own_put_ev (0 : Int) HO_1.out 3 rfl i (-1) hi0 (by rw [mdRow_length]; exact hi1) rfl rfl 3 (.tmp 47) (.const (.int .i64 (-1))) rfl rfl rfl rfl (by kernel_rfl) ?_; intro w_2 ho; have HO_2 := aM ho; clear ho) | ((with_reducible refine gate_dst (N := 63) rfl ?_); at_builtin; refine Sep.own_append (Kd.int .i64) HO_2.out 1 _ ((Sep.iota i.toNat)) 3 rfl rfl (.tmp 60) (.tmp 62) 39 (.int .i64 0) 8 rfl Try.underlying39 info3 rfl (by decide) (by omega) i [.int .i64 i] rfl rfl rfl (by rw [Sep.iota_length]; have := HN.out; omega) ?_; intro x_63 w_4 ho; have HO_4 := aM ho; clear ho))
        go_roundw
        case measure => simp only [intOf, hwi]; omega
        case rel => exact ⟨i + 1, by omega, by omega, zci_, ⟨by rw [Sep.iota_succ i hi0, ← mdRow_set l0 n i hi0 hi1, HM2.out]; exact ((((HO_4.out.front 3 rfl).front 3 rfl).front 3 rfl).front 3 rfl).tail⟩⟩
       ·have hpos : 0 < o.length := List.length_pos_iff.mpr c2
        have hdv : Int.tdiv (o.length : Int) 2 = ((o.length / 2 : Nat) : Int) := by rw [Int.tdiv_eq_ediv_of_nonneg (by omega)]; rfl
        have HM2 := aM (show mdMidI l0 i = rd (o.mergeSort fun x y => decide (x ≤ y)) ((o.length / 2 : Nat) : Int) from by unfold mdMidI mdSorted; rw [← HJ2.out, if_neg c2]); obtain ⟨hm, hhm⟩ : ∃ hm : Int, hm = ((o.length / 2 : Nat) : Int) := ⟨_, rfl⟩; rw [← hhm] at HM2 hdv; have hm0 : 0 ≤ hm := by omega
        have hm1 : hm < (o.length : Int) := by omega
        have hwd : wrap64 hm = hm := by have := HOL.out; have := HL.out; unfold wrap64; omega
        have hgt : decide ((o.length : Int) > 0) = true := decide_eq_true (by omega); obtain ⟨gq, cq, hsv⟩ := Sep.own_row_form HO.out 0 rfl hpos
        injection hsv with ha hb hc
        subst ha; subst hc; have HSN := aM (show (o.mergeSort fun x y => decide (x ≤ y)).length = o.length from List.length_mergeSort _); have HSZ := aM (show o.length < 4611686018427387904 by have := HOL.out; have := HL.out; omega); skip; obtain ⟨z, hz⟩ : ∃ z, rd (o.mergeSort fun x y => decide (x ≤ y)) hm = z := ⟨_, rfl⟩; rw [hz] at HM2; have HZ := aM hz; have HM := aM (And.intro hm0 hm1); have p3 : (0 ≤ hm) = True := eq_true hm0; have q3 : (hm < (o.length : Int)) = True := eq_true hm1; have c3b : (0 < o.length) = True := eq_true hpos; clear hb hz c2 hhm hm0 hm1 hpos
        go_wp2_with (first | ((with_reducible refine gate_callee (f := 96) rfl ?_); refine goesL_ (some 44) rfl rfl Try.func96 (by kernel_rfl) rfl #[.slice ((some ⟨gq, 0, none⟩)) o.length co] rfl ze_ ?_; obtain ⟨hsH, hsb, _, hback⟩ := own_sort HO.out 0 rfl; refine (Try.slices_Sort_int gq 0 co o _ hsH hsb HSZ.out).mono ?_; rintro e w_1 ⟨rfl, nq, os, hw_⟩; refine ⟨_, rfl, ?_⟩; have HO_1 := aM (show Own w w_1 [Item.row (Kd.int .i64) 3 (.slice ((some ⟨gq, 0, none⟩)) o.length co) ((o.mergeSort fun x y => decide (x ≤ y))), Item.row (Kd.int .i64) 3 (u7) ((Sep.iota i.toNat)), Item.box gm 39 #[.slice ((some ⟨gr, 0, none⟩)) n cm], Item.row (Kd.int .i64) 3 (.slice ((some ⟨gr, 0, none⟩)) n cm) ((mdRow l0 n i))] from by rw [hw_]; exact hback (o.mergeSort fun x y => decide (x ≤ y)) nq os HSN.out); clear hsH hsb hback hw_; have z_2 : w_1.cell? ⟨gm, 0, none⟩ = some (.slice ((some ⟨gr, 0, none⟩)) n cm) := (HO_1.out.cell 2 rfl 0 rfl)) | ((with_reducible refine gate_store (t := 3) (p := 47) (v := .const (.int .i64 (-1))) rfl ?_); refine Sep.own_put_ev (0 : Int) HO_1.out 3 rfl i (-1) hi0 (by rw [mdRow_length]; exact hi1) rfl rfl 3 (.tmp 47) (.const (.int .i64 (-1))) rfl rfl rfl rfl (by kernel_rfl) ?_; intro w_2 ho; have HO_2 := aM ho; clear ho))
        have HD_18_2 := aM (HO_2.out.drew)
        refine start_ (n := 10) (S := fun w' => w'.cell? ⟨gm, 0, none⟩ = some (.slice ((some ⟨gr, 0, none⟩)) n cm) ∧ w'.cell? ⟨gq, hm.toNat, none⟩ = some (.int .i64 z)) (ds := [9]) #[fi,fi,fi,fi,fi,fi,fi,fi,fi,fi] (by kernel_rfl) rfl rfl ⟨(HD_18_2.out.cell 2 rfl 0 rfl), (by have e := (Sep.own_row_cell (0 : Int) HD_18_2.out 0 rfl hm HM.out.1 (by rw [HSN.out]; exact HM.out.2)).1; rw [show rdOf 0 (o.mergeSort fun x y => decide (x ≤ y)) hm = z from HZ.out] at e; exact e)⟩ (fun hHeld => ?_)
        generalize w_2.drew = wd_18_3 at HD_18_2 hHeld ⊢
        refine oz_ 1 52 ?_
        refine oz_ 2 53 ?_
        refine oz_ 3 54 ?_
        refine oz_ 4 55 ?_
        refine oz_ 5 56 ?_
        refine oz_ 6 57 ?_
        refine tz2_ 0 51 hHeld ?_
        refine tz2_ 7 58 hHeld ?_
        refine oz_ 8 59 ?_
        refine last_ (i := 9) (N := none) #[ti,ti,ti,ti,ti,ti,ti,ti,ti,ti] rfl rfl (by kernel_rfl) (by decide) (fun K hK => ?_)
        obtain ⟨hbs, hbf⟩ := Sep.own_row_cell (0 : Int) HD_18_2.out 3 rfl i hi0 (by rw [List.length_set, mdRow_length]; exact hi1)
        refine skip_ (w1 := ?_) (by rfl) rfl ?_ ?_
        rotate_left
        ·go_simp
         rfl
        have HD_18_2a := aM (Sep.own_put HD_18_2.out 3 rfl i z); clear hbs hbf; generalize hgs_ : World.setCell wd_18_3 ⟨gr, i.toNat, none⟩ (Value.int .i64 z) = w_99 at HD_18_2a ⊢; clear hgs_
        refine hK.out _ _ ?_
        clear hK K
        refine done_ (by kernel_rfl) ?_
        go_wp2_with (first | ((with_reducible refine gate_dst (N := 63) rfl ?_); at_builtin; refine Sep.own_append (Kd.int .i64) HD_18_2a.out 1 _ ((Sep.iota i.toNat)) 3 rfl rfl (.tmp 60) (.tmp 62) 39 (.int .i64 0) 8 rfl Try.underlying39 info3 rfl (by decide) (by omega) i [.int .i64 i] rfl rfl rfl (by rw [Sep.iota_length]; have := HN.out; omega) ?_; intro x_63 w_4 ho; have HO_4 := aM ho; clear ho))
        go_roundw
        case measure => simp only [intOf, hwi]; omega
        case rel => exact ⟨i + 1, by omega, by omega, zci_, ⟨by rw [Sep.iota_succ i hi0, ← mdRow_set l0 n i hi0 hi1, HM2.out, ← md_set2 (mdRow l0 n i) i.toNat (-1) z]; exact ((((HO_4.out.front 3 rfl).front 3 rfl).front 3 rfl).front 3 rfl).tail⟩⟩
    ·have c1b := decide_eq_false hi1
     obtain rfl : i = (n : Int) := by omega
     have ho := HO.out; rw [Int.toNat_natCast] at ho; have HO1 := aM ho; clear ho HO; have HO := HO1; clear HO1; obtain ⟨gp, np, cp, hnp, rfl⟩ := Sep.own_row_fseal HO.out 0 rfl (by rw [Sep.iota_length]; have := HN.out; omega); rw [Sep.iota_length] at hnp; replace hnp := hnp.symm; subst hnp; have HCM := aM (show ∀ (xs : List Int) (w2 : World) (p q : Int), Own w w2 (Item.row (Kd.int .i64) 3 (.slice ((some ⟨gp, 0, none⟩)) n cp) (xs) :: [Item.box gm 39 #[.slice ((some ⟨gr, 0, none⟩)) n cm], Item.row (Kd.int .i64) 3 (.slice ((some ⟨gr, 0, none⟩)) n cm) ((mdRow l0 n (n : Int)))]) → (0 ≤ p ∧ p < (n : Int)) → (0 ≤ q ∧ q < (n : Int)) → Calls Try.prog 98 (#[.int .i64 p, .int .i64 q] ++ #[.pointer (some ⟨gm, 0, none⟩)]) w2 fun e w3 => e = .returned (.int .i64 (mdCmp l0 p q)) ∧ Own w w3 (Item.row (Kd.int .i64) 3 (.slice ((some ⟨gp, 0, none⟩)) n cp) (xs) :: [Item.box gm 39 #[.slice ((some ⟨gr, 0, none⟩)) n cm], Item.row (Kd.int .i64) 3 (.slice ((some ⟨gr, 0, none⟩)) n cm) ((mdRow l0 n (n : Int)))]) from fun xs w2 p q ho hp hq => by have e := impl_MiddleOrder.cmp w gm gr n cm (mdRow l0 n n) (mdRow_length _ _ _) _ [] w2 p q ho hp hq; rw [mdRow_rd l0 n n p hp.1 hp.2, mdRow_rd l0 n n q hq.1 hq.2, if_pos hp.2, if_pos hq.2] at e; exact e)
     go_wp2_with (first | ((with_reducible refine gate_callee (f := 97) rfl ?_); refine goesL_ (some 67) rfl rfl Try.func97 (by kernel_rfl) rfl #[.slice ((some ⟨gp, 0, none⟩)) n cp, .func (.func 98) #[] #[.pointer (some ⟨gm, 0, none⟩)]] rfl ze_ ?_; refine (sort_stableF 98 Try.f98 Try.func98 (by kernel_rfl) rfl #[.pointer (some ⟨gm, 0, none⟩)] (mdCmp l0) (fun q => 0 ≤ q ∧ q < (n : Int)) w [Item.box gm 39 #[.slice ((some ⟨gr, 0, none⟩)) n cm], Item.row (Kd.int .i64) 3 (.slice ((some ⟨gr, 0, none⟩)) n cm) ((mdRow l0 n (n : Int)))] gp n cp (fun xs w2 p q ho hp hq => HCM.out xs w2 p q ho hp hq) (Sep.iota n) _ (fun y hy => Sep.iota_mem hy) (Sep.iota_length _) (by have := HN.out; omega) (((HO.out.front 2 rfl).front 2 rfl).front 2 rfl)).mono ?_; rintro e w_1 ⟨rfl, ho⟩; refine ⟨_, rfl, ?_⟩; have HO_1 := aM ho; clear ho) | ((with_reducible refine gate_callee (f := 94) rfl ?_); refine goesL_ (some 69) rfl rfl Try.func94 (by kernel_rfl) rfl #[.slice ((some ⟨gp, 0, none⟩)) n cp] rfl ze_ ?_; have hc_ := impl_placesOf.calls k (some ⟨gp, 0, none⟩) cp (mdOrd l0 n) ro _ (HO_1.out.row_reads 0 rfl).2.2 (by rw [HSL.out]; exact (HO_1.out.row_reads 0 rfl).2.1) HPO.out; rw [HSL.out] at hc_; refine hc_.mono ?_; rintro e w_2 ⟨x_69, rfl, hR, hb⟩; refine ⟨_, rfl, ?_⟩; have HO_2 := aM (HO_1.out.add_row hR hb); clear hR hb hc_))
     go_ret2
     obtain ⟨P_, hP_⟩ := HO_2.out.get 0 rfl
     exact ⟨_, rfl, Kd.R_mono hP_ (fun _ _ => trivial), HO_2.out.base⟩
  ·cases h1
def spec_MiddleOrder.f (k : Nat) (l0 : List (List Int)) (a1 : Int) : Option (List Int × Bool) := (spec_plWires.f k l0 a1).bind fun t => if t = true then (if l0.length ≤ 30 ∧ 1 ≤ a1 ∧ a1 ≤ 7 ∧ (∀ x ∈ l0, x.length = 2) then ((spec_plOrder.f k (mdSort (mdMidS l0) (Sep.iota a1.toNat) [])).bind fun r => some (r, true)) else none) else some ([], false)
open Go.Proofs.Ytlnhpkjioppbiaa.Sep in
set_option maxHeartbeats 16000000 in
set_option maxRecDepth 100000 in
theorem spec_MiddleOrder.calls (k : Nat) (A0 : Option Addr) (c0 : Nat) (l0 : List (List Int)) (a1 : Int) (r1 : List Int) (r2 : Bool) (w : World) (hr0 : Kd.C (Kd.slice 3 (Kd.int .i64)) w A0 l0.length l0) (hc0 : l0.length ≤ c0) (h : spec_MiddleOrder.f k l0 a1 = some (r1, r2)) :
  Calls Try.prog 47 #[.slice A0 l0.length c0, .int .i64 a1] w fun e w' => ∃ v0_ : Value, e = .returned (.tuple #[v0_, .bool r2]) ∧ Kd.R (Kd.int .i64) 3 w' w.heap.size (fun _ => True) v0_ r1 ∧ Below w.heap.size w w' := by
 have HR := aM hr0
 have HC0 := aM hc0
 clear hr0 hc0
 unfold spec_MiddleOrder.f at h
 obtain ⟨t, hA, h1⟩ := oB.mp h
 clear h
 have HA := aM hA
 clear hA
 cases t with
 | false =>
  rw [if_neg (by decide)] at h1; have h2 : (([] : List Int), false) = (r1, r2) := Option.some.inj h1; clear h1
  injection h2 with e1 e2
  subst e1; subst e2
  go_enter Try.func47, Try.ntmps47
  go_wp2_with (first | ((with_reducible refine gate_callee (f := 91) rfl ?_); refine goesL_ (some 11) rfl rfl Try.func91 (by kernel_rfl) rfl #[.slice A0 l0.length c0, .int .i64 a1] rfl ze_ ?_; (with_reducible refine (spec_plWires.calls k _ _ l0 a1 false _ HR.out HC0.out HA.out).mono ?_); rintro e w_1 ⟨rfl, hd⟩; refine ⟨_, rfl, ?_⟩; have HO_1 := aM ((Sep.Own.nil w).below hd.below); clear hd))
  go_ret2
  exact ⟨_, rfl, Kd.R_nil _ _ _ _ _, HO_1.out.base⟩
 | true =>
  rw [if_pos rfl] at h1
  split at h1
  ·rename_i hcc
   obtain ⟨hl, hm1, hm7, hg⟩ := hcc; obtain ⟨n, rfl⟩ := Int.eq_ofNat_of_zero_le (show 0 ≤ a1 by omega); rw [Int.toNat_natCast] at h1; obtain ⟨ro, hP, h2⟩ := oB.mp h1; clear h1; have h3 := Option.some.inj h2; clear h2
   injection h3 with e1 e2
   subst e1; subst e2; have HPO := aM hP; have HL := aM hl; have HN := aM (show 1 ≤ n ∧ n ≤ 7 by omega); have HG := aM hg; clear hP hl hm1 hm7 hg; obtain ⟨i0, hi0, _, hsz, _⟩ := info_parts info3; have HIN := aM hi0; have HSZ := aM hsz; clear hi0 hsz; have HMD := aM (show ∀ p : Int, spec_plMiddle.f k l0 p = some (mdMidS l0 p) from fun p => by unfold spec_plMiddle.f; rw [if_pos ⟨by have := HL.out; omega, HG.out⟩])
   go_enter Try.func47, Try.ntmps47
   go_wp2_with (first | ((with_reducible refine gate_callee (f := 91) rfl ?_); refine goesL_ (some 11) rfl rfl Try.func91 (by kernel_rfl) rfl #[.slice A0 l0.length c0, .int .i64 ((n : Int))] rfl ze_ ?_; (with_reducible refine (spec_plWires.calls k _ _ l0 (n : Int) true _ HR.out HC0.out HA.out).mono ?_); rintro e w_1 ⟨rfl, hd⟩; refine ⟨_, rfl, ?_⟩; have HO_1 := aM ((Sep.Own.nil w).below hd.below); clear hd))
   (try simp only [Act.put, sI, s0, sS])
   go_loopw [6, 7] (fun v6 v7 wr => ∃ (i : Int) (o : List Int), 0 ≤ i ∧ i ≤ (n : Int) ∧ v7 = .int .i64 i ∧ Aside0 (mdSort (mdMidS l0) ((Sep.iota n).drop i.toNat) o = mdSort (mdMidS l0) (Sep.iota n) []) ∧ Aside0 ((o.length : Int) = i) ∧ Aside0 (Own w wr [Item.row (Kd.int .i64) 3 (v6) (o)])) (fun _ v7 _ => n - (intOf v7).toNat)
   case atStart => exact ⟨0, [], Int.le_refl _, by omega, rfl, ⟨rfl⟩, ⟨rfl⟩, ⟨HO_1.out.nilrow (Kd.int .i64) 3⟩⟩
   case round =>
    clear HO_1; obtain ⟨i, o, hi0, hi2, rfl, HJ, HOL, HO⟩ := hrel; obtain ⟨Ao, co, rfl⟩ := HO.out.row_slice 0 rfl
    by_cases hi1 : i < (n : Int)
    ·have c1b := decide_eq_true hi1
     have hwi : wrap64 (i + 1) = i + 1 := by have := HN.out; unfold wrap64; omega
     have hjd := HJ.out; rw [md_iota n i hi0 hi1, mdSort] at hjd; have HJ2 := aM hjd; clear hjd
     go_wp2
     go_loopw [8] (fun v8 wr => ∃ (q : Int), 0 ≤ q ∧ q ≤ (o.length : Int) ∧ v8 = .int .i64 q ∧ Aside0 (mdK (mdMidS l0) o (mdMidS l0 i) q.toNat = mdK (mdMidS l0) o (mdMidS l0 i) o.length) ∧ Aside0 (Own w wr [Item.row (Kd.int .i64) 3 (.slice Ao o.length co) (o)])) (fun v8 _ => (intOf v8).toNat)
     case atStart => exact ⟨(o.length : Int), by omega, Int.le_refl _, rfl, ⟨rfl⟩, HO⟩
     case round =>
      clear HO; obtain ⟨q, hq0, hq1, rfl, HQ, HO⟩ := hrel; have hol := HOL.out; have hnn := HN.out
      by_cases c3 : q > 0
      ·have c3b := decide_eq_true c3
       obtain ⟨qp, hqp⟩ : ∃ qp : Int, qp = q - 1 := ⟨_, rfl⟩; have hwq : wrap64 (q - 1) = qp := by unfold wrap64; omega
       have hst := mdK_step (mdMidS l0) o (mdMidS l0 i) q (by omega); rw [← hqp] at hst; have hqp0 : 0 ≤ qp ∧ qp < (o.length : Int) := by omega
       have HQP := aM hqp0; have HQ1 := aM (show qp.toNat < q.toNat by omega); have HQ2 := aM (show qp ≤ (o.length : Int) by omega); have p2 : (0 ≤ qp) = True := eq_true hqp0.1; have q2 : (qp < (o.length : Int)) = True := eq_true hqp0.2; obtain ⟨gq, cq, hsv⟩ := Sep.own_row_form HO.out 0 rfl (by omega)
       injection hsv with ha hb hc
       subst ha; subst hc; obtain ⟨z, hz⟩ : ∃ z, rd o qp = z := ⟨_, rfl⟩; rw [hz] at hst; have HZ := aM hz; obtain ⟨mz, hmz⟩ : ∃ m, mdMidS l0 z = m := ⟨_, rfl⟩; obtain ⟨mi, hmi⟩ : ∃ m, mdMidS l0 i = m := ⟨_, rfl⟩; rw [hmz, hmi] at hst; have HMZ := aM (show spec_plMiddle.f k l0 z = some mz by rw [HMD.out, hmz]); have HMI := aM (show spec_plMiddle.f k l0 i = some mi by rw [HMD.out, hmi]); have HMI2 := aM hmi; clear hb hz hqp hqp0 hol hnn hmz hmi
       by_cases c4 : mz > mi
       ·have c4b := decide_eq_true c4
        rw [if_pos c4] at hst; have HQ3 := aM (show mdK (mdMidS l0) o (mdMidS l0 i) qp.toNat = mdK (mdMidS l0) o (mdMidS l0 i) o.length from by rw [HMI2.out, ← hst, ← HMI2.out]; exact HQ.out); clear hst; have z_1 : wr.cell? ⟨gq, qp.toNat, none⟩ = some (.int .i64 z) := (by have e := (Sep.own_row_cell (0 : Int) HO.out 0 rfl qp HQP.out.1 HQP.out.2).1; rw [show rdOf 0 o qp = z from HZ.out] at e; exact e)
        go_wp2_with (first | (go_at_call 99; (with_reducible refine (spec_plMiddle.calls k A0 c0 l0 z mz _ (Kd.C_below HR.out HO.out.base) HC0.out HMZ.out).mono ?_); rintro e w_1 ⟨rfl, hb⟩; have HO_1 := aM (HO.out.below hb); clear hb) | (go_at_call 99; (with_reducible refine (spec_plMiddle.calls k A0 c0 l0 i mi _ (Kd.C_below HR.out HO_1.out.base) HC0.out HMI.out).mono ?_); rintro e w_2 ⟨rfl, hb⟩; have HO_2 := aM (HO_1.out.below hb); clear hb))
        go_roundw
        case measure => have := HQ1.out; simp only [intOf]; omega
        case rel => exact ⟨qp, HQP.out.1, HQ2.out, by first | rfl | rw [hwq], HQ3, HO_2⟩
       ·have c4b := decide_eq_false c4
        rw [if_neg c4] at hst; have HQ3 := aM (show mdK (mdMidS l0) o (mdMidS l0 i) o.length = q.toNat from by rw [← HQ.out, HMI2.out]; exact hst); clear hst; have HOC := aM (HO.out.row_reads 0 rfl).2.1; have HQB := aM (show q.toNat ≤ o.length by omega); have HTL := aM (show (o.take q.toNat).length = q.toNat by rw [lT]; omega); obtain ⟨ht1, ht2, ht3⟩ := print_take_of (P := Try.prog) (Value.int .i64) (0 : Int) 39 3 .i64 Try.underlying39 HIN.out HSZ.out (some ⟨gq, 0, none⟩) co o q hq0 (by omega) HOC.out; obtain ⟨Ad, hd1, hd2, hd3⟩ := print_drop_of (P := Try.prog) (Value.int .i64) (0 : Int) 39 3 .i64 Try.underlying39 HIN.out HSZ.out (some ⟨gq, 0, none⟩) co o q hq0 (by omega) HOC.out; have HT1 := aM (show ∀ w1 : World, Kd.C (Kd.int .i64) w1 (some ⟨gq, 0, none⟩) o.length o → Kd.C (Kd.int .i64) w1 (some ⟨gq, 0, none⟩) q.toNat (o.take q.toNat) from fun w1 h => by have e := Kd.C_of_reads (h1 := fun _ => rfl) (ht2 w1 (Kd.reads_of_C h)); rw [HTL.out] at e; exact e); have HT2 := aM (show ∀ w1 : World, Kd.C (Kd.int .i64) w1 (some ⟨gq, 0, none⟩) o.length o → Kd.C (Kd.int .i64) w1 Ad (o.length - q.toNat) (o.drop q.toNat) from fun w1 h => by have e := Kd.C_of_reads (h1 := fun _ => rfl) (hd2 w1 (Kd.reads_of_C h)); rw [lD] at e; exact e); have HOWN := aM (show spec_l1Own.f (o.take q.toNat) = some (o.take q.toNat) from by unfold spec_l1Own.f; simp only [oS, List.length_nil, Nat.zero_add, List.nil_append]; rw [if_pos (by rw [lT]; have := HOL.out; have := HN.out; omega)]); have HINS := aM (show mdIns (mdMidS l0) o i = o.take q.toNat ++ [i] ++ o.drop q.toNat from by unfold mdIns; rw [HQ3.out]); have HLL := aM (show o.length ≤ 1000 by have := HOL.out; have := HN.out; omega); clear ht2 ht3 hd2 hd3; (try clear hol hnn); have z_1 : wr.cell? ⟨gq, qp.toNat, none⟩ = some (.int .i64 z) := (by have e := (Sep.own_row_cell (0 : Int) HO.out 0 rfl qp HQP.out.1 HQP.out.2).1; rw [show rdOf 0 o qp = z from HZ.out] at e; exact e)
        go_wp2_with (first | (go_at_call 99; (with_reducible refine (spec_plMiddle.calls k A0 c0 l0 z mz _ (Kd.C_below HR.out HO.out.base) HC0.out HMZ.out).mono ?_); rintro e w_1 ⟨rfl, hb⟩; have HO_1 := aM (HO.out.below hb); clear hb) | (go_at_call 99; (with_reducible refine (spec_plMiddle.calls k A0 c0 l0 i mi _ (Kd.C_below HR.out HO_1.out.base) HC0.out HMI.out).mono ?_); rintro e w_2 ⟨rfl, hb⟩; have HO_2 := aM (HO_1.out.below hb); clear hb))
        have HD_10_1 := aM (HO_2.out.drew)
        refine start_ (n := 12) (S := fun w' => True) (ds := []) #[fi,fi,fi,fi,fi,fi,fi,fi,fi,fi,fi,fi] (by kernel_rfl) rfl rfl trivial (fun hHeld => ?_)
        generalize w_2.drew = wd_10_2 at HD_10_1 ⊢
        refine oz_ 0 37 ?_
        refine oz_ 1 38 ?_
        refine oz_ 2 39 ?_
        refine oz_ 4 41 ?_
        refine oz_ 7 44 ?_
        refine oz_ 8 45 ?_
        refine oz_ 9 46 ?_
        refine join_ (σ := Value × Value) 3 #[ti,ti,ti,ti,ti,ti,fi,ti,ti,ti,fi,fi] (fun s => [(40, s.1), (42, s.2)]) (fun s w' => Own w w' [Item.row (Kd.int .i64) 3 (s.2) ([i]), Item.row (Kd.int .i64) 3 (s.1) ((o.take q.toNat)), Item.row (Kd.int .i64) 3 (.slice ((some ⟨gq, 0, none⟩)) o.length co) (o)]) ?_ ?_
        rotate_left
        ·intro hCont
         refine two_ (i := 3) (j := 5) (Ni := some 40) (Nj := some 42) #[ti,ti,ti,ti,ti,fi,fi,ti,ti,ti,fi,fi] #[ti,ti,ti,fi,ti,ti,fi,ti,ti,ti,fi,fi] rfl rfl rfl rfl (by kernel_rfl) (by decide) (by decide) (fun K hK => ?_) (fun K hK => ?_)
         ·skip
          refine goes_ Try.func81 (by kernel_rfl) rfl #[.slice ((some ⟨gq, 0, none⟩)) q.toNat co] (by rfl) rfl rfl zbi_ ?_
          have hc_ := spec_l1Own.calls ((some ⟨gq, 0, none⟩)) co (o.take q.toNat) (o.take q.toNat) _ (by rw [HTL.out]; exact HT1.out _ (HD_10_1.out.row_reads 0 rfl).2.2) zdi_ HOWN.out; rw [HTL.out] at hc_
          refine hc_.mono ?_
          rintro e w_3 ⟨x_40, rfl, hR, hb⟩
          refine ⟨_, rfl, ?_⟩
          have HO_3 := aM (HD_10_1.out.add_row hR hb); clear hR hb hc_
          refine hK.out _ _ trivial (fun hHeld => ?_)
          clear hK K
          refine nz_ 40 ?_
          refine oo_ 5 42 (fun K hK => ?_)
          refine Sep.own_lit1_step (Value.int .i64) (h1 := fun _ => rfl) HO_3.out 3 i (by rfl) (N := 42) rfl zd_ ?_
          intro x_42 w_4 ho _
          have HO_4 := aM ho; clear ho
          refine hK.out _ _ trivial (fun hHeld => ?_)
          clear hK K
          refine nz_ 42 ?_
          exact norm_ (by simp only [putAll, Act.put, sI, s0, sS]) (hCont (x_40, x_42) _ (((HO_4.out.front 2 rfl).front 2 rfl).front 2 rfl))
         ·skip
          refine Sep.own_lit1_step (Value.int .i64) (h1 := fun _ => rfl) HD_10_1.out 3 i (by rfl) (N := 42) rfl zd_ ?_
          intro x_42 w_3 ho _
          have HO_3 := aM ho; clear ho
          refine hK.out _ _ trivial (fun hHeld => ?_)
          clear hK K
          refine nz_ 42 ?_
          refine oo_ 3 40 (fun K hK => ?_)
          refine goes_ Try.func81 (by kernel_rfl) rfl #[.slice ((some ⟨gq, 0, none⟩)) q.toNat co] (by rfl) rfl rfl zbi_ ?_
          have hc_ := spec_l1Own.calls ((some ⟨gq, 0, none⟩)) co (o.take q.toNat) (o.take q.toNat) _ (by rw [HTL.out]; exact HT1.out _ (HO_3.out.row_reads 1 rfl).2.2) zdi_ HOWN.out; rw [HTL.out] at hc_
          refine hc_.mono ?_
          rintro e w_4 ⟨x_40, rfl, hR, hb⟩
          refine ⟨_, rfl, ?_⟩
          have HO_4 := aM (HO_3.out.add_row hR hb); clear hR hb hc_
          refine hK.out _ _ trivial (fun hHeld => ?_)
          clear hK K
          refine nz_ 40 ?_
          exact norm_ (by simp only [putAll, Act.put, sI, s0, sS]) (hCont (x_40, x_42) _ (((HO_4.out.front 2 rfl).front 1 rfl).front 2 rfl))
        rintro ⟨x_40, x_42⟩ wj_3 ho
        have hHeld := trivial; obtain ⟨A_42, c_42, rfl⟩ := ho.row_slice 0 rfl; have HOJ_3 := aM ho; clear ho
        refine norm_ (a' := ?_) ?_ ?_
        rotate_left
        ·simp only [putAll, Act.put, sI, s0, sS]
         rfl
        refine oo_ 6 43 (fun K hK => ?_)
        refine Sep.own_append_all_step (Value.int .i64) (0 : Int) HOJ_3.out 1 _ ((o.take q.toNat)) 3 rfl (by rfl) (.tmp 40) (.tmp 42) 39 (.int .i64 0) 8 rfl Try.underlying39 info3 rfl (by omega) ([i]) A_42 1 c_42 rfl rfl (HOJ_3.out.row_reads 0 rfl).2.2 zgd_ ?_
        intro x_43 w_55 ho
        have HO_55 := aM ho; clear ho
        refine hK.out _ _ trivial (fun hHeld => ?_)
        clear hK K
        refine nz_ 43 ?_
        refine oo_ 10 47 (fun K hK => ?_)
        refine Sep.own_append_all_step (Value.int .i64) (0 : Int) HO_55.out 1 _ (((o.take q.toNat)) ++ ([i])) 3 rfl (by rfl) (.tmp 43) (.tmp 46) 39 (.int .i64 0) 8 rfl Try.underlying39 info3 rfl (by omega) (o.drop q.toNat) Ad ((o.length - q.toNat)) ((co - q.toNat)) rfl rfl (HT2.out _ (HO_55.out.row_reads 2 rfl).2.2) zge_ ?_
        intro x_47 w_56 ho
        have HO_56 := aM ho; clear ho
        refine hK.out _ _ trivial (fun hHeld => ?_)
        clear hK K
        refine nz_ 47 ?_
        refine oz_ 11 6 ?_
        refine done_ (by kernel_rfl) ?_
        go_wp2
        go_roundw
        case measure => simp only [intOf, hwi]; omega
        case rel => exact ⟨i + 1, mdIns (mdMidS l0) o i, by omega, by omega, zci_, HJ2, ⟨by rw [mdIns_length]; have := HOL.out; omega⟩, ⟨by rw [HINS.out]; exact (((HO_56.out.front 1 rfl).front 2 rfl).front 2 rfl).tail.tail⟩⟩
      ·have c3b := decide_eq_false c3
       have HQ3 := aM (show mdK (mdMidS l0) o (mdMidS l0 i) o.length = q.toNat by have e := HQ.out; rw [show q.toNat = 0 by omega] at e ⊢; rw [← e, mdK]); have HOC := aM (HO.out.row_reads 0 rfl).2.1; have HQB := aM (show q.toNat ≤ o.length by omega); have HTL := aM (show (o.take q.toNat).length = q.toNat by rw [lT]; omega); obtain ⟨ht1, ht2, ht3⟩ := print_take_of (P := Try.prog) (Value.int .i64) (0 : Int) 39 3 .i64 Try.underlying39 HIN.out HSZ.out Ao co o q hq0 (by omega) HOC.out; obtain ⟨Ad, hd1, hd2, hd3⟩ := print_drop_of (P := Try.prog) (Value.int .i64) (0 : Int) 39 3 .i64 Try.underlying39 HIN.out HSZ.out Ao co o q hq0 (by omega) HOC.out; have HT1 := aM (show ∀ w1 : World, Kd.C (Kd.int .i64) w1 Ao o.length o → Kd.C (Kd.int .i64) w1 Ao q.toNat (o.take q.toNat) from fun w1 h => by have e := Kd.C_of_reads (h1 := fun _ => rfl) (ht2 w1 (Kd.reads_of_C h)); rw [HTL.out] at e; exact e); have HT2 := aM (show ∀ w1 : World, Kd.C (Kd.int .i64) w1 Ao o.length o → Kd.C (Kd.int .i64) w1 Ad (o.length - q.toNat) (o.drop q.toNat) from fun w1 h => by have e := Kd.C_of_reads (h1 := fun _ => rfl) (hd2 w1 (Kd.reads_of_C h)); rw [lD] at e; exact e); have HOWN := aM (show spec_l1Own.f (o.take q.toNat) = some (o.take q.toNat) from by unfold spec_l1Own.f; simp only [oS, List.length_nil, Nat.zero_add, List.nil_append]; rw [if_pos (by rw [lT]; have := HOL.out; have := HN.out; omega)]); have HINS := aM (show mdIns (mdMidS l0) o i = o.take q.toNat ++ [i] ++ o.drop q.toNat from by unfold mdIns; rw [HQ3.out]); have HLL := aM (show o.length ≤ 1000 by have := HOL.out; have := HN.out; omega); clear ht2 ht3 hd2 hd3; (try clear hol hnn)
       go_wp2
       have HD_10_0 := aM (HO.out.drew)
       refine start_ (n := 12) (S := fun w' => True) (ds := []) #[fi,fi,fi,fi,fi,fi,fi,fi,fi,fi,fi,fi] (by kernel_rfl) rfl rfl trivial (fun hHeld => ?_)
       generalize wr.drew = wd_10_1 at HD_10_0 ⊢
       refine oz_ 0 37 ?_
       refine oz_ 1 38 ?_
       refine oz_ 2 39 ?_
       refine oz_ 4 41 ?_
       refine oz_ 7 44 ?_
       refine oz_ 8 45 ?_
       refine oz_ 9 46 ?_
       refine join_ (σ := Value × Value) 3 #[ti,ti,ti,ti,ti,ti,fi,ti,ti,ti,fi,fi] (fun s => [(40, s.1), (42, s.2)]) (fun s w' => Own w w' [Item.row (Kd.int .i64) 3 (s.2) ([i]), Item.row (Kd.int .i64) 3 (s.1) ((o.take q.toNat)), Item.row (Kd.int .i64) 3 (.slice Ao o.length co) (o)]) ?_ ?_
       rotate_left
       ·intro hCont
        refine two_ (i := 3) (j := 5) (Ni := some 40) (Nj := some 42) #[ti,ti,ti,ti,ti,fi,fi,ti,ti,ti,fi,fi] #[ti,ti,ti,fi,ti,ti,fi,ti,ti,ti,fi,fi] rfl rfl rfl rfl (by kernel_rfl) (by decide) (by decide) (fun K hK => ?_) (fun K hK => ?_)
        ·skip
         refine goes_ Try.func81 (by kernel_rfl) rfl #[.slice Ao q.toNat co] (by rfl) rfl rfl zbi_ ?_
         have hc_ := spec_l1Own.calls Ao co (o.take q.toNat) (o.take q.toNat) _ (by rw [HTL.out]; exact HT1.out _ (HD_10_0.out.row_reads 0 rfl).2.2) zdi_ HOWN.out; rw [HTL.out] at hc_
         refine hc_.mono ?_
         rintro e w_1 ⟨x_40, rfl, hR, hb⟩
         refine ⟨_, rfl, ?_⟩
         have HO_1 := aM (HD_10_0.out.add_row hR hb); clear hR hb hc_
         refine hK.out _ _ trivial (fun hHeld => ?_)
         clear hK K
         refine nz_ 40 ?_
         refine oo_ 5 42 (fun K hK => ?_)
         refine Sep.own_lit1_step (Value.int .i64) (h1 := fun _ => rfl) HO_1.out 3 i (by rfl) (N := 42) rfl zd_ ?_
         intro x_42 w_2 ho _
         have HO_2 := aM ho; clear ho
         refine hK.out _ _ trivial (fun hHeld => ?_)
         clear hK K
         refine nz_ 42 ?_
         exact norm_ (by simp only [putAll, Act.put, sI, s0, sS]) (hCont (x_40, x_42) _ (((HO_2.out.front 2 rfl).front 2 rfl).front 2 rfl))
        ·skip
         refine Sep.own_lit1_step (Value.int .i64) (h1 := fun _ => rfl) HD_10_0.out 3 i (by rfl) (N := 42) rfl zd_ ?_
         intro x_42 w_1 ho _
         have HO_1 := aM ho; clear ho
         refine hK.out _ _ trivial (fun hHeld => ?_)
         clear hK K
         refine nz_ 42 ?_
         refine oo_ 3 40 (fun K hK => ?_)
         refine goes_ Try.func81 (by kernel_rfl) rfl #[.slice Ao q.toNat co] (by rfl) rfl rfl zbi_ ?_
         have hc_ := spec_l1Own.calls Ao co (o.take q.toNat) (o.take q.toNat) _ (by rw [HTL.out]; exact HT1.out _ (HO_1.out.row_reads 1 rfl).2.2) zdi_ HOWN.out; rw [HTL.out] at hc_
         refine hc_.mono ?_
         rintro e w_2 ⟨x_40, rfl, hR, hb⟩
         refine ⟨_, rfl, ?_⟩
         have HO_2 := aM (HO_1.out.add_row hR hb); clear hR hb hc_
         refine hK.out _ _ trivial (fun hHeld => ?_)
         clear hK K
         refine nz_ 40 ?_
         exact norm_ (by simp only [putAll, Act.put, sI, s0, sS]) (hCont (x_40, x_42) _ (((HO_2.out.front 2 rfl).front 1 rfl).front 2 rfl))
       rintro ⟨x_40, x_42⟩ wj_2 ho
       have hHeld := trivial; obtain ⟨A_42, c_42, rfl⟩ := ho.row_slice 0 rfl; have HOJ_2 := aM ho; clear ho
       refine norm_ (a' := ?_) ?_ ?_
       rotate_left
       ·simp only [putAll, Act.put, sI, s0, sS]
        rfl
       refine oo_ 6 43 (fun K hK => ?_)
       refine Sep.own_append_all_step (Value.int .i64) (0 : Int) HOJ_2.out 1 _ ((o.take q.toNat)) 3 rfl (by rfl) (.tmp 40) (.tmp 42) 39 (.int .i64 0) 8 rfl Try.underlying39 info3 rfl (by omega) ([i]) A_42 1 c_42 rfl rfl (HOJ_2.out.row_reads 0 rfl).2.2 zgd_ ?_
       intro x_43 w_53 ho
       have HO_53 := aM ho; clear ho
       refine hK.out _ _ trivial (fun hHeld => ?_)
       clear hK K
       refine nz_ 43 ?_
       refine oo_ 10 47 (fun K hK => ?_)
       refine Sep.own_append_all_step (Value.int .i64) (0 : Int) HO_53.out 1 _ (((o.take q.toNat)) ++ ([i])) 3 rfl (by rfl) (.tmp 43) (.tmp 46) 39 (.int .i64 0) 8 rfl Try.underlying39 info3 rfl (by omega) (o.drop q.toNat) Ad ((o.length - q.toNat)) ((co - q.toNat)) rfl rfl (HT2.out _ (HO_53.out.row_reads 2 rfl).2.2) zge_ ?_
       intro x_47 w_54 ho
       have HO_54 := aM ho; clear ho
       refine hK.out _ _ trivial (fun hHeld => ?_)
       clear hK K
       refine nz_ 47 ?_
       refine oz_ 11 6 ?_
       refine done_ (by kernel_rfl) ?_
       go_wp2
       go_roundw
       case measure => simp only [intOf, hwi]; omega
       case rel => exact ⟨i + 1, mdIns (mdMidS l0) o i, by omega, by omega, zci_, HJ2, ⟨by rw [mdIns_length]; have := HOL.out; omega⟩, ⟨by rw [HINS.out]; exact (((HO_54.out.front 1 rfl).front 2 rfl).front 2 rfl).tail.tail⟩⟩
    ·have c1b := decide_eq_false hi1
     obtain rfl : i = (n : Int) := by omega
     have hjd := HJ.out; rw [Int.toNat_natCast, md_iota_end, mdSort] at hjd; have hP := HPO.out; rw [← hjd] at hP; have HP2 := aM hP; clear hP hjd
     go_wp2_with (first | ((with_reducible refine gate_callee (f := 95) rfl ?_); refine goesL_ (some 49) rfl rfl Try.func95 (by kernel_rfl) rfl #[.slice Ao o.length co] rfl ze_ ?_; refine (spec_plOrder.calls k Ao co o ro _ (HO.out.row_reads 0 rfl).2.2 (HO.out.row_reads 0 rfl).2.1 HP2.out).mono ?_; rintro e w_1 ⟨x_49, rfl, hR, hb⟩; refine ⟨_, rfl, ?_⟩; have HO_1 := aM (HO.out.add_row hR hb); clear hR hb))
     go_ret2
     obtain ⟨P_, hP_⟩ := HO_1.out.get 0 rfl
     exact ⟨_, rfl, Kd.R_mono hP_ (fun _ _ => trivial), HO_1.out.base⟩
  ·cases h1
def impl_isOrder.l0 : Nat → Int → List Bool → List Int → Int → Int → Option (Bool)
 | 0, _, _, _, _, _ => none
 | k + 1, x1, x5, x14, x15, x16 => if x16 < x15 then (if 0 ≤ x16 then (if x16 < (x14.length : Int) then (if (rd x14 x16) < 0 then (some false) else (if (rd x14 x16) ≥ x1 then (some false) else (if 0 ≤ (rd x14 x16) then (if (rd x14 x16) < (x5.length : Int) then (if rdOf false x5 (rd x14 x16) = true then (some false) else (impl_isOrder.l0 k x1 (x5.set ((rd x14 x16) : Int).toNat true) x14 x15 (wrap64 (x16 + 1)))) else (none)) else (none)))) else (none)) else (none)) else (some true)
def impl_isOrder.f (k : Nat) (l0 : List Int) (a1 : Int) : Option (Bool) := if (l0.length : Int) = a1 then (if 0 ≤ a1 then (if (a1 : Int).toNat ≤ 281474976710656 then (impl_isOrder.l0 k a1 (List.replicate (a1 : Int).toNat false) l0 (l0.length : Int) 0) else (none)) else (none)) else (some false)
set_option maxHeartbeats 8000000 in
set_option maxRecDepth 100000 in
theorem impl_isOrder.calls (k : Nat) (A0 : Option Addr) (c0 : Nat) (l0 : List Int) (a1 : Int) (r : Bool) (w : World) (hr0 : Kd.C (Kd.int .i64) w A0 l0.length l0) (hc0 : l0.length ≤ c0) (h : impl_isOrder.f k l0 a1 = some r) :
  Calls Try.prog 79 #[.slice A0 l0.length c0, .int .i64 a1] w fun e w' => e = .returned (.bool r) ∧ Below w.heap.size w w' := by
 have HR0 := aM hr0
 have HC0 := aM hc0
 clear hr0 hc0
 have HB := aM (Below.refl w.heap.size w)
 have H : (if (l0.length : Int) = a1 then (if 0 ≤ a1 then (if (a1 : Int).toNat ≤ 281474976710656 then (impl_isOrder.l0 k a1 (List.replicate (a1 : Int).toNat false) l0 (l0.length : Int) 0) else (none)) else (none)) else (some false)) = some r := h
 clear h
 by_cases c3 : (l0.length : Int) = a1
 ·rw [if_pos c3] at H
  have c3b0 := beq_iff_eq.mpr c3; have c3b1 := bne_eq_false_iff_eq.mpr c3; clear c3
  by_cases c4 : 0 ≤ a1
  ·rw [if_pos c4] at H
   have c4b0 := eq_true c4; have c4b1 := decide_eq_true c4; clear c4
   by_cases c5 : (a1 : Int).toNat ≤ 281474976710656
   ·rw [if_pos c5] at H
    have c5b0 := eq_true c5; have c5b1 := decide_eq_true c5; clear c5; obtain ⟨y398, hy398⟩ : ∃ y_ : List Bool, y_ = (List.replicate (a1 : Int).toNat false) := ⟨_, rfl⟩; replace H : (impl_isOrder.l0 k a1 y398 l0 (l0.length : Int) 0) = some r := q3y_ hy398 H
    have Ny398 := aM hy398; clear hy398; have H' := aM H; clear H
    go_enter Try.func79, Try.ntmps79
    go_wp2_with (first | ((with_reducible refine gate_dst (N := 13) rfl ?_); refine Kd.R_make Kd.bool _ 4 rfl (N := 13) rfl 131 _ _ rfl a1 rfl rfl Try.underlying131 (.bool false) 1 info4 rfl (by decide) (by omega) false (ok := fun _ => True) (okp := fun _ => True) rfl (fun _ hk => hk) trivial (of_decide_eq_true za_) (Nat.le_trans (Nat.mul_le_mul_right _ (of_decide_eq_true za_ : a1.toNat ≤ 281474976710656)) (by omega)) (Below.refl _ _) (Nat.le_refl _) ?_; intro v399 w6 ho7 hb hg_ hnew_; clear hg_ hnew_; (first | rw [← Ny398.out] at ho7 | (simp only [Int.reduceToNat] at ho7; rw [← Ny398.out] at ho7)); have n_ := z (Kd.R_lower ho7 (below_size zb_)) <| z1 (below_step zb_ hb); clear HB; obtain ⟨HO400, HB⟩ := n_; clear hb ho7))
    go_loopg [16] k (fun kq v16 w' => ∃ (x5_1 : List Bool) (x16_1 : Int), v16 = .int .i64 x16_1 ∧ Aside0 (impl_isOrder.l0 kq a1 x5_1 l0 (l0.length : Int) x16_1 = some r) ∧ Aside0 (kq ≤ k) ∧ Aside0 (Kd.R Kd.bool 4 w' w.heap.size (fun _ => True) v399 x5_1) ∧ Aside0 (Below w.heap.size w w'))
    case atStart => exact ⟨(y398), (0), zc_, H', ⟨Nat.le_refl _⟩, ⟨zr HO400.out⟩, ⟨zb_⟩⟩
    case round =>
     clear H'; (try clear c3b0); (try clear c3b1); (try clear c4b0); (try clear c4b1); (try clear c5b0); (try clear c5b1); obtain ⟨x5_1, x16_1, rfl, HA, HK1, HO_5, HB⟩ := hrel
     cases gk with
     | zero => exact absurd HA.out (by simp [impl_isOrder.l0])
     | succ k1 =>
      have H := HA.out; clear HA
      simp only [impl_isOrder.l0] at H
      by_cases c8 : x16_1 < (l0.length : Int)
      ·rw [if_pos c8] at H
       have c8b0 := decide_eq_true c8; clear c8
       by_cases c9 : 0 ≤ x16_1
       ·rw [if_pos c9] at H
        have c9b0 := decide_eq_true c9; clear c9
        by_cases c10 : x16_1 < (l0.length : Int)
        ·rw [if_pos c10] at H
         have c10b0 := decide_eq_true c10; clear c10
         by_cases c11 : (rd l0 x16_1) < 0
         ·rw [if_pos c11] at H
          have c11b0 := decide_eq_true c11; clear c11; obtain rfl := Option.some.inj H; have p401 : 0 ≤ (x16_1 : Int) := of_decide_eq_true za_; have q401 : x16_1 < (l0.length : Int) := of_decide_eq_true za_; obtain ⟨ad401, e401, hx401_0⟩ := Kd.at_int HR0.out x16_1 p401 q401
          cases e401
          (try (replace hx401_0 := q3h_ HB.out hx401_0)); replace p401 := eq_true p401; replace q401 := eq_true q401
          go_wp2
          go_ret
          exact ⟨zh_, zb_⟩
         ·rw [if_neg c11] at H
          have c11b0 := decide_eq_false c11; clear c11
          by_cases c12 : (rd l0 x16_1) ≥ a1
          ·rw [if_pos c12] at H
           have c12b0 : decide (a1 ≤ (rd l0 x16_1)) = true := decide_eq_true c12; clear c12; obtain rfl := Option.some.inj H; have p401 : 0 ≤ (x16_1 : Int) := of_decide_eq_true za_; have q401 : x16_1 < (l0.length : Int) := of_decide_eq_true za_; obtain ⟨ad401, e401, hx401_0⟩ := Kd.at_int HR0.out x16_1 p401 q401
           cases e401
           (try (replace hx401_0 := q3h_ HB.out hx401_0)); replace p401 := eq_true p401; replace q401 := eq_true q401
           go_wp2
           go_ret
           exact ⟨zh_, zb_⟩
          ·rw [if_neg c12] at H
           have c12b0 : decide (a1 ≤ (rd l0 x16_1)) = false := decide_eq_false c12; clear c12
           by_cases c13 : 0 ≤ (rd l0 x16_1)
           ·rw [if_pos c13] at H
            have c13b0 := decide_eq_true c13; clear c13
            by_cases c14 : (rd l0 x16_1) < (x5_1.length : Int)
            ·rw [if_pos c14] at H
             have c14b0 := decide_eq_true c14; clear c14; obtain ⟨bq15, hbq15⟩ : ∃ b_ : Bool, b_ = (rdOf false x5_1 (rd l0 x16_1)) := ⟨_, rfl⟩; replace H : (if bq15 = true then (some false) else (impl_isOrder.l0 k1 a1 (x5_1.set ((rd l0 x16_1) : Int).toNat true) l0 (l0.length : Int) (wrap64 (x16_1 + 1)))) = some r := by rw [← hbq15] at H; exact H
             have Nbq15 := aM hbq15; clear hbq15
             by_cases c16 : bq15 = true
             ·subst c16
              have H1 : (some false) = some r := by rw [if_pos rfl] at H; exact H
              clear H; have H := H1; clear H1; obtain rfl := Option.some.inj H; have p401 : 0 ≤ (x16_1 : Int) := of_decide_eq_true za_; have q401 : x16_1 < (l0.length : Int) := of_decide_eq_true za_; obtain ⟨ad401, e401, hx401_0⟩ := Kd.at_int HR0.out x16_1 p401 q401
              cases e401
              (try (replace hx401_0 := q3h_ HB.out hx401_0)); replace p401 := eq_true p401; replace q401 := eq_true q401; obtain ⟨Ao17, co17, eo17⟩ := Kd.R_slice HO_5.out; subst eo17; have p402 : 0 ≤ ((rd l0 x16_1) : Int) := of_decide_eq_true za_; have q402 : (rd l0 x16_1) < (x5_1.length : Int) := of_decide_eq_true za_; obtain ⟨ad402, e402, hx402_0⟩ := Kd.at_bool (Kd.R_reads' HO_5.out).2.2 (rd l0 x16_1) p402 q402; (try rw [← Nbq15.out] at hx402_0)
              cases e402
              replace p402 := eq_true p402; replace q402 := eq_true q402
              go_wp2
              go_ret
              exact ⟨zh_, zb_⟩
             ·replace c16 := Bool.eq_false_iff.mpr c16
              subst c16; have H1 : (impl_isOrder.l0 k1 a1 (x5_1.set ((rd l0 x16_1) : Int).toNat true) l0 (l0.length : Int) (wrap64 (x16_1 + 1))) = some r := by rw [if_neg (show ¬ (false = true) by decide)] at H; exact H
              clear H; have H := H1; clear H1; obtain ⟨y403, hy403⟩ : ∃ y_ : List Bool, y_ = (x5_1.set ((rd l0 x16_1) : Int).toNat true) := ⟨_, rfl⟩; replace H : (impl_isOrder.l0 k1 a1 y403 l0 (l0.length : Int) (wrap64 (x16_1 + 1))) = some r := q3y_ hy403 H
              have Ny403 := aM hy403; clear hy403; have H' := aM H; clear H; have p401 : 0 ≤ (x16_1 : Int) := of_decide_eq_true za_; have q401 : x16_1 < (l0.length : Int) := of_decide_eq_true za_; obtain ⟨ad401, e401, hx401_0⟩ := Kd.at_int HR0.out x16_1 p401 q401
              cases e401
              (try (replace hx401_0 := q3h_ HB.out hx401_0)); replace p401 := eq_true p401; replace q401 := eq_true q401; obtain ⟨Ao19, co19, eo19⟩ := Kd.R_slice HO_5.out; subst eo19; have p402 : 0 ≤ ((rd l0 x16_1) : Int) := of_decide_eq_true za_; have q402 : (rd l0 x16_1) < (x5_1.length : Int) := of_decide_eq_true za_; obtain ⟨ad402, e402, hx402_0⟩ := Kd.at_bool (Kd.R_reads' HO_5.out).2.2 (rd l0 x16_1) p402 q402; (try rw [← Nbq15.out] at hx402_0)
              cases e402
              replace p402 := eq_true p402; replace q402 := eq_true q402; have p18 : 0 ≤ ((rd l0 x16_1) : Int) := of_decide_eq_true za_; have q18 : ((rd l0 x16_1) : Int) < ((x5_1.length : Int) : Int) := of_decide_eq_true za_; obtain ⟨go18, co18, eo18, gb18, gl18, cl18, HG18⟩ := Kd.R_form HO_5.out (by omega); (first | cases eo18 | (injection eo18 with ea_ en_ ec_; (first | subst ea_ | (injection ea_ with ea_; subst ea_)); subst ec_; clear en_)); have GB18 := aM gb18; have GG18 := aM HG18; clear gb18 gl18 HG18; (first | simp only [add_plain] at hx402_0 | skip); obtain ⟨hx18_0, hf18_0⟩ := Kd.R_celln false HO_5.out ((rd l0 x16_1) : Int) p18 q18; replace p18 := eq_true p18; replace q18 := eq_true q18; have HP20 := Kd.R_putg HO_5.out ((rd l0 x16_1) : Int) true
              go_wp2_with (first | ((with_reducible refine gate_store (t := 4) (p := 35) rfl ?_); refine store_event (t := 4) (p := 35) (v := ?vo_w21) (w1 := (wr.setCell ⟨go18, ((rd l0 x16_1) : Int).toNat, none⟩ (.bool true))) ?hg ?ho ?hn ?hr ?_; (case ho => rfl); (case hg => rfl); (case hn => rfl); (case hr => exact zd_); intro w21 hw; have hg : wr.grownBy w21 (some go18) := (by rw [hw]; exact HP20.2); have hp_ : Kd.R Kd.bool 4 w21 w.heap.size (fun _ => True) (.slice (some ⟨go18, 0, none⟩) x5_1.length co19) y403 := (by rw [hw, Ny403.out]; exact HP20.1); clear HP20; have n_ := z (hp_) <| z1 ((by rw [hw]; exact below_set (HB.out) GB18.out : Below w.heap.size w w21)); clear HO_5 HB; obtain ⟨HO_5, HB⟩ := n_; clear hg hw hp_))
              go_roundg k1
              case measure => have := HK1.out; omega
              case rel => exact ⟨(y403), (wrap64 (x16_1 + 1)), zc_, H', ⟨zbe_⟩, ⟨zr HO_5.out⟩, ⟨zb_⟩⟩
            ·rw [if_neg c14] at H
             exact q3n_ H
           ·rw [if_neg c13] at H
            exact q3n_ H
        ·rw [if_neg c10] at H
         exact q3n_ H
       ·rw [if_neg c9] at H
        exact q3n_ H
      ·rw [if_neg c8] at H
       have c8b0 := decide_eq_false c8; clear c8; obtain rfl := Option.some.inj H
       go_wp2
       go_ret
       exact ⟨zh_, zb_⟩
   ·rw [if_neg c5] at H
    exact q3n_ H
  ·rw [if_neg c4] at H
   exact q3n_ H
 ·rw [if_neg c3] at H
  have c3b0 := beq_eq_false_iff_ne.mpr c3; have c3b1 := bne_iff_ne.mpr c3; obtain rfl := Option.some.inj H
  go_enter Try.func79, Try.ntmps79
  go_wp2
  go_ret
  exact ⟨zh_, zb_⟩
end Go.Proofs.Ytlnhpkjioppbiaa.QFnLevels
