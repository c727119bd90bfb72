/- Functions of FnLeastSums, each as a Lean function, with the proof that the Go code comes to its answers. -/
import Derived.Test.YtbkighlfgaifeaaSFnLeastSumsx0
import Derived.Test.YtbkighlfgaifeaaSFnLeastSumsx7
import Derived.Test.YtbkighlfgaifeaaSFnLeastSumsx8
namespace Go.Proofs.Ytbkighlfgaifeaa.QFnLeastSums
open Go.RowKit Go.Proofs.YtbkighlfgaifeaaW.PrintWords Go.Proofs.YtbkighlfgaifeaaW.PrintLast Go.Proofs.YtbkighlfgaifeaaW.PrintMore
open Go.Proofs.YtbkighlfgaifeaaW.PrintWords renaming pw_below_drewN → pN, below_drew1 → p1, below_alloc → pA
open Go.Proofs.YtbkighlfgaifeaaW.PrintWords.Kd renaming R_alloc → kA, R_drewN → kN, R_drew → kD, Q_alloc → qA, Q_drewN → qN, Q_drew → qD, C_alloc → cA, C_drewN → cN, C_drew → cD
open Go.Proofs.YtbkighlfgaifeaaW.PrintWords.Aside0 renaming mk → aM
open List renaming setIfInBounds_toArray → sI, set_cons_zero → s0, set_cons_succ → sS, map_toArray → mT, length_take → lT, length_drop → lD, map_cons → mC, map_nil → mN
open Option renaming bind_eq_some_iff → oB
attribute [local go_sem] max2_int min2_int max_two min_two max_three min_three max_four min_four
set_option linter.unusedVariables false
set_option linter.unusedSimpArgs false
def impl_leastSums.leaf (goal : Int) (list : List (S72)) (set : Int) (st : List (S72) × Int) : List (S72) × Int := if set = goal then ((if st.2 = 0 then list else st.1), wrap64 (st.2 + 1)) else st
def impl_leastSums.e (L : List (S72) → Int → Int → List (S72) × Int → Int → Option (List (S72) × Int)) (goal : Int) (list : List (S72)) (set frm left : Int) (st : List (S72) × Int) : Option (List (S72) × Int) :=
 if left = 0 then some (impl_leastSums.leaf goal list set st) else L list set left st frm
def impl_leastSums.l : Nat → Int → List (S72) → List Int → List Int → List (S72) → Int → Int → List (S72) × Int → Int → Option (List (S72) × Int)
 | 0, _, _, _, _, _, _, _, _, _ => none
 | k + 1, goal, ps, cv, bh, list, set, left, st, i =>
  if wrap64 (i + left) ≤ (ps.length : Int) then (if 0 ≤ i then (if i < (bh.length : Int) then (if Go.bits .or .i64 set (rd bh i) = goal then
   (if i < (ps.length : Int) then (if i < (cv.length : Int) then (if list.length ≤ 1000 then
    ((impl_leastSums.e (fun a b c d f => impl_leastSums.l k goal ps cv bh a b c d f) goal (list ++ [rd_T72 ps i]) (Go.bits .or .i64 set (rd cv i)) (wrap64 (i + 1)) (wrap64 (left - 1)) st).bind fun st1 => impl_leastSums.l k goal ps cv bh list set left st1 (wrap64 (i + 1)))
    else none) else none) else none)
   else some st) else none) else none) else some st
theorem impl_leastSums.mono_l : ∀ k goal ps cv bh list set left st i, LeO (impl_leastSums.l k goal ps cv bh list set left st i) (impl_leastSums.l (k + 1) goal ps cv bh list set left st i)
 | 0, _, _, _, _, _, _, _, _, _ => fun r h => by simp [impl_leastSums.l] at h
 | k + 1, goal, ps, cv, bh, list, set, left, st, i => by
  have ih := impl_leastSums.mono_l k
  unfold impl_leastSums.l impl_leastSums.e
  exact LeO.ite (LeO.ite (LeO.ite (LeO.ite (LeO.ite (LeO.ite (LeO.ite (LeO.bind (LeO.ite (LeO.refl _) (ih _ _ _ _ _ _ _ _ _)) (fun _ => ih _ _ _ _ _ _ _ _ _)) (LeO.refl _)) (LeO.refl _)) (LeO.refl _)) (LeO.refl _)) (LeO.refl _)) (LeO.refl _)) (LeO.refl _)
open Go.Proofs.Ytbkighlfgaifeaa.Sep in
def impl_leastSums.items (gg gn gf gp gb gx gc : Nat) (vl vf vp vb vc : Value) (list : List (S72)) (st : List (S72) × Int) (goal : Int) (ps : List (S72)) (bh cv : List Int) (F : List Sep.Item) : List Sep.Item :=
 Item.row k72 72 vl list :: Item.box gn 3 #[.int .i64 st.2] :: Item.box gf 68 #[vf] :: Item.row k72 72 vf st.1 :: Item.box gg 3 #[.int .i64 goal] :: Item.box gp 68 #[vp] :: Item.row k72 72 vp ps :: Item.box gb 24 #[vb] :: Item.row (Kd.int .i64) 3 vb bh :: Item.box gc 24 #[vc] :: Item.row (Kd.int .i64) 3 vc cv :: Item.box gx 167 #[.func (.func 187) #[] #[.pointer (some ⟨gg, 0, none⟩), .pointer (some ⟨gn, 0, none⟩), .pointer (some ⟨gf, 0, none⟩), .pointer (some ⟨gp, 0, none⟩), .pointer (some ⟨gb, 0, none⟩), .pointer (some ⟨gx, 0, none⟩), .pointer (some ⟨gc, 0, none⟩)]] :: F
theorem impl_leastSums.atT {w : World} {ad : Addr} {n : Nat} {xs : List (S72)} (h : Kd.C k72 w (some ad) n xs) (i : Int) (h0 : 0 ≤ i) (h1 : i < n) : w.cell? (ad.add (i.toNat * 2)) = some (.int .i64 (rd_T72 xs i).f0) ∧ w.cell? ⟨(ad.add (i.toNat * 2)).block, (ad.add (i.toNat * 2)).off + 1, none⟩ = some (.int .i64 (rd_T72 xs i).f1) := by
 obtain ⟨ad', e, h2⟩ := at_T72 h i h0 h1
 cases e
 exact h2
theorem impl_leastSums.atI {w : World} {ad : Addr} {n : Nat} {xs : List Int} (h : Kd.C (Kd.int .i64) w (some ad) n xs) (i : Int) (h0 : 0 ≤ i) (h1 : i < n) : w.cell? (ad.add i.toNat) = some (.int .i64 (rd xs i)) := by
 obtain ⟨ad', e, h2⟩ := Kd.at_int h i h0 h1
 cases e
 exact h2
open Go.Proofs.Ytbkighlfgaifeaa.Sep in
set_option maxHeartbeats 16000000 in
set_option maxRecDepth 100000 in
theorem impl_leastSums.ext (goal : Int) (ps : List (S72)) (bh cv : List Int) (w0 : World) (gg gn gf gp gb gx gc : Nat) (vp vb vc : Value) :
  ∀ (k : Nat) (list : List (S72)) (set frm left : Int) (st : List (S72) × Int) (w : World) (vl vf : Value) (F : List Sep.Item) (r : List (S72) × Int) (_h : Own w0 w (impl_leastSums.items gg gn gf gp gb gx gc vl vf vp vb vc list st goal ps bh cv F))
   (_hl : list.length ≤ 1001) (_hr : impl_leastSums.e (fun a b c d f => impl_leastSums.l k goal ps cv bh a b c d f) goal list set frm left st = some r),
   Calls Try.prog 187 #[vl, .int .i64 set, .int .i64 frm, .int .i64 left, .pointer (some ⟨gg, 0, none⟩), .pointer (some ⟨gn, 0, none⟩), .pointer (some ⟨gf, 0, none⟩), .pointer (some ⟨gp, 0, none⟩), .pointer (some ⟨gb, 0, none⟩), .pointer (some ⟨gx, 0, none⟩), .pointer (some ⟨gc, 0, none⟩)] w fun e w' => e = .returned (.tuple #[]) ∧ ∃ vf', Own w0 w' (impl_leastSums.items gg gn gf gp gb gx gc vl vf' vp vb vc list r goal ps bh cv F) := by
 intro k
 induction k using Nat.strongRecOn with
 | _ k ih =>
  intro list set frm left st w vl vf F r h hl hr
  have IH := aM ih; clear ih; obtain ⟨Al, cl, rfl⟩ := h.row_slice 0 rfl; obtain ⟨Af, cf, rfl⟩ := h.row_slice 3 rfl; obtain ⟨Ap, cp, rfl⟩ := h.row_slice 6 rfl; obtain ⟨Ab, cb, rfl⟩ := h.row_slice 8 rfl; obtain ⟨Ac, cc, rfl⟩ := h.row_slice 10 rfl; have HO := aM h; have HL := aM hl; clear h hl
  unfold impl_leastSums.e at hr
  by_cases c0 : left = 0
  ·rw [if_pos c0] at hr
   subst c0; obtain rfl := Option.some.inj hr; clear hr; have zg : w.cell? ⟨gg, 0, none⟩ = some (.int .i64 goal) := HO.out.cell 4 rfl 0 rfl; have zn : w.cell? ⟨gn, 0, none⟩ = some (.int .i64 st.2) := HO.out.cell 1 rfl 0 rfl
   by_cases c1 : set = goal
   ·have c1b := beq_iff_eq.mpr c1
    by_cases c2 : st.2 = 0
    ·have c2b := beq_iff_eq.mpr c2
     have e : impl_leastSums.leaf goal list set st = (list, 1) := by unfold impl_leastSums.leaf; rw [if_pos c1, if_pos c2, c2]; simp [wrap64]
     rw [e]
     go_enter Try.func187, Try.ntmps187
     go_wp2_with (first | ((with_reducible refine gate_dst (N := 23) rfl ?_); refine Sep.own_lit0 k72 HO.out 72 ?hg (N := 23) ?hd ?hr ?_; (case hd => rfl); (case hg => rfl); (case hr => exact zc_); intro v_ w1 ho _; have HO1 := aM ho; clear ho) | ((with_reducible refine gate_dst (N := 25) rfl ?_); refine Sep.own_append_flat k72 (fun h => by rw [k72_open h]; exact k72_mkM _ _ _ _) HO1.out 0 v_ [] 72 rfl rfl (.tmp 23) (.tmp 24) 68 (.agg #[.int .i64 0, .int .i64 0]) 16 rfl Try.underlying68 info72 rfl (by decide) (by omega) list Al list.length cl rfl rfl (HO1.out.row_reads 1 rfl).2.2 zgd_ ?_; intro v2 w2 ho; obtain ⟨A2, c2_, rfl⟩ := ho.row_slice 0 rfl; have HO2 := aM ho; clear ho) | ((with_reducible refine gate_store (t := 68) (p := 6) (v := .tmp 25) rfl ?_); refine Sep.own_store HO2.out 3 gf 68 _ #[.slice A2 ([] ++ list : List (S72)).length c2_] rfl rfl rfl 68 (.tmp 6) (.tmp 25) rfl rfl _ rfl rfl rfl (by kernel_rfl) (by simp [Value.oneCell']) ?_; intro w3 ho; have HO3 := aM ho; clear ho; have HO4 := aM (((HO3.out.into 3 (by simp [impl_leastSums.items])).front 4 rfl).tail); have zn3 : w3.cell? ⟨gn, 0, none⟩ = some (.int .i64 st.2) := HO4.out.cell 1 rfl 0 rfl) | ((with_reducible refine gate_store (t := 3) (p := 5) (v := .tmp 27) rfl ?_); refine Sep.own_store HO4.out 1 gn 3 _ #[.int .i64 1] rfl rfl rfl 3 (.tmp 5) (.tmp 27) rfl rfl (.int .i64 1) rfl rfl rfl (by kernel_rfl) (by simp [Value.oneCell']) ?_; intro w5 ho; have HO5 := aM ho; clear ho))
     (try simp only [Exit.inBlock, Exit.then])
     refine bodyPost_ret (results_none rfl _ _ _) rfl ?_
     refine ⟨rfl, .slice A2 ([] ++ list : List (S72)).length c2_, ?_⟩
     exact HO5.out
    ·have c2b := beq_eq_false_iff_ne.mpr c2
     have e : impl_leastSums.leaf goal list set st = (st.1, wrap64 (st.2 + 1)) := by unfold impl_leastSums.leaf; rw [if_pos c1, if_neg c2]
     rw [e]
     go_enter Try.func187, Try.ntmps187
     go_wp2_with (first | ((with_reducible refine gate_store (t := 3) (p := 5) (v := .tmp 27) rfl ?_); refine Sep.own_store HO.out 1 gn 3 _ #[.int .i64 (wrap64 (st.2 + 1))] rfl rfl rfl 3 (.tmp 5) (.tmp 27) rfl rfl (.int .i64 (wrap64 (st.2 + 1))) rfl rfl rfl (by kernel_rfl) (by simp [Value.oneCell']) ?_; intro w5 ho; have HO5 := aM ho; clear ho))
     (try simp only [Exit.inBlock, Exit.then])
     refine bodyPost_ret (results_none rfl _ _ _) rfl ?_
     refine ⟨rfl, .slice Af st.1.length cf, ?_⟩
     exact HO5.out
   ·have c1b := beq_eq_false_iff_ne.mpr c1
    have e : impl_leastSums.leaf goal list set st = st := by unfold impl_leastSums.leaf; rw [if_neg c1]
    rw [e]
    go_enter Try.func187, Try.ntmps187
    go_wp2
    (try simp only [Exit.inBlock, Exit.then])
    refine bodyPost_ret (results_none rfl _ _ _) rfl ?_
    refine ⟨rfl, .slice Af st.1.length cf, ?_⟩
    exact HO.out
  ·rw [if_neg c0] at hr
   have HR := aM hr; clear hr; have c0b := beq_eq_false_iff_ne.mpr c0; clear c0
   go_enter Try.func187, Try.ntmps187
   go_wp2
   go_loopg [15] k (fun kq v15 w' => ∃ (st1 : List (S72) × Int) (vf1 : Value) (i1 : Int), v15 = .int .i64 i1 ∧ Aside0 (impl_leastSums.l kq goal ps cv bh list set left st1 i1 = some r) ∧ Aside0 (kq ≤ k) ∧ Aside0 (Own w0 w' (impl_leastSums.items gg gn gf gp gb gx gc (.slice Al list.length cl) vf1 (.slice Ap ps.length cp) (.slice Ab bh.length cb) (.slice Ac cv.length cc) list st1 goal ps bh cv F)))
   case atStart => exact ⟨st, _, frm, zb_, HR, ⟨Nat.le_refl _⟩, HO⟩
   case round =>
    clear HR HO; obtain ⟨st1, vf1, i1, rfl, HA, HK1, HO⟩ := hrel
    cases gk with
    | zero => exact absurd HA.out (by simp [impl_leastSums.l])
    | succ k1 =>
     have H := HA.out; clear HA
     simp only [impl_leastSums.l] at H
     by_cases c1 : wrap64 (i1 + left) ≤ (ps.length : Int)
     ·rw [if_pos c1] at H
      have c1b := decide_eq_true c1; clear c1
      by_cases c2 : 0 ≤ i1
      ·rw [if_pos c2] at H
       by_cases c3 : i1 < (bh.length : Int)
       ·rw [if_pos c3] at H
        obtain ⟨adb, eb, _⟩ := Kd.at_int (HO.out.row_reads 8 rfl).2.2 i1 c2 c3
        cases eb
        have p1 : (0 ≤ i1) = True := eq_true c2; have q1 : (i1 < (bh.length : Int)) = True := eq_true c3
        by_cases c4 : Go.bits .or .i64 set (rd bh i1) = goal
        ·rw [if_pos c4] at H
         have c4b := beq_iff_eq.mpr c4
         by_cases c5 : i1 < (ps.length : Int)
         ·rw [if_pos c5] at H
          by_cases c6 : i1 < (cv.length : Int)
          ·rw [if_pos c6] at H
           by_cases c7 : list.length ≤ 1000
           ·rw [if_pos c7] at H
            obtain ⟨st2, HA, H1⟩ := oB.mp H; clear H; have H := H1; clear H1; have HA2 := aM HA; clear HA; have HH := aM H; clear H; obtain ⟨adp, ep, _⟩ := at_T72 (HO.out.row_reads 6 rfl).2.2 i1 c2 c5
            cases ep
            obtain ⟨adc, ec, _⟩ := Kd.at_int (HO.out.row_reads 10 rfl).2.2 i1 c2 c6
            cases ec
            have q2 : (i1 < (ps.length : Int)) = True := eq_true c5; have q3 : (i1 < (cv.length : Int)) = True := eq_true c6; (try go_wp2); have HOd := aM (HO.out.drew); clear HO; have HO := HOd; clear HOd
            refine start_ (n := 16) (S := fun w' => w'.cell? ⟨gp, 0, none⟩ = some (.slice (some adp) ps.length cp) ∧ w'.cell? ⟨gb, 0, none⟩ = some (.slice (some adb) bh.length cb) ∧ w'.cell? (adb.add i1.toNat) = some (.int .i64 (rd bh i1)) ∧ w'.cell? ⟨gg, 0, none⟩ = some (.int .i64 goal)) (ds := []) #[fi,fi,fi,fi,fi,fi,fi,fi,fi,fi,fi,fi,fi,fi,fi,fi] (by kernel_rfl) rfl rfl ⟨HO.out.cell 5 rfl 0 rfl, HO.out.cell 7 rfl 0 rfl, impl_leastSums.atI (HO.out.row_reads 8 rfl).2.2 i1 c2 c3, HO.out.cell 4 rfl 0 rfl⟩ (fun hHeld => ?_)
            generalize wr.drew = wd at HO hHeld ⊢
            refine pure_ (i := 0) (N := some 29) (v := ?_) (a' := ?_) #[ti,fi,fi,fi,fi,fi,fi,fi,fi,fi,fi,fi,fi,fi,fi,fi] rfl rfl (by kernel_rfl) (fun _ _ _ h => h) (Or.inl ⟨by rfl, ?_⟩) ?_ ?_; rotate_left; (· (intro w'; go_simp; with_reducible rfl)); rotate_left; (· (simp only [Act.put, putAll, sI, s0, sS, i64_w, i32_w]; rfl))
            refine pure_ (i := 1) (N := some 30) (v := ?_) (a' := ?_) #[ti,ti,fi,fi,fi,fi,fi,fi,fi,fi,fi,fi,fi,fi,fi,fi] rfl rfl (by kernel_rfl) (fun _ _ _ h => h) (Or.inl ⟨by rfl, ?_⟩) ?_ ?_; rotate_left; (· (intro w'; go_simp; with_reducible rfl)); rotate_left; (· (simp only [Act.put, putAll, sI, s0, sS, i64_w, i32_w]; rfl))
            refine pure_ (i := 2) (N := some 31) (v := ?_) (a' := ?_) #[ti,ti,ti,fi,fi,fi,fi,fi,fi,fi,fi,fi,fi,fi,fi,fi] rfl rfl (by kernel_rfl) (fun _ _ _ h => h) (Or.inl ⟨by rfl, ?_⟩) ?_ ?_; rotate_left; (· (intro w'; go_simp; with_reducible rfl)); rotate_left; (· (simp only [Act.put, putAll, sI, s0, sS, i64_w, i32_w]; rfl))
            refine take_ (i := 3) (N := some 32) (v := ?_) (a' := ?_) #[ti,ti,ti,ti,fi,fi,fi,fi,fi,fi,fi,fi,fi,fi,fi,fi] rfl rfl (by kernel_rfl) (fun _ _ _ h => h) (Or.inl ⟨by rfl, ?_⟩) hHeld ?_ ?_
            rotate_left
            ·rintro w' ⟨s0, s1, s2, s3⟩
             go_simp
             with_reducible rfl
            rotate_left
            ·simp only [Act.put, putAll, sI, s0, sS, i64_w, i32_w]
             rfl
            refine pure_ (i := 4) (N := some 33) (v := ?_) (a' := ?_) #[ti,ti,ti,ti,ti,fi,fi,fi,fi,fi,fi,fi,fi,fi,fi,fi] rfl rfl (by kernel_rfl) (fun _ _ _ h => h) (Or.inl ⟨by rfl, ?_⟩) ?_ ?_; rotate_left; (· (intro w'; go_simp; with_reducible rfl)); rotate_left; (· (simp only [Act.put, putAll, sI, s0, sS, i64_w, i32_w]; rfl))
            refine pure_ (i := 5) (N := some 34) (v := ?_) (a' := ?_) #[ti,ti,ti,ti,ti,ti,fi,fi,fi,fi,fi,fi,fi,fi,fi,fi] rfl rfl (by kernel_rfl) (fun _ _ _ h => h) (Or.inl ⟨by rfl, ?_⟩) ?_ ?_; rotate_left; (· (intro w'; go_simp; with_reducible rfl)); rotate_left; (· (simp only [Act.put, putAll, sI, s0, sS, i64_w, i32_w]; rfl))
            refine pure_ (i := 6) (N := some 35) (v := ?_) (a' := ?_) #[ti,ti,ti,ti,ti,ti,ti,fi,fi,fi,fi,fi,fi,fi,fi,fi] rfl rfl (by kernel_rfl) (fun _ _ _ h => h) (Or.inl ⟨by rfl, ?_⟩) ?_ ?_; rotate_left; (· (intro w'; go_simp; with_reducible rfl)); rotate_left; (· (simp only [Act.put, putAll, sI, s0, sS, i64_w, i32_w]; rfl))
            refine pure_ (i := 7) (N := some 36) (v := ?_) (a' := ?_) #[ti,ti,ti,ti,ti,ti,ti,ti,fi,fi,fi,fi,fi,fi,fi,fi] rfl rfl (by kernel_rfl) (fun _ _ _ h => h) (Or.inl ⟨by rfl, ?_⟩) ?_ ?_; rotate_left; (· (intro w'; go_simp; with_reducible rfl)); rotate_left; (· (simp only [Act.put, putAll, sI, s0, sS, i64_w, i32_w]; rfl))
            refine take_ (i := 8) (N := some 37) (v := ?_) (a' := ?_) #[ti,ti,ti,ti,ti,ti,ti,ti,ti,fi,fi,fi,fi,fi,fi,fi] rfl rfl (by kernel_rfl) (fun _ _ _ h => h) (Or.inl ⟨by rfl, ?_⟩) hHeld ?_ ?_
            rotate_left
            ·rintro w' ⟨s0, s1, s2, s3⟩
             go_simp
             with_reducible rfl
            rotate_left
            ·simp only [Act.put, putAll, sI, s0, sS, i64_w, i32_w]
             rfl
            refine pure_ (i := 9) (N := some 38) (v := ?_) (a' := ?_) #[ti,ti,ti,ti,ti,ti,ti,ti,ti,ti,fi,fi,fi,fi,fi,fi] rfl rfl (by kernel_rfl) (fun _ _ _ h => h) (Or.inl ⟨by rfl, ?_⟩) ?_ ?_; rotate_left; (· (intro w'; go_simp; with_reducible rfl)); rotate_left; (· (simp only [Act.put, putAll, sI, s0, sS, i64_w, i32_w]; rfl))
            refine pure_ (i := 10) (N := some 39) (v := ?_) (a' := ?_) #[ti,ti,ti,ti,ti,ti,ti,ti,ti,ti,ti,fi,fi,fi,fi,fi] rfl rfl (by kernel_rfl) (fun _ _ _ h => h) (Or.inl ⟨by rfl, ?_⟩) ?_ ?_; rotate_left; (· (intro w'; go_simp; with_reducible rfl)); rotate_left; (· (simp only [Act.put, putAll, sI, s0, sS, i64_w, i32_w]; rfl))
            refine take_ (i := 11) (N := some 40) (v := ?_) (a' := ?_) #[ti,ti,ti,ti,ti,ti,ti,ti,ti,ti,ti,ti,fi,fi,fi,fi] rfl rfl (by kernel_rfl) (fun _ _ _ h => h) (Or.inl ⟨by rfl, ?_⟩) hHeld ?_ ?_
            rotate_left
            ·rintro w' ⟨s0, s1, s2, s3⟩
             go_simp
             with_reducible rfl
            rotate_left
            ·simp only [Act.put, putAll, sI, s0, sS, i64_w, i32_w]
             rfl
            refine pure_ (i := 12) (N := some 41) (v := ?_) (a' := ?_) #[ti,ti,ti,ti,ti,ti,ti,ti,ti,ti,ti,ti,ti,fi,fi,fi] rfl rfl (by kernel_rfl) (fun _ _ _ h => h) (Or.inl ⟨by rfl, ?_⟩) ?_ ?_; rotate_left; (· (intro w'; go_simp; with_reducible rfl)); rotate_left; (· (simp only [Act.put, putAll, sI, s0, sS, i64_w, i32_w]; rfl))
            refine take_ (i := 13) (N := some 42) (v := ?_) (a' := ?_) #[ti,ti,ti,ti,ti,ti,ti,ti,ti,ti,ti,ti,ti,ti,fi,fi] rfl rfl (by kernel_rfl) (fun _ _ _ h => h) (Or.inl ⟨by rfl, ?_⟩) hHeld ?_ ?_
            rotate_left
            ·rintro w' ⟨s0, s1, s2, s3⟩
             go_simp
             with_reducible rfl
            rotate_left
            ·simp only [Act.put, putAll, sI, s0, sS, i64_w, i32_w]
             rfl
            refine pure_ (i := 14) (N := some 43) (v := ?_) (a' := ?_) #[ti,ti,ti,ti,ti,ti,ti,ti,ti,ti,ti,ti,ti,ti,ti,fi] rfl rfl (by kernel_rfl) (fun _ _ _ h => h) (Or.inl ⟨by rfl, ?_⟩) ?_ ?_; rotate_left; (· (intro w'; go_simp; with_reducible rfl)); rotate_left; (· (simp only [Act.put, putAll, sI, s0, sS, i64_w, i32_w]; rfl))
            refine pure_ (i := 15) (N := some 44) (v := ?_) (a' := ?_) #[ti,ti,ti,ti,ti,ti,ti,ti,ti,ti,ti,ti,ti,ti,ti,ti] rfl rfl (by kernel_rfl) (fun _ _ _ h => h) (Or.inl ⟨by rfl, ?_⟩) ?_ ?_; rotate_left; (· (intro w'; go_simp; with_reducible rfl)); rotate_left; (· (simp only [Act.put, putAll, sI, s0, sS, i64_w, i32_w]; rfl))
            refine done_ (by kernel_rfl) ?_
            go_wp2
            have HOd := aM (HO.out.drew); clear HO; have HO := HOd; clear HOd
            refine start_ (n := 19) (S := fun w' => w'.cell? ⟨gx, 0, none⟩ = some (.func (.func 187) #[] #[.pointer (some ⟨gg, 0, none⟩), .pointer (some ⟨gn, 0, none⟩), .pointer (some ⟨gf, 0, none⟩), .pointer (some ⟨gp, 0, none⟩), .pointer (some ⟨gb, 0, none⟩), .pointer (some ⟨gx, 0, none⟩), .pointer (some ⟨gc, 0, none⟩)]) ∧ w'.cell? ⟨gp, 0, none⟩ = some (.slice (some adp) ps.length cp) ∧ w'.cell? (adp.add (i1.toNat * 2)) = some (.int .i64 (rd_T72 ps i1).f0) ∧ w'.cell? ⟨(adp.add (i1.toNat * 2)).block, (adp.add (i1.toNat * 2)).off + 1, none⟩ = some (.int .i64 (rd_T72 ps i1).f1) ∧ w'.cell? ⟨gc, 0, none⟩ = some (.slice (some adc) cv.length cc) ∧ w'.cell? (adc.add i1.toNat) = some (.int .i64 (rd cv i1))) (ds := []) #[fi,fi,fi,fi,fi,fi,fi,fi,fi,fi,fi,fi,fi,fi,fi,fi,fi,fi,fi] (by kernel_rfl) rfl rfl ⟨HO.out.cell 11 rfl 0 rfl, HO.out.cell 5 rfl 0 rfl, (impl_leastSums.atT (HO.out.row_reads 6 rfl).2.2 i1 c2 c5).1, (impl_leastSums.atT (HO.out.row_reads 6 rfl).2.2 i1 c2 c5).2, HO.out.cell 9 rfl 0 rfl, impl_leastSums.atI (HO.out.row_reads 10 rfl).2.2 i1 c2 c6⟩ (fun hHeld => ?_)
            generalize wd.drew = we at HO hHeld ⊢
            refine take_ (i := 0) (N := some 47) (v := ?_) (a' := ?_) #[ti,fi,fi,fi,fi,fi,fi,fi,fi,fi,fi,fi,fi,fi,fi,fi,fi,fi,fi] rfl rfl (by kernel_rfl) (fun _ _ _ h => h) (Or.inl ⟨by rfl, ?_⟩) hHeld ?_ ?_
            rotate_left
            ·rintro w' ⟨s0, s1, s2, s3, s4, s5⟩
             go_simp
             with_reducible rfl
            rotate_left
            ·simp only [Act.put, putAll, sI, s0, sS, i64_w, i32_w]
             rfl
            refine pure_ (i := 1) (N := some 48) (v := ?_) (a' := ?_) #[ti,ti,fi,fi,fi,fi,fi,fi,fi,fi,fi,fi,fi,fi,fi,fi,fi,fi,fi] rfl rfl (by kernel_rfl) (fun _ _ _ h => h) (Or.inl ⟨by rfl, ?_⟩) ?_ ?_; rotate_left; (· (intro w'; go_simp; with_reducible rfl)); rotate_left; (· (simp only [Act.put, putAll, sI, s0, sS, i64_w, i32_w]; rfl))
            refine take_ (i := 2) (N := some 49) (v := ?_) (a' := ?_) #[ti,ti,ti,fi,fi,fi,fi,fi,fi,fi,fi,fi,fi,fi,fi,fi,fi,fi,fi] rfl rfl (by kernel_rfl) (fun _ _ _ h => h) (Or.inl ⟨by rfl, ?_⟩) hHeld ?_ ?_
            rotate_left
            ·rintro w' ⟨s0, s1, s2, s3, s4, s5⟩
             go_simp
             with_reducible rfl
            rotate_left
            ·simp only [Act.put, putAll, sI, s0, sS, i64_w, i32_w]
             rfl
            refine pure_ (i := 3) (N := some 50) (v := ?_) (a' := ?_) #[ti,ti,ti,ti,fi,fi,fi,fi,fi,fi,fi,fi,fi,fi,fi,fi,fi,fi,fi] rfl rfl (by kernel_rfl) (fun _ _ _ h => h) (Or.inl ⟨by rfl, ?_⟩) ?_ ?_; rotate_left; (· (intro w'; go_simp; with_reducible rfl)); rotate_left; (· (simp only [Act.put, putAll, sI, s0, sS, i64_w, i32_w]; rfl))
            refine pure_ (i := 4) (N := some 51) (v := ?_) (a' := ?_) #[ti,ti,ti,ti,ti,fi,fi,fi,fi,fi,fi,fi,fi,fi,fi,fi,fi,fi,fi] rfl rfl (by kernel_rfl) (fun _ _ _ h => h) (Or.inl ⟨by rfl, ?_⟩) ?_ ?_; rotate_left; (· (intro w'; go_simp; with_reducible rfl)); rotate_left; (· (simp only [Act.put, putAll, sI, s0, sS, i64_w, i32_w]; rfl))
            refine take_ (i := 5) (N := some 52) (v := ?_) (a' := ?_) #[ti,ti,ti,ti,ti,ti,fi,fi,fi,fi,fi,fi,fi,fi,fi,fi,fi,fi,fi] rfl rfl (by kernel_rfl) (fun _ _ _ h => h) (Or.inl ⟨by rfl, ?_⟩) hHeld ?_ ?_
            rotate_left
            ·rintro w' ⟨s0, s1, s2, s3, s4, s5⟩
             go_simp
             with_reducible rfl
            rotate_left
            ·simp only [Act.put, putAll, sI, s0, sS, i64_w, i32_w]
             rfl
            refine pure_ (i := 8) (N := some 55) (v := ?_) (a' := ?_) #[ti,ti,ti,ti,ti,ti,fi,fi,ti,fi,fi,fi,fi,fi,fi,fi,fi,fi,fi] rfl rfl (by kernel_rfl) (fun _ _ _ h => h) (Or.inl ⟨by rfl, ?_⟩) ?_ ?_; rotate_left; (· (intro w'; go_simp; with_reducible rfl)); rotate_left; (· (simp only [Act.put, putAll, sI, s0, sS, i64_w, i32_w]; rfl))
            refine take_ (i := 9) (N := some 56) (v := ?_) (a' := ?_) #[ti,ti,ti,ti,ti,ti,fi,fi,ti,ti,fi,fi,fi,fi,fi,fi,fi,fi,fi] rfl rfl (by kernel_rfl) (fun _ _ _ h => h) (Or.inl ⟨by rfl, ?_⟩) hHeld ?_ ?_
            rotate_left
            ·rintro w' ⟨s0, s1, s2, s3, s4, s5⟩
             go_simp
             with_reducible rfl
            rotate_left
            ·simp only [Act.put, putAll, sI, s0, sS, i64_w, i32_w]
             rfl
            refine pure_ (i := 10) (N := some 57) (v := ?_) (a' := ?_) #[ti,ti,ti,ti,ti,ti,fi,fi,ti,ti,ti,fi,fi,fi,fi,fi,fi,fi,fi] rfl rfl (by kernel_rfl) (fun _ _ _ h => h) (Or.inl ⟨by rfl, ?_⟩) ?_ ?_; rotate_left; (· (intro w'; go_simp; with_reducible rfl)); rotate_left; (· (simp only [Act.put, putAll, sI, s0, sS, i64_w, i32_w]; rfl))
            refine pure_ (i := 11) (N := some 58) (v := ?_) (a' := ?_) #[ti,ti,ti,ti,ti,ti,fi,fi,ti,ti,ti,ti,fi,fi,fi,fi,fi,fi,fi] rfl rfl (by kernel_rfl) (fun _ _ _ h => h) (Or.inl ⟨by rfl, ?_⟩) ?_ ?_; rotate_left; (· (intro w'; go_simp; with_reducible rfl)); rotate_left; (· (simp only [Act.put, putAll, sI, s0, sS, i64_w, i32_w]; rfl))
            refine take_ (i := 12) (N := some 59) (v := ?_) (a' := ?_) #[ti,ti,ti,ti,ti,ti,fi,fi,ti,ti,ti,ti,ti,fi,fi,fi,fi,fi,fi] rfl rfl (by kernel_rfl) (fun _ _ _ h => h) (Or.inl ⟨by rfl, ?_⟩) hHeld ?_ ?_
            rotate_left
            ·rintro w' ⟨s0, s1, s2, s3, s4, s5⟩
             go_simp
             with_reducible rfl
            rotate_left
            ·simp only [Act.put, putAll, sI, s0, sS, i64_w, i32_w]
             rfl
            refine pure_ (i := 13) (N := some 60) (v := ?_) (a' := ?_) #[ti,ti,ti,ti,ti,ti,fi,fi,ti,ti,ti,ti,ti,ti,fi,fi,fi,fi,fi] rfl rfl (by kernel_rfl) (fun _ _ _ h => h) (Or.inl ⟨by rfl, ?_⟩) ?_ ?_; rotate_left; (· (intro w'; go_simp; with_reducible rfl)); rotate_left; (· (simp only [Act.put, putAll, sI, s0, sS, i64_w, i32_w]; rfl))
            refine pure_ (i := 14) (N := some 61) (v := ?_) (a' := ?_) #[ti,ti,ti,ti,ti,ti,fi,fi,ti,ti,ti,ti,ti,ti,ti,fi,fi,fi,fi] rfl rfl (by kernel_rfl) (fun _ _ _ h => h) (Or.inl ⟨by rfl, ?_⟩) ?_ ?_; rotate_left; (· (intro w'; go_simp; with_reducible rfl)); rotate_left; (· (simp only [Act.put, putAll, sI, s0, sS, i64_w, i32_w]; rfl))
            refine pure_ (i := 15) (N := some 62) (v := ?_) (a' := ?_) #[ti,ti,ti,ti,ti,ti,fi,fi,ti,ti,ti,ti,ti,ti,ti,ti,fi,fi,fi] rfl rfl (by kernel_rfl) (fun _ _ _ h => h) (Or.inl ⟨by rfl, ?_⟩) ?_ ?_; rotate_left; (· (intro w'; go_simp; with_reducible rfl)); rotate_left; (· (simp only [Act.put, putAll, sI, s0, sS, i64_w, i32_w]; rfl))
            refine pure_ (i := 16) (N := some 63) (v := ?_) (a' := ?_) #[ti,ti,ti,ti,ti,ti,fi,fi,ti,ti,ti,ti,ti,ti,ti,ti,ti,fi,fi] rfl rfl (by kernel_rfl) (fun _ _ _ h => h) (Or.inl ⟨by rfl, ?_⟩) ?_ ?_; rotate_left; (· (intro w'; go_simp; with_reducible rfl)); rotate_left; (· (simp only [Act.put, putAll, sI, s0, sS, i64_w, i32_w]; rfl))
            refine pure_ (i := 17) (N := some 64) (v := ?_) (a' := ?_) #[ti,ti,ti,ti,ti,ti,fi,fi,ti,ti,ti,ti,ti,ti,ti,ti,ti,ti,fi] rfl rfl (by kernel_rfl) (fun _ _ _ h => h) (Or.inl ⟨by rfl, ?_⟩) ?_ ?_; rotate_left; (· (intro w'; go_simp; with_reducible rfl)); rotate_left; (· (simp only [Act.put, putAll, sI, s0, sS, i64_w, i32_w]; rfl))
            refine one_ (i := 6) (N := some 53) #[ti,ti,ti,ti,ti,ti,ti,fi,ti,ti,ti,ti,ti,ti,ti,ti,ti,ti,fi] rfl rfl (by kernel_rfl) (by decide) (fun K hK => ?_)
            refine value_ (w1 := ?_) (v := ?_) (by rfl) rfl ?_ ?_
            rotate_left 2
            ·go_simp
             constructor
             ·rfl
             ·rfl
            have HOb := aM (HO.out.below (pA (Below.refl _ _) (.cells #[.int .i64 (rd_T72 ps i1).f0, .int .i64 (rd_T72 ps i1).f1] 72)))
            refine hK.out _ _ ⟨HOb.out.cell 11 rfl 0 rfl, HOb.out.cell 5 rfl 0 rfl, (impl_leastSums.atT (HOb.out.row_reads 6 rfl).2.2 i1 c2 c5).1, (impl_leastSums.atT (HOb.out.row_reads 6 rfl).2.2 i1 c2 c5).2, HOb.out.cell 9 rfl 0 rfl, impl_leastSums.atI (HOb.out.row_reads 10 rfl).2.2 i1 c2 c6⟩ (fun hHeld => ?_)
            clear hK K
            refine norm_ (a' := ?_) ?_ ?_
            rotate_left
            ·show Act.put _ (some 53) _ = _
             simp only [Act.put, sI, s0, sS, i64_w, i32_w]
             rfl
            refine one_ (i := 7) (N := some 54) #[ti,ti,ti,ti,ti,ti,ti,ti,ti,ti,ti,ti,ti,ti,ti,ti,ti,ti,fi] rfl rfl (by kernel_rfl) (by decide) (fun K hK => ?_)
            refine Sep.own_append_fork_step k72 (fun h => by rw [k72_openM h]; exact k72_mkM _ _ _ _) HO.out 0 _ list 72 rfl (by rfl) (.tmp 48) (.tmp 53) 68 (.agg #[.int .i64 0, .int .i64 0]) 16 rfl Try.underlying68 info72 rfl (by decide) (by omega) (rd_T72 ps i1) [.int .i64 (rd_T72 ps i1).f0, .int .i64 (rd_T72 ps i1).f1] rfl rfl (k72_mkM _ _ _ _) (by have := HL.out; omega) ?_
            intro v1 w1 X ho hrec
            have HREC := aM hrec; clear hrec HOb; have HO6 := aM ((ho.front 1 rfl).into 12 (Nat.le_add_left _ _)); clear ho
            refine hK.out _ _ ⟨HO6.out.cell 11 rfl 0 rfl, HO6.out.cell 5 rfl 0 rfl, (impl_leastSums.atT (HO6.out.row_reads 6 rfl).2.2 i1 c2 c5).1, (impl_leastSums.atT (HO6.out.row_reads 6 rfl).2.2 i1 c2 c5).2, HO6.out.cell 9 rfl 0 rfl, impl_leastSums.atI (HO6.out.row_reads 10 rfl).2.2 i1 c2 c6⟩ (fun hHeld => ?_)
            clear hK K
            refine norm_ (a' := ?_) ?_ ?_
            rotate_left
            ·show Act.put _ (some 54) _ = _
             simp only [Act.put, sI, s0, sS, i64_w, i32_w]
             rfl
            refine one_ (i := 18) (N := some 65) #[ti,ti,ti,ti,ti,ti,ti,ti,ti,ti,ti,ti,ti,ti,ti,ti,ti,ti,ti] rfl rfl (by kernel_rfl) (by decide) (fun K hK => ?_)
            refine Sep.goesC_ (f := 187) Try.func187 (by kernel_rfl) rfl #[v1, .int .i64 (Go.bits .or .i64 set (rd cv i1)), .int .i64 (wrap64 (i1 + 1)), .int .i64 (wrap64 (left - 1)), .pointer (some ⟨gg, 0, none⟩), .pointer (some ⟨gn, 0, none⟩), .pointer (some ⟨gf, 0, none⟩), .pointer (some ⟨gp, 0, none⟩), .pointer (some ⟨gb, 0, none⟩), .pointer (some ⟨gx, 0, none⟩), .pointer (some ⟨gc, 0, none⟩)] (by rfl) rfl rfl rfl zeb_ ?_
            refine (IH.out k1 zba_ (list ++ [rd_T72 ps i1]) (Go.bits .or .i64 set (rd cv i1)) (wrap64 (i1 + 1)) (wrap64 (left - 1)) st1 w1 v1 _ (X :: F) st2 HO6.out (by simp; omega) HA2.out).mono ?_
            rintro e w7 ⟨rfl, vf2, ho⟩
            refine ⟨_, rfl, ?_⟩
            have HO7 := aM (HREC.out w7 _ rfl ((ho.front 12 rfl).front 1 rfl)); clear ho
            refine hK.out _ _ ⟨HO7.out.cell 11 rfl 0 rfl, HO7.out.cell 5 rfl 0 rfl, (impl_leastSums.atT (HO7.out.row_reads 6 rfl).2.2 i1 c2 c5).1, (impl_leastSums.atT (HO7.out.row_reads 6 rfl).2.2 i1 c2 c5).2, HO7.out.cell 9 rfl 0 rfl, impl_leastSums.atI (HO7.out.row_reads 10 rfl).2.2 i1 c2 c6⟩ (fun hHeld => ?_)
            clear hK K
            refine norm_ (a' := ?_) ?_ ?_
            rotate_left
            ·show Act.put _ (some 65) _ = _
             simp only [Act.put, sI, s0, sS, i64_w, i32_w]
             rfl
            refine done_ (by kernel_rfl) ?_
            go_wp2
            go_roundg k1
            case measure => have := HK1.out; omega
            case rel => exact ⟨st2, vf2, wrap64 (i1 + 1), zb_, HH, ⟨zba_⟩, HO7⟩
           ·rw [if_neg c7] at H
            exact absurd H (by simp)
          ·rw [if_neg c6] at H
           exact absurd H (by simp)
         ·rw [if_neg c5] at H
          exact absurd H (by simp)
        ·rw [if_neg c4] at H
         have c4b := beq_eq_false_iff_ne.mpr c4; clear c4; (try go_wp2); have HOd := aM (HO.out.drew); clear HO; have HO := HOd; clear HOd
         refine start_ (n := 16) (S := fun w' => w'.cell? ⟨gp, 0, none⟩ = some (.slice Ap ps.length cp) ∧ w'.cell? ⟨gb, 0, none⟩ = some (.slice (some adb) bh.length cb) ∧ w'.cell? (adb.add i1.toNat) = some (.int .i64 (rd bh i1)) ∧ w'.cell? ⟨gg, 0, none⟩ = some (.int .i64 goal)) (ds := []) #[fi,fi,fi,fi,fi,fi,fi,fi,fi,fi,fi,fi,fi,fi,fi,fi] (by kernel_rfl) rfl rfl ⟨HO.out.cell 5 rfl 0 rfl, HO.out.cell 7 rfl 0 rfl, impl_leastSums.atI (HO.out.row_reads 8 rfl).2.2 i1 c2 c3, HO.out.cell 4 rfl 0 rfl⟩ (fun hHeld => ?_)
         generalize wr.drew = wd at HO hHeld ⊢
         refine pure_ (i := 0) (N := some 29) (v := ?_) (a' := ?_) #[ti,fi,fi,fi,fi,fi,fi,fi,fi,fi,fi,fi,fi,fi,fi,fi] rfl rfl (by kernel_rfl) (fun _ _ _ h => h) (Or.inl ⟨by rfl, ?_⟩) ?_ ?_; rotate_left; (· (intro w'; go_simp; with_reducible rfl)); rotate_left; (· (simp only [Act.put, putAll, sI, s0, sS, i64_w, i32_w]; rfl))
         refine pure_ (i := 1) (N := some 30) (v := ?_) (a' := ?_) #[ti,ti,fi,fi,fi,fi,fi,fi,fi,fi,fi,fi,fi,fi,fi,fi] rfl rfl (by kernel_rfl) (fun _ _ _ h => h) (Or.inl ⟨by rfl, ?_⟩) ?_ ?_; rotate_left; (· (intro w'; go_simp; with_reducible rfl)); rotate_left; (· (simp only [Act.put, putAll, sI, s0, sS, i64_w, i32_w]; rfl))
         refine pure_ (i := 2) (N := some 31) (v := ?_) (a' := ?_) #[ti,ti,ti,fi,fi,fi,fi,fi,fi,fi,fi,fi,fi,fi,fi,fi] rfl rfl (by kernel_rfl) (fun _ _ _ h => h) (Or.inl ⟨by rfl, ?_⟩) ?_ ?_; rotate_left; (· (intro w'; go_simp; with_reducible rfl)); rotate_left; (· (simp only [Act.put, putAll, sI, s0, sS, i64_w, i32_w]; rfl))
         refine take_ (i := 3) (N := some 32) (v := ?_) (a' := ?_) #[ti,ti,ti,ti,fi,fi,fi,fi,fi,fi,fi,fi,fi,fi,fi,fi] rfl rfl (by kernel_rfl) (fun _ _ _ h => h) (Or.inl ⟨by rfl, ?_⟩) hHeld ?_ ?_
         rotate_left
         ·rintro w' ⟨s0, s1, s2, s3⟩
          go_simp
          with_reducible rfl
         rotate_left
         ·simp only [Act.put, putAll, sI, s0, sS, i64_w, i32_w]
          rfl
         refine pure_ (i := 4) (N := some 33) (v := ?_) (a' := ?_) #[ti,ti,ti,ti,ti,fi,fi,fi,fi,fi,fi,fi,fi,fi,fi,fi] rfl rfl (by kernel_rfl) (fun _ _ _ h => h) (Or.inl ⟨by rfl, ?_⟩) ?_ ?_; rotate_left; (· (intro w'; go_simp; with_reducible rfl)); rotate_left; (· (simp only [Act.put, putAll, sI, s0, sS, i64_w, i32_w]; rfl))
         refine pure_ (i := 5) (N := some 34) (v := ?_) (a' := ?_) #[ti,ti,ti,ti,ti,ti,fi,fi,fi,fi,fi,fi,fi,fi,fi,fi] rfl rfl (by kernel_rfl) (fun _ _ _ h => h) (Or.inl ⟨by rfl, ?_⟩) ?_ ?_; rotate_left; (· (intro w'; go_simp; with_reducible rfl)); rotate_left; (· (simp only [Act.put, putAll, sI, s0, sS, i64_w, i32_w]; rfl))
         refine pure_ (i := 6) (N := some 35) (v := ?_) (a' := ?_) #[ti,ti,ti,ti,ti,ti,ti,fi,fi,fi,fi,fi,fi,fi,fi,fi] rfl rfl (by kernel_rfl) (fun _ _ _ h => h) (Or.inl ⟨by rfl, ?_⟩) ?_ ?_; rotate_left; (· (intro w'; go_simp; with_reducible rfl)); rotate_left; (· (simp only [Act.put, putAll, sI, s0, sS, i64_w, i32_w]; rfl))
         refine pure_ (i := 7) (N := some 36) (v := ?_) (a' := ?_) #[ti,ti,ti,ti,ti,ti,ti,ti,fi,fi,fi,fi,fi,fi,fi,fi] rfl rfl (by kernel_rfl) (fun _ _ _ h => h) (Or.inl ⟨by rfl, ?_⟩) ?_ ?_; rotate_left; (· (intro w'; go_simp; with_reducible rfl)); rotate_left; (· (simp only [Act.put, putAll, sI, s0, sS, i64_w, i32_w]; rfl))
         refine take_ (i := 8) (N := some 37) (v := ?_) (a' := ?_) #[ti,ti,ti,ti,ti,ti,ti,ti,ti,fi,fi,fi,fi,fi,fi,fi] rfl rfl (by kernel_rfl) (fun _ _ _ h => h) (Or.inl ⟨by rfl, ?_⟩) hHeld ?_ ?_
         rotate_left
         ·rintro w' ⟨s0, s1, s2, s3⟩
          go_simp
          with_reducible rfl
         rotate_left
         ·simp only [Act.put, putAll, sI, s0, sS, i64_w, i32_w]
          rfl
         refine pure_ (i := 9) (N := some 38) (v := ?_) (a' := ?_) #[ti,ti,ti,ti,ti,ti,ti,ti,ti,ti,fi,fi,fi,fi,fi,fi] rfl rfl (by kernel_rfl) (fun _ _ _ h => h) (Or.inl ⟨by rfl, ?_⟩) ?_ ?_; rotate_left; (· (intro w'; go_simp; with_reducible rfl)); rotate_left; (· (simp only [Act.put, putAll, sI, s0, sS, i64_w, i32_w]; rfl))
         refine pure_ (i := 10) (N := some 39) (v := ?_) (a' := ?_) #[ti,ti,ti,ti,ti,ti,ti,ti,ti,ti,ti,fi,fi,fi,fi,fi] rfl rfl (by kernel_rfl) (fun _ _ _ h => h) (Or.inl ⟨by rfl, ?_⟩) ?_ ?_; rotate_left; (· (intro w'; go_simp; with_reducible rfl)); rotate_left; (· (simp only [Act.put, putAll, sI, s0, sS, i64_w, i32_w]; rfl))
         refine take_ (i := 11) (N := some 40) (v := ?_) (a' := ?_) #[ti,ti,ti,ti,ti,ti,ti,ti,ti,ti,ti,ti,fi,fi,fi,fi] rfl rfl (by kernel_rfl) (fun _ _ _ h => h) (Or.inl ⟨by rfl, ?_⟩) hHeld ?_ ?_
         rotate_left
         ·rintro w' ⟨s0, s1, s2, s3⟩
          go_simp
          with_reducible rfl
         rotate_left
         ·simp only [Act.put, putAll, sI, s0, sS, i64_w, i32_w]
          rfl
         refine pure_ (i := 12) (N := some 41) (v := ?_) (a' := ?_) #[ti,ti,ti,ti,ti,ti,ti,ti,ti,ti,ti,ti,ti,fi,fi,fi] rfl rfl (by kernel_rfl) (fun _ _ _ h => h) (Or.inl ⟨by rfl, ?_⟩) ?_ ?_; rotate_left; (· (intro w'; go_simp; with_reducible rfl)); rotate_left; (· (simp only [Act.put, putAll, sI, s0, sS, i64_w, i32_w]; rfl))
         refine take_ (i := 13) (N := some 42) (v := ?_) (a' := ?_) #[ti,ti,ti,ti,ti,ti,ti,ti,ti,ti,ti,ti,ti,ti,fi,fi] rfl rfl (by kernel_rfl) (fun _ _ _ h => h) (Or.inl ⟨by rfl, ?_⟩) hHeld ?_ ?_
         rotate_left
         ·rintro w' ⟨s0, s1, s2, s3⟩
          go_simp
          with_reducible rfl
         rotate_left
         ·simp only [Act.put, putAll, sI, s0, sS, i64_w, i32_w]
          rfl
         refine pure_ (i := 14) (N := some 43) (v := ?_) (a' := ?_) #[ti,ti,ti,ti,ti,ti,ti,ti,ti,ti,ti,ti,ti,ti,ti,fi] rfl rfl (by kernel_rfl) (fun _ _ _ h => h) (Or.inl ⟨by rfl, ?_⟩) ?_ ?_; rotate_left; (· (intro w'; go_simp; with_reducible rfl)); rotate_left; (· (simp only [Act.put, putAll, sI, s0, sS, i64_w, i32_w]; rfl))
         refine pure_ (i := 15) (N := some 44) (v := ?_) (a' := ?_) #[ti,ti,ti,ti,ti,ti,ti,ti,ti,ti,ti,ti,ti,ti,ti,ti] rfl rfl (by kernel_rfl) (fun _ _ _ h => h) (Or.inl ⟨by rfl, ?_⟩) ?_ ?_; rotate_left; (· (intro w'; go_simp; with_reducible rfl)); rotate_left; (· (simp only [Act.put, putAll, sI, s0, sS, i64_w, i32_w]; rfl))
         refine done_ (by kernel_rfl) ?_
         obtain rfl := Option.some.inj H
         go_wp2
         go_end0
         exact ⟨rfl, _, HO.out⟩
       ·rw [if_neg c3] at H
        exact absurd H (by simp)
      ·rw [if_neg c2] at H
       exact absurd H (by simp)
     ·rw [if_neg c1] at H
      have c1b := decide_eq_false c1; clear c1; (try go_wp2); have HOd := aM (HO.out.drew); clear HO; have HO := HOd; clear HOd
      refine start_ (n := 16) (S := fun w' => w'.cell? ⟨gp, 0, none⟩ = some (.slice Ap ps.length cp)) (ds := []) #[fi,fi,fi,fi,fi,fi,fi,fi,fi,fi,fi,fi,fi,fi,fi,fi] (by kernel_rfl) rfl rfl (HO.out.cell 5 rfl 0 rfl) (fun hHeld => ?_)
      generalize wr.drew = wd at HO hHeld ⊢
      refine pure_ (i := 0) (N := some 29) (v := ?_) (a' := ?_) #[ti,fi,fi,fi,fi,fi,fi,fi,fi,fi,fi,fi,fi,fi,fi,fi] rfl rfl (by kernel_rfl) (fun _ _ _ h => h) (Or.inl ⟨by rfl, ?_⟩) ?_ ?_; rotate_left; (· (intro w'; go_simp; with_reducible rfl)); rotate_left; (· (simp only [Act.put, putAll, sI, s0, sS, i64_w, i32_w]; rfl))
      refine pure_ (i := 1) (N := some 30) (v := ?_) (a' := ?_) #[ti,ti,fi,fi,fi,fi,fi,fi,fi,fi,fi,fi,fi,fi,fi,fi] rfl rfl (by kernel_rfl) (fun _ _ _ h => h) (Or.inl ⟨by rfl, ?_⟩) ?_ ?_; rotate_left; (· (intro w'; go_simp; with_reducible rfl)); rotate_left; (· (simp only [Act.put, putAll, sI, s0, sS, i64_w, i32_w]; rfl))
      refine pure_ (i := 2) (N := some 31) (v := ?_) (a' := ?_) #[ti,ti,ti,fi,fi,fi,fi,fi,fi,fi,fi,fi,fi,fi,fi,fi] rfl rfl (by kernel_rfl) (fun _ _ _ h => h) (Or.inl ⟨by rfl, ?_⟩) ?_ ?_; rotate_left; (· (intro w'; go_simp; with_reducible rfl)); rotate_left; (· (simp only [Act.put, putAll, sI, s0, sS, i64_w, i32_w]; rfl))
      refine take_ (i := 3) (N := some 32) (v := ?_) (a' := ?_) #[ti,ti,ti,ti,fi,fi,fi,fi,fi,fi,fi,fi,fi,fi,fi,fi] rfl rfl (by kernel_rfl) (fun _ _ _ h => h) (Or.inl ⟨by rfl, ?_⟩) hHeld ?_ ?_
      rotate_left
      ·intro w' s0
       go_simp
       with_reducible rfl
      rotate_left
      ·simp only [Act.put, putAll, sI, s0, sS, i64_w, i32_w]
       rfl
      refine pure_ (i := 4) (N := some 33) (v := ?_) (a' := ?_) #[ti,ti,ti,ti,ti,fi,fi,fi,fi,fi,fi,fi,fi,fi,fi,fi] rfl rfl (by kernel_rfl) (fun _ _ _ h => h) (Or.inl ⟨by rfl, ?_⟩) ?_ ?_; rotate_left; (· (intro w'; go_simp; with_reducible rfl)); rotate_left; (· (simp only [Act.put, putAll, sI, s0, sS, i64_w, i32_w]; rfl))
      refine pure_ (i := 5) (N := some 34) (v := ?_) (a' := ?_) #[ti,ti,ti,ti,ti,ti,fi,fi,fi,fi,fi,fi,fi,fi,fi,fi] rfl rfl (by kernel_rfl) (fun _ _ _ h => h) (Or.inl ⟨by rfl, ?_⟩) ?_ ?_; rotate_left; (· (intro w'; go_simp; with_reducible rfl)); rotate_left; (· (simp only [Act.put, putAll, sI, s0, sS, i64_w, i32_w]; rfl))
      refine pure_ (i := 6) (N := some 35) (v := ?_) (a' := ?_) #[ti,ti,ti,ti,ti,ti,ti,fi,fi,fi,fi,fi,fi,fi,fi,fi] rfl rfl (by kernel_rfl) (fun _ _ _ h => h) (Or.inl ⟨by rfl, ?_⟩) ?_ ?_; rotate_left; (· (intro w'; go_simp; with_reducible rfl)); rotate_left; (· (simp only [Act.put, putAll, sI, s0, sS, i64_w, i32_w]; rfl))
      refine pure_ (i := 7) (N := some 36) (v := undef) (a' := ?_) #[ti,ti,ti,ti,ti,ti,ti,ti,fi,fi,fi,fi,fi,fi,fi,fi] rfl rfl (by kernel_rfl) (fun _ _ _ h => h) (Or.inr ⟨by rfl, rfl⟩) ?_ ?_
      rotate_left
      ·simp only [Act.put, putAll, sI, s0, sS, i64_w, i32_w]
       rfl
      refine pure_ (i := 8) (N := some 37) (v := undef) (a' := ?_) #[ti,ti,ti,ti,ti,ti,ti,ti,ti,fi,fi,fi,fi,fi,fi,fi] rfl rfl (by kernel_rfl) (fun _ _ _ h => h) (Or.inr ⟨by rfl, rfl⟩) ?_ ?_
      rotate_left
      ·simp only [Act.put, putAll, sI, s0, sS, i64_w, i32_w]
       rfl
      refine pure_ (i := 9) (N := some 38) (v := undef) (a' := ?_) #[ti,ti,ti,ti,ti,ti,ti,ti,ti,ti,fi,fi,fi,fi,fi,fi] rfl rfl (by kernel_rfl) (fun _ _ _ h => h) (Or.inr ⟨by rfl, rfl⟩) ?_ ?_
      rotate_left
      ·simp only [Act.put, putAll, sI, s0, sS, i64_w, i32_w]
       rfl
      refine pure_ (i := 10) (N := some 39) (v := undef) (a' := ?_) #[ti,ti,ti,ti,ti,ti,ti,ti,ti,ti,ti,fi,fi,fi,fi,fi] rfl rfl (by kernel_rfl) (fun _ _ _ h => h) (Or.inr ⟨by rfl, rfl⟩) ?_ ?_
      rotate_left
      ·simp only [Act.put, putAll, sI, s0, sS, i64_w, i32_w]
       rfl
      refine pure_ (i := 11) (N := some 40) (v := undef) (a' := ?_) #[ti,ti,ti,ti,ti,ti,ti,ti,ti,ti,ti,ti,fi,fi,fi,fi] rfl rfl (by kernel_rfl) (fun _ _ _ h => h) (Or.inr ⟨by rfl, rfl⟩) ?_ ?_
      rotate_left
      ·simp only [Act.put, putAll, sI, s0, sS, i64_w, i32_w]
       rfl
      refine pure_ (i := 12) (N := some 41) (v := undef) (a' := ?_) #[ti,ti,ti,ti,ti,ti,ti,ti,ti,ti,ti,ti,ti,fi,fi,fi] rfl rfl (by kernel_rfl) (fun _ _ _ h => h) (Or.inr ⟨by rfl, rfl⟩) ?_ ?_
      rotate_left
      ·simp only [Act.put, putAll, sI, s0, sS, i64_w, i32_w]
       rfl
      refine pure_ (i := 13) (N := some 42) (v := undef) (a' := ?_) #[ti,ti,ti,ti,ti,ti,ti,ti,ti,ti,ti,ti,ti,ti,fi,fi] rfl rfl (by kernel_rfl) (fun _ _ _ h => h) (Or.inr ⟨by rfl, rfl⟩) ?_ ?_
      rotate_left
      ·simp only [Act.put, putAll, sI, s0, sS, i64_w, i32_w]
       rfl
      refine pure_ (i := 14) (N := some 43) (v := undef) (a' := ?_) #[ti,ti,ti,ti,ti,ti,ti,ti,ti,ti,ti,ti,ti,ti,ti,fi] rfl rfl (by kernel_rfl) (fun _ _ _ h => h) (Or.inr ⟨by rfl, rfl⟩) ?_ ?_
      rotate_left
      ·simp only [Act.put, putAll, sI, s0, sS, i64_w, i32_w]
       rfl
      refine pure_ (i := 15) (N := some 44) (v := ?_) (a' := ?_) #[ti,ti,ti,ti,ti,ti,ti,ti,ti,ti,ti,ti,ti,ti,ti,ti] rfl rfl (by kernel_rfl) (fun _ _ _ h => h) (Or.inl ⟨by rfl, ?_⟩) ?_ ?_; rotate_left; (· (intro w'; go_simp; with_reducible rfl)); rotate_left; (· (simp only [Act.put, putAll, sI, s0, sS, i64_w, i32_w]; rfl))
      refine done_ (by kernel_rfl) ?_
      obtain rfl := Option.some.inj H
      go_wp2
      go_end0
      exact ⟨rfl, _, HO.out⟩
def impl_leastSums.cov (p : S72) : Nat → Int
 | 0 => 0
 | j + 1 => if Go.bits .and .i64 (j : Int) p.f0 = p.f1 then Go.bits .or .i64 (impl_leastSums.cov p j) (shl .i64 1 (j : Int)) else impl_leastSums.cov p j
def impl_leastSums.covs (ps : List (S72)) (n : Nat) : List Int := ps.map (fun p => impl_leastSums.cov p n)
def impl_leastSums.bh (cv : List Int) (n : Nat) : Nat → List Int
 | 0 => List.replicate (n + 1) 0
 | d + 1 => (impl_leastSums.bh cv n d).set (n - 1 - d) (Go.bits .or .i64 (rd (impl_leastSums.bh cv n d) ((n : Int) - 1 - d + 1)) (rd cv ((n : Int) - 1 - d)))
theorem impl_leastSums.bh_length (cv : List Int) (n d : Nat) : (impl_leastSums.bh cv n d).length = n + 1 := by
 induction d with
 | zero => simp [impl_leastSums.bh]
 | succ d ih => rw [impl_leastSums.bh, List.length_set, ih]
def impl_leastSums.n : Nat → Int → List (S72) → List Int → List Int → Int → List (S72) × Int → Option (List (S72) × Int)
 | 0, _, _, _, _, _, _ => none
 | k + 1, goal, ps, cv, bh, m, st => if m ≤ (ps.length : Int) then ((impl_leastSums.e (fun a b c d f => impl_leastSums.l k goal ps cv bh a b c d f) goal [] 0 0 m st).bind fun st1 => (if st1.2 > 0 then some st1 else impl_leastSums.n k goal ps cv bh (wrap64 (m + 1)) st1)) else some st
theorem impl_leastSums.mono_n : ∀ k goal ps cv bh m st, LeO (impl_leastSums.n k goal ps cv bh m st) (impl_leastSums.n (k + 1) goal ps cv bh m st)
 | 0, _, _, _, _, _, _ => fun r h => by simp [impl_leastSums.n] at h
 | k + 1, goal, ps, cv, bh, m, st => by
  have ih := impl_leastSums.mono_n k
  unfold impl_leastSums.n impl_leastSums.e
  exact LeO.ite (LeO.bind (LeO.ite (LeO.refl _) (impl_leastSums.mono_l k _ _ _ _ _ _ _ _ _)) (fun _ => LeO.ite (LeO.refl _) (ih _ _ _ _ _ _))) (LeO.refl _)
def impl_leastSums.f (k : Nat) (a0_0 : Int) (l0_1 : List Int) : Option (List (S72) × Int) :=
 (impl_primesOf.f k a0_0 l0_1).bind fun ps => if ps.length ≤ 1000 ∧ l0_1.length ≤ 62 then ((impl_numberOf.f k l0_1).bind fun goal => impl_leastSums.n k goal ps (impl_leastSums.covs ps l0_1.length) (impl_leastSums.bh (impl_leastSums.covs ps l0_1.length) ps.length ps.length) 0 ([], 0)) else none
theorem impl_leastSums.covs_take (ps : List (S72)) (n : Nat) (j : Int) (h0 : 0 ≤ j) (h1 : j < (ps.length : Int)) : impl_leastSums.covs (ps.take j.toNat) n ++ [impl_leastSums.cov (rd_T72 ps j) n] = impl_leastSums.covs (ps.take (j + 1).toNat) n := by
 obtain ⟨m, rfl⟩ := Int.eq_ofNat_of_zero_le h0
 have hm : m < ps.length := by omega
 rw [show ((m : Int) + 1).toNat = m + 1 by omega, Int.toNat_natCast, List.take_add_one, List.getElem?_eq_getElem hm]
 unfold impl_leastSums.covs
 rw [List.map_append]
 congr 1
 unfold rd_T72
 simp [List.getD, List.getElem?_eq_getElem hm]
theorem impl_leastSums.cov_succ (p : S72) (i : Int) (h0 : 0 ≤ i) : impl_leastSums.cov p (i + 1).toNat = if Go.bits .and .i64 i p.f0 = p.f1 then Go.bits .or .i64 (impl_leastSums.cov p i.toNat) (shl .i64 1 i) else impl_leastSums.cov p i.toNat := by
 obtain ⟨m, rfl⟩ := Int.eq_ofNat_of_zero_le h0
 rw [show ((m : Int) + 1).toNat = m + 1 by omega, Int.toNat_natCast]
 rfl
open Go.Proofs.Ytbkighlfgaifeaa.Sep in
set_option maxHeartbeats 16000000 in
set_option maxRecDepth 100000 in
theorem impl_leastSums.calls (k : Nat) (a0_0 : Int) (A0_1 : Option Addr) (c0_1 : Nat) (l0_1 : List Int) (r1 : List (S72)) (r2 : Int) (w : World) (hr0_1 : Kd.C (Kd.int .i64) w A0_1 l0_1.length l0_1) (hc0_1 : l0_1.length ≤ c0_1) (h : impl_leastSums.f k a0_0 l0_1 = some (r1, r2)) :
  Calls Try.prog 167 #[.agg #[.int .i64 a0_0, .slice A0_1 l0_1.length c0_1]] w fun e w' => ∃ v0_ : Value, e = .returned (.tuple #[v0_, .int .i64 r2]) ∧ Kd.R k72 72 w' w.heap.size (fun _ => True) v0_ r1 ∧ Below w.heap.size w w' := by
 have hu60 := Try.underlying60
 have HR0_1 := aM hr0_1
 have HC0_1 := aM hc0_1
 clear hr0_1 hc0_1
 unfold impl_leastSums.f at h
 obtain ⟨ps, hA, h1⟩ := oB.mp h
 clear h
 by_cases hpn : ps.length ≤ 1000 ∧ l0_1.length ≤ 62
 ·rw [if_pos hpn] at h1
  obtain ⟨hpn, hln⟩ := hpn; obtain ⟨goal, hG, h2⟩ := oB.mp h1; clear h1; have HA := aM hA; have HG := aM hG; have HN := aM h2; clear hA hG h2; have HPN := aM hpn; have HLN := aM hln; clear hpn hln
  go_enter Try.func167, Try.ntmps167
  go_wp2_with (first | ((with_reducible refine gate_dst (N := 1) rfl ?_); refine box_event ?hg (N := 1) ?hd (cs := #[.int .i64 a0_0, .slice A0_1 l0_1.length c0_1]) (t := 60) ?hr ?_; (case hd => rfl); (case hg => rfl); (case hr => exact zc_); intro gt hg w1 hbox hb; have HO1 := aM ((Sep.Own.nil w).add_box (T := 60) (cs := #[.int .i64 a0_0, .slice A0_1 l0_1.length c0_1]) hg hbox hb); have zt0 : w1.cell? ⟨gt, 0, none⟩ = some (.int .i64 a0_0) := HO1.out.cell 0 rfl 0 rfl; have zt1 : w1.cell? ⟨gt, 1, none⟩ = some (.slice A0_1 l0_1.length c0_1) := HO1.out.cell 0 rfl 1 rfl; clear hg hbox hb) | ((with_reducible refine gate_callee (f := 130) rfl ?_); refine goesL_ (some 18) rfl rfl Try.func130 (by kernel_rfl) rfl #[.agg #[.int .i64 a0_0, .slice A0_1 l0_1.length c0_1]] rfl zeb_ ?_; (with_reducible refine (impl_primesOf.calls k a0_0 _ _ l0_1 _ w1 ?s1 ?s2 HA.out).mono ?_); (case s1 => exact Kd.C_below HR0_1.out HO1.out.base); (case s2 => exact HC0_1.out); rintro e w3 ⟨vp, rfl, hR, hb⟩; refine ⟨_, rfl, ?_⟩; have ho := (HO1.out.add_row hR hb); obtain ⟨Ap, cp, rfl⟩ := ho.row_slice 0 rfl; have HO3 := aM ho; clear ho hR hb zt0 zt1) | ((with_reducible refine gate_dst (N := 4) rfl ?_); refine box_event ?hg (N := 4) ?hd (cs := #[.slice none 0 0]) (t := 68) ?hr ?_; (case hd => rfl); (case hg => rfl); (case hr => exact zc_); intro gp hg w4 hbox hb; have HO4 := aM (HO3.out.add_box (T := 68) (cs := #[.slice none 0 0]) hg hbox hb); clear hg hbox hb) | ((with_reducible refine gate_store (t := 68) (p := 4) (v := .tmp 18) rfl ?_); refine Sep.own_store HO4.out 0 gp 68 _ #[.slice Ap ps.length cp] rfl rfl rfl 68 (.tmp 4) (.tmp 18) rfl rfl _ rfl rfl rfl (by kernel_rfl) (by simp [Value.oneCell']) ?_; intro w5 ho; have HO5 := aM ho; clear ho) | ((with_reducible refine gate_dst (N := 19) rfl ?_); refine Sep.own_lit0 (Kd.int .i64) HO5.out 3 ?hg (N := 19) ?hd ?hr ?_; (case hd => rfl); (case hg => rfl); (case hr => exact zc_); intro v_ w6 ho _; obtain ⟨Av_, cv_, rfl⟩ := ho.row_slice 0 rfl; have HO6 := aM ho; clear ho) | ((with_reducible refine gate_dst (N := 5) rfl ?_); refine box_event ?hg (N := 5) ?hd (cs := #[.slice none 0 0]) (t := 24) ?hr ?_; (case hd => rfl); (case hg => rfl); (case hr => exact zc_); intro gc hg w7 hbox hb; have HO7 := aM (HO6.out.add_box (T := 24) (cs := #[.slice none 0 0]) hg hbox hb); clear hg hbox hb) | ((with_reducible refine gate_store (t := 24) (p := 5) (v := .tmp 19) rfl ?_); refine Sep.own_store HO7.out 0 gc 24 _ #[.slice Av_ ([] : List Int).length cv_] rfl rfl rfl 24 (.tmp 5) (.tmp 19) rfl rfl _ rfl rfl rfl (by kernel_rfl) (by simp [Value.oneCell']) ?_; intro w8 ho; have HO8 := aM ho; clear ho; have zp : w8.cell? ⟨gp, 0, none⟩ = some (.slice Ap ps.length cp) := HO8.out.cell 2 rfl 0 rfl))
  go_loopw [22] (fun v22 wr => ∃ (j : Int) (vc : Value), 0 ≤ j ∧ j ≤ (ps.length : Int) ∧ v22 = .int .i64 j ∧ Aside0 (Own w wr [Item.box gc 24 #[vc], Item.row (Kd.int .i64) 3 vc (impl_leastSums.covs (ps.take j.toNat) l0_1.length), Item.box gp 68 #[.slice Ap ps.length cp], Item.row k72 72 (.slice Ap ps.length cp) ps, Item.box gt 60 #[.int .i64 a0_0, .slice A0_1 l0_1.length c0_1]])) (fun v22 _ => ps.length - (intOf v22).toNat)
  case atStart => exact ⟨0, _, Int.le_refl _, by omega, rfl, HO8⟩
  case round =>
   obtain ⟨j, vc, hj0, hj1, rfl, HO⟩ := hrel; clear zp HO8; obtain ⟨Ac, cc, rfl⟩ := HO.out.row_slice 1 rfl
   by_cases c1 : j < (ps.length : Int)
   ·have c1b := decide_eq_true c1
    obtain ⟨adp, ep, hx0, hx1⟩ := at_T72 (HO.out.row_reads 3 rfl).2.2 j hj0 c1
    cases ep
    have p1 : (0 ≤ j) = True := eq_true hj0; have q1 : (j < (ps.length : Int)) = True := eq_true c1; have hwj : wrap64 (j + 1) = j + 1 := by have := HPN.out; unfold wrap64; omega
    go_wp2_with (first | ((with_reducible refine gate_dst (N := 7) rfl ?_); refine box_event ?hg (N := 7) ?hd (cs := #[.int .i64 0, .int .i64 0]) (t := 72) ?hr ?_; (case hd => rfl); (case hg => rfl); (case hr => exact zc_); intro gq hg w1 hbox hb; have HO1 := aM (HO.out.add_box (T := 72) (cs := #[.int .i64 0, .int .i64 0]) hg hbox hb); clear hg hbox hb) | ((with_reducible refine gate_store (t := 72) (p := 7) (v := .tmp 25) rfl ?_); refine Sep.own_store HO1.out 0 gq 72 _ #[.int .i64 (rd_T72 ps j).f0, .int .i64 (rd_T72 ps j).f1] rfl rfl rfl 72 (.tmp 7) (.tmp 25) rfl rfl _ rfl rfl rfl (by kernel_rfl) (by simp [Value.oneCell']) ?_; intro w2 ho; have HO2 := aM ho; clear ho; have zt0 : w2.cell? ⟨gt, 0, none⟩ = some (.int .i64 a0_0) := HO2.out.cell 5 rfl 0 rfl; have zt1 : w2.cell? ⟨gt, 1, none⟩ = some (.slice A0_1 l0_1.length c0_1) := HO2.out.cell 5 rfl 1 rfl))
    go_loopw [29, 8] (fun v29 v8 wr => ∃ i : Int, 0 ≤ i ∧ i ≤ (l0_1.length : Int) ∧ v29 = .int .i64 i ∧ v8 = .int .i64 (impl_leastSums.cov (rd_T72 ps j) i.toNat) ∧ Aside0 (Own w wr [Item.box gq 72 #[.int .i64 (rd_T72 ps j).f0, .int .i64 (rd_T72 ps j).f1], Item.box gc 24 #[(.slice Ac (impl_leastSums.covs (ps.take j.toNat) l0_1.length).length cc)], Item.row (Kd.int .i64) 3 (.slice Ac (impl_leastSums.covs (ps.take j.toNat) l0_1.length).length cc) (impl_leastSums.covs (ps.take j.toNat) l0_1.length), Item.box gp 68 #[.slice (some adp) ps.length cp], Item.row k72 72 (.slice (some adp) ps.length cp) ps, Item.box gt 60 #[.int .i64 a0_0, .slice A0_1 l0_1.length c0_1]])) (fun v29 _ _ => l0_1.length - (intOf v29).toNat)
    case atStart => exact ⟨0, Int.le_refl _, by omega, rfl, rfl, HO2⟩
    case round =>
     clear zt0 zt1 HO2 hx0 hx1; obtain ⟨i, hi0, hi1, rfl, rfl, HO⟩ := hrel; have zq0 : wr.cell? ⟨gq, 0, none⟩ = some (.int .i64 (rd_T72 ps j).f0) := HO.out.cell 0 rfl 0 rfl; have zq1 : wr.cell? ⟨gq, 1, none⟩ = some (.int .i64 (rd_T72 ps j).f1) := HO.out.cell 0 rfl 1 rfl; have hwi : wrap64 (i + 1) = i + 1 := by have := HLN.out; unfold wrap64; omega
     have p3 : (0 ≤ i) = True := eq_true hi0; have hcs := impl_leastSums.cov_succ (rd_T72 ps j) i hi0
     by_cases c2 : i < (l0_1.length : Int)
     ·have c2b := decide_eq_true c2
      by_cases c3 : Go.bits .and .i64 i (rd_T72 ps j).f0 = (rd_T72 ps j).f1
      ·rw [if_pos c3] at hcs
       have c3b := beq_iff_eq.mpr c3
       go_wp2
       go_roundw
       case measure => simp only [intOf, hwi]; omega
       case rel => exact ⟨i + 1, by omega, by omega, by rw [hwi], (by rw [hcs]; simp [shl, IntKind.bits, IntKind.wrap_i64, wrap64]), HO⟩
      ·rw [if_neg c3] at hcs
       have c3b := beq_eq_false_iff_ne.mpr c3
       go_wp2
       go_roundw
       case measure => simp only [intOf, hwi]; omega
       case rel => exact ⟨i + 1, by omega, by omega, by rw [hwi], by rw [hcs], HO⟩
     ·have c2b := decide_eq_false c2
      obtain rfl : i = (l0_1.length : Int) := by omega
      have zc : wr.cell? ⟨gc, 0, none⟩ = some (.slice Ac (impl_leastSums.covs (ps.take j.toNat) l0_1.length).length cc) := HO.out.cell 1 rfl 0 rfl
      simp only [Int.toNat_natCast]
      go_wp2_with (first | ((with_reducible refine gate_dst (N := 47) rfl ?_); at_builtin; refine Sep.own_append (Kd.int .i64) HO.out 2 _ _ 3 rfl rfl (.tmp 44) (.tmp 46) 24 (.int .i64 0) 8 rfl Try.underlying24 info3 rfl (by decide) (by omega) (impl_leastSums.cov (rd_T72 ps j) l0_1.length) [.int .i64 (impl_leastSums.cov (rd_T72 ps j) l0_1.length)] rfl rfl rfl (by have := HPN.out; simp [impl_leastSums.covs]; omega) ?_; intro v1 w3 ho; obtain ⟨A1, c1_, rfl⟩ := ho.row_slice 2 rfl; have HO3 := aM ho; clear ho) | ((with_reducible refine gate_store (t := 24) (p := 5) (v := .tmp 47) rfl ?_); refine Sep.own_store HO3.out 1 gc 24 _ #[.slice A1 (impl_leastSums.covs (ps.take j.toNat) l0_1.length ++ [impl_leastSums.cov (rd_T72 ps j) l0_1.length]).length c1_] rfl rfl rfl 24 (.tmp 5) (.tmp 47) rfl rfl _ rfl rfl rfl (by kernel_rfl) (by simp [Value.oneCell']) ?_; intro w4 ho; have HO4 := aM ho; clear ho))
      go_roundw
      case measure => simp only [intOf, hwj]; omega
      case rel =>
       have ho := HO4.out.tail; rw [impl_leastSums.covs_take ps l0_1.length j hj0 c1] at ho
       exact ⟨j + 1, _, by omega, by omega, by rw [hwj], ⟨ho⟩⟩
   ·have c1b := decide_eq_false c1
    obtain rfl : j = (ps.length : Int) := by omega
    have ho := HO.out; rw [Int.toNat_natCast, List.take_length] at ho; have hcl : (impl_leastSums.covs ps l0_1.length).length = ps.length := by simp [impl_leastSums.covs]
    rw [hcl] at ho; clear HO; have HO := aM ho; clear ho; obtain ⟨cv, hcv⟩ : ∃ cv, cv = impl_leastSums.covs ps l0_1.length := ⟨_, rfl⟩; have hcvl : cv.length = ps.length := by rw [hcv]; simp [impl_leastSums.covs]
    rw [← hcv] at HO HN; have HCV := aM hcvl; clear hcv hcvl hcl; have zt0 : wr.cell? ⟨gt, 0, none⟩ = some (.int .i64 a0_0) := HO.out.cell 4 rfl 0 rfl; have zt1 : wr.cell? ⟨gt, 1, none⟩ = some (.slice A0_1 l0_1.length c0_1) := HO.out.cell 4 rfl 1 rfl; have zp : wr.cell? ⟨gp, 0, none⟩ = some (.slice Ap ps.length cp) := HO.out.cell 2 rfl 0 rfl; have hwn : wrap64 ((ps.length : Int) + 1) = (ps.length : Int) + 1 := by have := HPN.out; unfold wrap64; omega
    have hwm : wrap64 ((ps.length : Int) - 1) = (ps.length : Int) - 1 := by have := HPN.out; unfold wrap64; omega
    go_wp2_with (first | ((with_reducible refine gate_callee (f := 186) rfl ?_); refine goesL_ (some 51) rfl rfl Try.func186 (by kernel_rfl) rfl #[.slice A0_1 l0_1.length c0_1] rfl zeb_ ?_; (with_reducible refine (impl_numberOf.calls k _ _ l0_1 goal wr ?s1 ?s2 HG.out).mono ?_); (case s1 => exact Kd.C_below HR0_1.out HO.out.base); (case s2 => exact HC0_1.out); rintro e w9 ⟨rfl, hd⟩; refine ⟨_, rfl, ?_⟩; have HO9 := aM (HO.out.below hd.below); clear hd zt0 zt1 zp) | ((with_reducible refine gate_dst (N := 10) rfl ?_); refine box_event ?hg (N := 10) ?hd (cs := #[.int .i64 0]) (t := 3) ?hr ?_; (case hd => rfl); (case hg => rfl); (case hr => exact zc_); intro gg hg w10 hbox hb; have HO10 := aM (HO9.out.add_box (T := 3) (cs := #[.int .i64 0]) hg hbox hb); clear hg hbox hb) | ((with_reducible refine gate_store (t := 3) (p := 10) (v := .tmp 51) rfl ?_); refine Sep.own_store HO10.out 0 gg 3 _ #[.int .i64 goal] rfl rfl rfl 3 (.tmp 10) (.tmp 51) rfl rfl (.int .i64 goal) rfl rfl rfl (by kernel_rfl) (by simp [Value.oneCell']) ?_; intro w11 ho; have HO11 := aM ho; clear ho; have zp : w11.cell? ⟨gp, 0, none⟩ = some (.slice Ap ps.length cp) := HO11.out.cell 3 rfl 0 rfl) | ((with_reducible refine gate_dst (N := 55) rfl ?_); (refine Sep.own_make (Kd.int .i64) HO11.out 3 rfl (N := 55) rfl 24 _ _ rfl ((ps.length : Int) + 1) (by first | rfl | exact congrArg (Value.int .i64) hwn) (by first | rfl | exact congrArg (Value.int .i64) hwn) Try.underlying24 (.int .i64 0) 8 info3 rfl (by decide) (by omega) 0 rfl (by omega) (by have := HPN.out; omega) ?_; intro v_ w12 ho _; obtain ⟨gbr, capb, rfl⟩ := Sep.own_row_form ho 0 rfl (by rw [List.length_replicate]; omega); have HO12 := aM ho; clear ho zp)) | ((with_reducible refine gate_dst (N := 11) rfl ?_); refine box_event ?hg (N := 11) ?hd (cs := #[.slice none 0 0]) (t := 24) ?hr ?_; (case hd => rfl); (case hg => rfl); (case hr => exact zc_); intro gb hg w13 hbox hb; have HO13 := aM (HO12.out.add_box (T := 24) (cs := #[.slice none 0 0]) hg hbox hb); clear hg hbox hb) | ((with_reducible refine gate_store (t := 24) (p := 11) (v := .tmp 55) rfl ?_); refine Sep.own_store HO13.out 0 gb 24 _ #[.slice (some ⟨gbr, 0, none⟩) (List.replicate ((ps.length : Int) + 1).toNat (0 : Int)).length capb] rfl rfl rfl 24 (.tmp 11) (.tmp 55) rfl rfl _ rfl rfl rfl (by kernel_rfl) (by simp [Value.oneCell']) ?_; intro w14 ho; have HO14 := aM ho; clear ho; have zp : w14.cell? ⟨gp, 0, none⟩ = some (.slice Ap ps.length cp) := HO14.out.cell 5 rfl 0 rfl))
    clear zp
    go_loopw [12] (fun v12 wr => ∃ (d : Nat) (j : Int), d ≤ ps.length ∧ j = (ps.length : Int) - 1 - d ∧ v12 = .int .i64 j ∧ Aside0 (Own w wr [Item.box gb 24 #[(.slice (some ⟨gbr, 0, none⟩) (ps.length + 1) capb)], Item.row (Kd.int .i64) 3 (.slice (some ⟨gbr, 0, none⟩) (ps.length + 1) capb) (impl_leastSums.bh cv ps.length d), Item.box gg 3 #[.int .i64 goal], Item.box gc 24 #[.slice Ac ps.length cc], Item.row (Kd.int .i64) 3 (.slice Ac ps.length cc) cv, Item.box gp 68 #[.slice Ap ps.length cp], Item.row k72 72 (.slice Ap ps.length cp) ps, Item.box gt 60 #[.int .i64 a0_0, .slice A0_1 l0_1.length c0_1]])) (fun v12 _ => (intOf v12 + 1).toNat)
    case atStart => exact ⟨0, (ps.length : Int) - 1, Nat.zero_le _, by simp, by first | rfl | rw [hwm], ⟨by have ho := HO14.out; rw [List.length_replicate, show ((ps.length : Int) + 1).toNat = ps.length + 1 by omega] at ho; exact ho⟩⟩
    case round =>
     obtain ⟨d, j, hd, hje, rfl, HO⟩ := hrel; clear HO14; have hbl := impl_leastSums.bh_length cv ps.length d
     by_cases hj0 : 0 ≤ j
     ·have c2b := decide_eq_true hj0
      have hjn : j < (ps.length : Int) := by omega
      have hjc : j < (cv.length : Int) := by have := HCV.out; omega
      obtain ⟨adc, ec, _⟩ := Kd.at_int (HO.out.row_reads 4 rfl).2.2 j hj0 hjc
      cases ec
      have hwj : wrap64 (j + 1) = j + 1 := by have := HPN.out; unfold wrap64; omega
      have hwk : wrap64 (j - 1) = j - 1 := by have := HPN.out; unfold wrap64; omega
      have p1 : (0 ≤ j) = True := eq_true hj0; have p2 : (0 ≤ j + 1) = True := eq_true (by omega); have q1 : (j < (ps.length : Int)) = True := eq_true hjn; have q2 : (j < ((ps.length + 1 : Nat) : Int)) = True := eq_true (by omega); have q3 : (j + 1 < ((ps.length + 1 : Nat) : Int)) = True := eq_true (by omega); have q4 : (j < (ps.length : Int) + 1) = True := eq_true (by omega); have q5 : (j + 1 < (ps.length : Int) + 1) = True := eq_true (by omega); have hjb : j < (((impl_leastSums.bh cv ps.length d).length : Nat) : Int) ∧ j + 1 < (((impl_leastSums.bh cv ps.length d).length : Nat) : Int) := by omega
      have HJ := aM hje; have HD := aM hd; have HJB := aM hjb; clear hje hd hbl hjb
      go_wp2
      have HOd := aM (HO.out.drew); clear HO; have HO := HOd; clear HOd
      refine start_ (n := 14) (S := fun w' => w'.cell? ⟨gb, 0, none⟩ = some (.slice (some ⟨gbr, 0, none⟩) (ps.length + 1) capb) ∧ w'.cell? ⟨gbr, (j + 1).toNat, none⟩ = some (.int .i64 (rd (impl_leastSums.bh cv ps.length d) (j + 1))) ∧ w'.cell? ⟨gc, 0, none⟩ = some (.slice (some adc) ps.length cc) ∧ w'.cell? (adc.add j.toNat) = some (.int .i64 (rd cv j))) (ds := [13]) #[fi,fi,fi,fi,fi,fi,fi,fi,fi,fi,fi,fi,fi,fi] (by kernel_rfl) rfl rfl ⟨HO.out.cell 0 rfl 0 rfl, (Sep.own_row_cell (0 : Int) HO.out 1 rfl (j + 1) (by omega) HJB.out.2).1, HO.out.cell 3 rfl 0 rfl, impl_leastSums.atI (HO.out.row_reads 4 rfl).2.2 j hj0 hjc⟩ (fun hHeld => ?_)
      generalize wr.drew = wd at HO hHeld ⊢
      refine take_ (i := 0) (N := some 63) (v := ?_) (a' := ?_) #[ti,fi,fi,fi,fi,fi,fi,fi,fi,fi,fi,fi,fi,fi] rfl rfl (by kernel_rfl) (fun _ _ _ h => h) (Or.inl ⟨by rfl, ?_⟩) hHeld ?_ ?_
      rotate_left
      ·rintro w' ⟨s0, s1, s2, s3⟩
       go_simp
       with_reducible rfl
      rotate_left
      ·simp only [Act.put, putAll, sI, s0, sS, i64_w, i32_w]
       rfl
      refine pure_ (i := 1) (N := some 64) (v := ?_) (a' := ?_) #[ti,ti,fi,fi,fi,fi,fi,fi,fi,fi,fi,fi,fi,fi] rfl rfl (by kernel_rfl) (fun _ _ _ h => h) (Or.inl ⟨by rfl, ?_⟩) ?_ ?_; rotate_left; (· (intro w'; go_simp; with_reducible rfl)); rotate_left; (· (simp only [Act.put, putAll, sI, s0, sS, i64_w, i32_w]; rfl))
      refine take_ (i := 2) (N := some 65) (v := ?_) (a' := ?_) #[ti,ti,ti,fi,fi,fi,fi,fi,fi,fi,fi,fi,fi,fi] rfl rfl (by kernel_rfl) (fun _ _ _ h => h) (Or.inl ⟨by rfl, ?_⟩) hHeld ?_ ?_
      rotate_left
      ·rintro w' ⟨s0, s1, s2, s3⟩
       go_simp
       with_reducible rfl
      rotate_left
      ·simp only [Act.put, putAll, sI, s0, sS, i64_w, i32_w]
       rfl
      refine pure_ (i := 3) (N := some 66) (v := ?_) (a' := ?_) #[ti,ti,ti,ti,fi,fi,fi,fi,fi,fi,fi,fi,fi,fi] rfl rfl (by kernel_rfl) (fun _ _ _ h => h) (Or.inl ⟨by rfl, ?_⟩) ?_ ?_; rotate_left; (· (intro w'; go_simp; with_reducible rfl)); rotate_left; (· (simp only [Act.put, putAll, sI, s0, sS, i64_w, i32_w]; rfl))
      refine pure_ (i := 4) (N := some 67) (v := ?_) (a' := ?_) #[ti,ti,ti,ti,ti,fi,fi,fi,fi,fi,fi,fi,fi,fi] rfl rfl (by kernel_rfl) (fun _ _ _ h => h) (Or.inl ⟨by rfl, ?_⟩) ?_ ?_; rotate_left; (· (intro w'; go_simp; with_reducible rfl)); rotate_left; (· (simp only [Act.put, putAll, sI, s0, sS, i64_w, i32_w]; rfl))
      refine pure_ (i := 5) (N := some 68) (v := ?_) (a' := ?_) #[ti,ti,ti,ti,ti,ti,fi,fi,fi,fi,fi,fi,fi,fi] rfl rfl (by kernel_rfl) (fun _ _ _ h => h) (Or.inl ⟨by rfl, ?_⟩) ?_ ?_; rotate_left; (· (intro w'; go_simp; with_reducible rfl)); rotate_left; (· (simp only [Act.put, putAll, sI, s0, sS, i64_w, i32_w]; rfl))
      refine take_ (i := 6) (N := some 69) (v := ?_) (a' := ?_) #[ti,ti,ti,ti,ti,ti,ti,fi,fi,fi,fi,fi,fi,fi] rfl rfl (by kernel_rfl) (fun _ _ _ h => h) (Or.inl ⟨by rfl, ?_⟩) hHeld ?_ ?_
      rotate_left
      ·rintro w' ⟨s0, s1, s2, s3⟩
       go_simp
       with_reducible rfl
      rotate_left
      ·simp only [Act.put, putAll, sI, s0, sS, i64_w, i32_w]
       rfl
      refine take_ (i := 7) (N := some 70) (v := ?_) (a' := ?_) #[ti,ti,ti,ti,ti,ti,ti,ti,fi,fi,fi,fi,fi,fi] rfl rfl (by kernel_rfl) (fun _ _ _ h => h) (Or.inl ⟨by rfl, ?_⟩) hHeld ?_ ?_
      rotate_left
      ·rintro w' ⟨s0, s1, s2, s3⟩
       go_simp
       with_reducible rfl
      rotate_left
      ·simp only [Act.put, putAll, sI, s0, sS, i64_w, i32_w]
       rfl
      refine pure_ (i := 8) (N := some 71) (v := ?_) (a' := ?_) #[ti,ti,ti,ti,ti,ti,ti,ti,ti,fi,fi,fi,fi,fi] rfl rfl (by kernel_rfl) (fun _ _ _ h => h) (Or.inl ⟨by rfl, ?_⟩) ?_ ?_; rotate_left; (· (intro w'; go_simp; with_reducible rfl)); rotate_left; (· (simp only [Act.put, putAll, sI, s0, sS, i64_w, i32_w]; rfl))
      refine pure_ (i := 9) (N := some 72) (v := ?_) (a' := ?_) #[ti,ti,ti,ti,ti,ti,ti,ti,ti,ti,fi,fi,fi,fi] rfl rfl (by kernel_rfl) (fun _ _ _ h => h) (Or.inl ⟨by rfl, ?_⟩) ?_ ?_; rotate_left; (· (intro w'; go_simp; with_reducible rfl)); rotate_left; (· (simp only [Act.put, putAll, sI, s0, sS, i64_w, i32_w]; rfl))
      refine take_ (i := 10) (N := some 73) (v := ?_) (a' := ?_) #[ti,ti,ti,ti,ti,ti,ti,ti,ti,ti,ti,fi,fi,fi] rfl rfl (by kernel_rfl) (fun _ _ _ h => h) (Or.inl ⟨by rfl, ?_⟩) hHeld ?_ ?_
      rotate_left
      ·rintro w' ⟨s0, s1, s2, s3⟩
       go_simp
       with_reducible rfl
      rotate_left
      ·simp only [Act.put, putAll, sI, s0, sS, i64_w, i32_w]
       rfl
      refine pure_ (i := 11) (N := some 74) (v := ?_) (a' := ?_) #[ti,ti,ti,ti,ti,ti,ti,ti,ti,ti,ti,ti,fi,fi] rfl rfl (by kernel_rfl) (fun _ _ _ h => h) (Or.inl ⟨by rfl, ?_⟩) ?_ ?_; rotate_left; (· (intro w'; go_simp; with_reducible rfl)); rotate_left; (· (simp only [Act.put, putAll, sI, s0, sS, i64_w, i32_w]; rfl))
      refine pure_ (i := 12) (N := some 75) (v := ?_) (a' := ?_) #[ti,ti,ti,ti,ti,ti,ti,ti,ti,ti,ti,ti,ti,fi] rfl rfl (by kernel_rfl) (fun _ _ _ h => h) (Or.inl ⟨by rfl, ?_⟩) ?_ ?_; rotate_left; (· (intro w'; go_simp; with_reducible rfl)); rotate_left; (· (simp only [Act.put, putAll, sI, s0, sS, i64_w, i32_w]; rfl))
      obtain ⟨hbs, hbf⟩ := Sep.own_row_cell (0 : Int) HO.out 1 rfl j hj0 HJB.out.1
      refine last_ (i := 13) (N := none) #[ti,ti,ti,ti,ti,ti,ti,ti,ti,ti,ti,ti,ti,ti] rfl rfl (by kernel_rfl) (by decide) (fun K hK => ?_)
      refine skip_ (w1 := ?_) (by rfl) rfl ?_ ?_
      rotate_left
      ·go_simp
       rfl
      refine hK.out _ _ ?_
      clear hK K
      refine done_ (by kernel_rfl) ?_
      have HO2 := aM (Sep.own_put HO.out 1 rfl j (Go.bits .or .i64 (rd (impl_leastSums.bh cv ps.length d) (j + 1)) (rd cv j)))
      go_wp2
      go_roundw
      case measure => simp only [intOf, hwk]; omega
      case rel =>
       have hje := HJ.out; have hd := HD.out; have e : impl_leastSums.bh cv ps.length (d + 1) = (impl_leastSums.bh cv ps.length d).set j.toNat (Go.bits .or .i64 (rd (impl_leastSums.bh cv ps.length d) (j + 1)) (rd cv j)) := by rw [impl_leastSums.bh, ← hje, show ps.length - 1 - d = j.toNat by omega]
       exact ⟨d + 1, j - 1, by omega, by omega, by rw [hwk], ⟨by rw [e]; exact HO2.out⟩⟩
     ·have c2b := decide_eq_false hj0
      have p1 : (0 ≤ j) = False := eq_false hj0; obtain rfl : d = ps.length := by omega
      clear hje hd hbl
      go_wp2_with (first | ((with_reducible refine gate_dst (N := 76) rfl ?_); refine Sep.own_lit0 k72 HO.out 72 ?hg (N := 76) ?hd ?hr ?_; (case hd => rfl); (case hg => rfl); (case hr => exact zc_); intro v_ w6 ho _; obtain ⟨Af_, cf_, rfl⟩ := ho.row_slice 0 rfl; have HO6 := aM ho; clear ho) | ((with_reducible refine gate_dst (N := 13) rfl ?_); refine box_event ?hg (N := 13) ?hd (cs := #[.slice none 0 0]) (t := 68) ?hr ?_; (case hd => rfl); (case hg => rfl); (case hr => exact zc_); intro gf hg w7 hbox hb; have HO7 := aM (HO6.out.add_box (T := 68) (cs := #[.slice none 0 0]) hg hbox hb); clear hg hbox hb) | ((with_reducible refine gate_store (t := 68) (p := 13) (v := .tmp 76) rfl ?_); refine Sep.own_store HO7.out 0 gf 68 _ #[.slice Af_ ([] : List (S72)).length cf_] rfl rfl rfl 68 (.tmp 13) (.tmp 76) rfl rfl _ rfl rfl rfl (by kernel_rfl) (by simp [Value.oneCell']) ?_; intro w8 ho; have HO8 := aM ho; clear ho) | ((with_reducible refine gate_dst (N := 14) rfl ?_); refine box_event ?hg (N := 14) ?hd (cs := #[.int .i64 0]) (t := 3) ?hr ?_; (case hd => rfl); (case hg => rfl); (case hr => exact zc_); intro gn hg w9 hbox hb; have HO9 := aM (HO8.out.add_box (T := 3) (cs := #[.int .i64 0]) hg hbox hb); clear hg hbox hb) | ((with_reducible refine gate_store (t := 3) (p := 14) (v := .const (.int .i64 0)) rfl ?_); refine Sep.own_store HO9.out 0 gn 3 _ #[.int .i64 0] rfl rfl rfl 3 (.tmp 14) (.const (.int .i64 0)) rfl rfl (.int .i64 0) rfl rfl rfl (by kernel_rfl) (by simp [Value.oneCell']) ?_; intro w10 ho; have HO10 := aM ho; clear ho) | ((with_reducible refine gate_dst (N := 15) rfl ?_); refine box_event ?hg (N := 15) ?hd (cs := #[.nilFunc]) (t := 167) ?hr ?_; (case hd => rfl); (case hg => rfl); (case hr => exact zc_); intro gx hg w11 hbox hb; have HO11 := aM (HO10.out.add_box (T := 167) (cs := #[.nilFunc]) hg hbox hb); clear hg hbox hb) | ((with_reducible refine gate_store (t := 167) (p := 15) (v := .tmp 77) rfl ?_); refine Sep.own_store HO11.out 0 gx 167 _ #[.func (.func 187) #[] #[.pointer (some ⟨gg, 0, none⟩), .pointer (some ⟨gn, 0, none⟩), .pointer (some ⟨gf, 0, none⟩), .pointer (some ⟨gp, 0, none⟩), .pointer (some ⟨gb, 0, none⟩), .pointer (some ⟨gx, 0, none⟩), .pointer (some ⟨gc, 0, none⟩)]] rfl rfl rfl 167 (.tmp 15) (.tmp 77) rfl rfl _ rfl rfl rfl (by kernel_rfl) (by simp [Value.oneCell']) ?_; intro w12 ho; have HO12 := aM ho; clear ho))
      have hown : Sep.Own w w12 (impl_leastSums.items gg gn gf gp gb gx gc (.slice none 0 0) (.slice Af_ ([] : List (S72)).length cf_) (.slice Ap ps.length cp) (.slice (some ⟨gbr, 0, none⟩) (ps.length + 1) capb) (.slice Ac ps.length cc) [] ([], 0) goal ps (impl_leastSums.bh cv ps.length ps.length) cv [Item.box gt 60 #[.int .i64 a0_0, .slice A0_1 l0_1.length c0_1]]) := ((((((((((((HO12.out.front 11 rfl).front 1 rfl).front 9 rfl).front 9 rfl).front 8 rfl).front 8 rfl).front 11 rfl).front 11 rfl).front 11 rfl).front 11 rfl).front 11 rfl).front 11 rfl).add (Below.refl _ _) (Item.row k72 72 (.slice none 0 0) []) (show Kd.R _ _ _ _ _ _ _ from Kd.R_nil _ _ _ _ _); have HO13 := aM hown; clear hown HO12
      go_loopg [16] k (fun kq v16 w' => ∃ (st : List (S72) × Int) (vf : Value) (m : Int), v16 = .int .i64 m ∧ Aside0 (impl_leastSums.n kq goal ps cv (impl_leastSums.bh cv ps.length ps.length) m st = some (r1, r2)) ∧ Aside0 (kq ≤ k) ∧ Aside0 (Own w w' (impl_leastSums.items gg gn gf gp gb gx gc (.slice none 0 0) vf (.slice Ap ps.length cp) (.slice (some ⟨gbr, 0, none⟩) (ps.length + 1) capb) (.slice Ac ps.length cc) [] st goal ps (impl_leastSums.bh cv ps.length ps.length) cv [Item.box gt 60 #[.int .i64 a0_0, .slice A0_1 l0_1.length c0_1]])))
      case atStart => exact ⟨([], 0), _, 0, zb_, HN, ⟨Nat.le_refl _⟩, HO13⟩
      case round =>
       clear HN HO13; obtain ⟨st, vf, m, rfl, HA, HK1, HO⟩ := hrel
       cases gk with
       | zero => exact absurd HA.out (by simp [impl_leastSums.n])
       | succ k1 =>
        have H := HA.out; clear HA
        simp only [impl_leastSums.n] at H
        have zp : wr.cell? ⟨gp, 0, none⟩ = some (.slice Ap ps.length cp) := HO.out.cell 5 rfl 0 rfl; have zx : wr.cell? ⟨gx, 0, none⟩ = some (.func (.func 187) #[] #[.pointer (some ⟨gg, 0, none⟩), .pointer (some ⟨gn, 0, none⟩), .pointer (some ⟨gf, 0, none⟩), .pointer (some ⟨gp, 0, none⟩), .pointer (some ⟨gb, 0, none⟩), .pointer (some ⟨gx, 0, none⟩), .pointer (some ⟨gc, 0, none⟩)]) := HO.out.cell 11 rfl 0 rfl
        by_cases c3 : m ≤ (ps.length : Int)
        ·rw [if_pos c3] at H
         have c3b := decide_eq_true c3; obtain ⟨st1, hE, H1⟩ := oB.mp H; clear H; have H := H1; clear H1; have HE := aM hE; clear hE
         by_cases c4 : st1.2 > 0
         ·rw [if_pos c4] at H
          obtain rfl := Option.some.inj H; have c4b := decide_eq_true c4
          go_wp2_with (first | ((with_reducible refine gate_dst (N := 86) rfl ?_); (refine Sep.goesCL_ (some 86) rfl rfl (f := 187) (fn := Try.f187) Try.func187 (by kernel_rfl) rfl #[.slice none 0 0, .int .i64 0, .int .i64 0, .int .i64 m, .pointer (some ⟨gg, 0, none⟩), .pointer (some ⟨gn, 0, none⟩), .pointer (some ⟨gf, 0, none⟩), .pointer (some ⟨gp, 0, none⟩), .pointer (some ⟨gb, 0, none⟩), .pointer (some ⟨gx, 0, none⟩), .pointer (some ⟨gc, 0, none⟩)] rfl rfl zeb_ ?_; (with_reducible refine (impl_leastSums.ext goal ps _ cv w gg gn gf gp gb gx gc _ _ _ k1 [] 0 0 m st wr _ _ _ (r1, r2) HO.out (by simp) HE.out).mono ?_); rintro e w20 ⟨rfl, vf2, ho⟩; refine ⟨_, rfl, ?_⟩; have HO2 := aM ho; have zn : w20.cell? ⟨gn, 0, none⟩ = some (.int .i64 r2) := HO2.out.cell 1 rfl 0 rfl; have zp2 : w20.cell? ⟨gp, 0, none⟩ = some (.slice Ap ps.length cp) := HO2.out.cell 5 rfl 0 rfl; clear ho)))
          have HOd := aM (HO2.out.drew); clear HO2; have HO2 := HOd; clear HOd
          refine start_ (n := 4) (S := fun w' => w'.cell? ⟨gf, 0, none⟩ = some (vf2) ∧ w'.cell? ⟨gn, 0, none⟩ = some (.int .i64 r2)) (ds := []) #[fi,fi,fi,fi] (by kernel_rfl) rfl rfl ⟨HO2.out.cell 2 rfl 0 rfl, HO2.out.cell 1 rfl 0 rfl⟩ (fun hHeld => ?_)
          generalize w20.drew = wz at HO2 hHeld ⊢
          refine take_ (i := 0) (N := some 89) (v := ?_) (a' := ?_) #[ti,fi,fi,fi] rfl rfl (by kernel_rfl) (fun _ _ _ h => h) (Or.inl ⟨by rfl, ?_⟩) hHeld ?_ ?_
          rotate_left
          ·rintro w' ⟨s0, s1⟩
           go_simp
           with_reducible rfl
          rotate_left
          ·simp only [Act.put, putAll, sI, s0, sS, i64_w, i32_w]
           rfl
          refine take_ (i := 1) (N := some 90) (v := ?_) (a' := ?_) #[ti,ti,fi,fi] rfl rfl (by kernel_rfl) (fun _ _ _ h => h) (Or.inl ⟨by rfl, ?_⟩) hHeld ?_ ?_
          rotate_left
          ·rintro w' ⟨s0, s1⟩
           go_simp
           with_reducible rfl
          rotate_left
          ·simp only [Act.put, putAll, sI, s0, sS, i64_w, i32_w]
           rfl
          refine pure_ (i := 2) (N := some 2) (v := ?_) (a' := ?_) #[ti,ti,ti,fi] rfl rfl (by kernel_rfl) (fun _ _ _ h => h) (Or.inl ⟨by rfl, ?_⟩) ?_ ?_; rotate_left; (· (intro w'; go_simp; with_reducible rfl)); rotate_left; (· (simp only [Act.put, putAll, sI, s0, sS, i64_w, i32_w]; rfl))
          refine pure_ (i := 3) (N := some 3) (v := ?_) (a' := ?_) #[ti,ti,ti,ti] rfl rfl (by kernel_rfl) (fun _ _ _ h => h) (Or.inl ⟨by rfl, ?_⟩) ?_ ?_; rotate_left; (· (intro w'; go_simp; with_reducible rfl)); rotate_left; (· (simp only [Act.put, putAll, sI, s0, sS, i64_w, i32_w]; rfl))
          refine done_ (by kernel_rfl) ?_
          go_wp2
          go_ret2
          obtain ⟨P, hP⟩ := HO2.out.get 3 rfl
          exact ⟨_, rfl, Kd.R_mono hP (fun _ _ => trivial), HO2.out.base⟩
         ·rw [if_neg c4] at H
          have c4b := decide_eq_false c4; have H' := aM H; clear H
          go_wp2_with (first | ((with_reducible refine gate_dst (N := 86) rfl ?_); (refine Sep.goesCL_ (some 86) rfl rfl (f := 187) (fn := Try.f187) Try.func187 (by kernel_rfl) rfl #[.slice none 0 0, .int .i64 0, .int .i64 0, .int .i64 m, .pointer (some ⟨gg, 0, none⟩), .pointer (some ⟨gn, 0, none⟩), .pointer (some ⟨gf, 0, none⟩), .pointer (some ⟨gp, 0, none⟩), .pointer (some ⟨gb, 0, none⟩), .pointer (some ⟨gx, 0, none⟩), .pointer (some ⟨gc, 0, none⟩)] rfl rfl zeb_ ?_; (with_reducible refine (impl_leastSums.ext goal ps _ cv w gg gn gf gp gb gx gc _ _ _ k1 [] 0 0 m st wr _ _ _ st1 HO.out (by simp) HE.out).mono ?_); rintro e w20 ⟨rfl, vf2, ho⟩; refine ⟨_, rfl, ?_⟩; have HO2 := aM ho; have zn : w20.cell? ⟨gn, 0, none⟩ = some (.int .i64 st1.2) := HO2.out.cell 1 rfl 0 rfl; have zp2 : w20.cell? ⟨gp, 0, none⟩ = some (.slice Ap ps.length cp) := HO2.out.cell 5 rfl 0 rfl; clear ho)))
          go_roundg k1
          case measure => have := HK1.out; omega
          case rel => exact ⟨st1, vf2, wrap64 (m + 1), zb_, H', ⟨zba_⟩, HO2⟩
        ·rw [if_neg c3] at H
         obtain rfl := Option.some.inj H; have c3b := decide_eq_false c3
         go_wp2
         have HOd := aM (HO.out.drew); clear HO; have HO := HOd; clear HOd
         refine start_ (n := 4) (S := fun w' => w'.cell? ⟨gf, 0, none⟩ = some (vf) ∧ w'.cell? ⟨gn, 0, none⟩ = some (.int .i64 r2)) (ds := []) #[fi,fi,fi,fi] (by kernel_rfl) rfl rfl ⟨HO.out.cell 2 rfl 0 rfl, HO.out.cell 1 rfl 0 rfl⟩ (fun hHeld => ?_)
         generalize wr.drew = wz at HO hHeld ⊢
         refine take_ (i := 0) (N := some 89) (v := ?_) (a' := ?_) #[ti,fi,fi,fi] rfl rfl (by kernel_rfl) (fun _ _ _ h => h) (Or.inl ⟨by rfl, ?_⟩) hHeld ?_ ?_
         rotate_left
         ·rintro w' ⟨s0, s1⟩
          go_simp
          with_reducible rfl
         rotate_left
         ·simp only [Act.put, putAll, sI, s0, sS, i64_w, i32_w]
          rfl
         refine take_ (i := 1) (N := some 90) (v := ?_) (a' := ?_) #[ti,ti,fi,fi] rfl rfl (by kernel_rfl) (fun _ _ _ h => h) (Or.inl ⟨by rfl, ?_⟩) hHeld ?_ ?_
         rotate_left
         ·rintro w' ⟨s0, s1⟩
          go_simp
          with_reducible rfl
         rotate_left
         ·simp only [Act.put, putAll, sI, s0, sS, i64_w, i32_w]
          rfl
         refine pure_ (i := 2) (N := some 2) (v := ?_) (a' := ?_) #[ti,ti,ti,fi] rfl rfl (by kernel_rfl) (fun _ _ _ h => h) (Or.inl ⟨by rfl, ?_⟩) ?_ ?_; rotate_left; (· (intro w'; go_simp; with_reducible rfl)); rotate_left; (· (simp only [Act.put, putAll, sI, s0, sS, i64_w, i32_w]; rfl))
         refine pure_ (i := 3) (N := some 3) (v := ?_) (a' := ?_) #[ti,ti,ti,ti] rfl rfl (by kernel_rfl) (fun _ _ _ h => h) (Or.inl ⟨by rfl, ?_⟩) ?_ ?_; rotate_left; (· (intro w'; go_simp; with_reducible rfl)); rotate_left; (· (simp only [Act.put, putAll, sI, s0, sS, i64_w, i32_w]; rfl))
         refine done_ (by kernel_rfl) ?_
         go_wp2
         go_ret2
         obtain ⟨P, hP⟩ := HO.out.get 3 rfl
         exact ⟨_, rfl, Kd.R_mono hP (fun _ _ => trivial), HO.out.base⟩
 ·rw [if_neg hpn] at h1
  cases h1
end Go.Proofs.Ytbkighlfgaifeaa.QFnLeastSums
