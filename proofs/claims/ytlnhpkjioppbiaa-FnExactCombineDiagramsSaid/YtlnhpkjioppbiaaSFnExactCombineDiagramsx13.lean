/- Functions of FnExactCombineDiagrams, each as a Lean function, with the proof that the Go code comes to its answers. -/
import Derived.Test.YtlnhpkjioppbiaaSFnExactCombineDiagramsx0
import Derived.Test.YtlnhpkjioppbiaaSFnExactCombineDiagramsx3
import Derived.Test.YtlnhpkjioppbiaaSFnExactCombineDiagramsx9
namespace Go.Proofs.Ytlnhpkjioppbiaa.QFnExactCombineDiagrams
open Go.RowKit Go.Proofs.YtlnhpkjioppbiaaW.PrintWords Go.Proofs.YtlnhpkjioppbiaaW.PrintLast Go.Proofs.YtlnhpkjioppbiaaW.PrintMore
open Go.Proofs.YtlnhpkjioppbiaaW.PrintWords renaming pw_below_drewN → pN, below_drew1 → p1, below_alloc → pA
open Go.Proofs.YtlnhpkjioppbiaaW.PrintWords.Kd renaming R_alloc → kA, R_drewN → kN, R_drew → kD, C_alloc → cA, C_drewN → cN, C_drew → cD
open Go.Proofs.YtlnhpkjioppbiaaW.PrintWords.Aside0 renaming mk → aM
open List renaming setIfInBounds_toArray → sI, set_cons_zero → s0, set_cons_succ → sS, map_toArray → mT, length_take → lT, length_drop → lD, map_cons → mC, map_nil → mN
attribute [local go_sem] max2_int min2_int max_two min_two max_three min_three max_four min_four
set_option linter.unusedVariables false
set_option linter.unusedSimpArgs false
section
attribute [local go_sem high] nd_eqA
open Go.Proofs.Ytlnhpkjioppbiaa.Sep in
set_option maxHeartbeats 16000000 in
set_option maxRecDepth 100000 in
theorem impl_diagramOf.build (w0 : World) (gt gv gd n : Nat) (hn : n ≤ 4) (vs : List Int) (hv : vs.length = 2 ^ n) (At : Option Addr) (ct : Nat) (hr : Kd.C (Kd.int .i64) w0 At vs.length vs) : ∀ (d idx : Nat) (ns : List (S93)) (i xx : Int) (w : World) (vn : Value) (F : List Sep.Item) (_hd : d ≤ n) (_hi : idx < 2 ^ (n - d)) (_he : i = ((n - d : Nat) : Int)) (_hx : xx = (idx : Int)) (_hb : ns.length + 2 ^ d ≤ 1000) (_h : Own w0 w (Sep.Item.box gd 28 #[.int .i64 ((n : Int)), vn, .int .i64 0] :: Sep.Item.row k93 93 (vn) (ns) :: Sep.Item.box gt 41 #[.int .i64 ((n : Int)), .slice At vs.length ct] :: Sep.Item.box gv 89 #[.func (.func 109) #[] #[.pointer (some ⟨gt, 0, none⟩), .pointer (some ⟨gv, 0, none⟩), .pointer (some ⟨gd, 0, none⟩)]] :: F)),
  Calls Try.prog 109 #[.int .i64 i, .int .i64 xx, .pointer (some ⟨gt, 0, none⟩), .pointer (some ⟨gv, 0, none⟩), .pointer (some ⟨gd, 0, none⟩)] w fun e w' => e = .returned (.int .i64 (ndBuild vs n d idx ns).2) ∧ ∃ vn' : Value, Own w0 w' (Sep.Item.box gd 28 #[.int .i64 ((n : Int)), vn', .int .i64 0] :: Sep.Item.row k93 93 (vn') ((ndBuild vs n d idx ns).1) :: Sep.Item.box gt 41 #[.int .i64 ((n : Int)), .slice At vs.length ct] :: Sep.Item.box gv 89 #[.func (.func 109) #[] #[.pointer (some ⟨gt, 0, none⟩), .pointer (some ⟨gv, 0, none⟩), .pointer (some ⟨gd, 0, none⟩)]] :: F) := by
 have HVL := aM hv
 clear hv
 intro d
 induction d with
 | zero =>
  intro idx ns i xx w vn F hd hi he hx hb h
  obtain ⟨An, cn, rfl⟩ := h.row_slice 1 rfl; have HO := aM h; have HB := aM hb; have HI := aM he; have HX := aM hx; have HR := aM hr; clear h hb hr; have c1b : (i == (n : Int)) = true := beq_iff_eq.mpr (by omega); have hx0 : 0 ≤ xx := by omega
  have hx1 : xx < (vs.length : Int) := by rw [HVL.out, hx]; simp only [Nat.sub_zero] at hi; omega
  obtain ⟨ad, ead, hc⟩ := Kd.at_int HR.out xx hx0 hx1
  cases ead
  have p1 : (0 ≤ xx) = True := eq_true hx0; have q1 : (xx < (vs.length : Int)) = True := eq_true hx1; obtain ⟨v, hv_⟩ : ∃ v, rd vs xx = v := ⟨_, rfl⟩; rw [hv_] at hc; have HV := aM hv_; clear hc hv_ hi he hx
  go_enter Try.func109, Try.ntmps109
  have z_1 : w.cell? ⟨gt, 0, none⟩ = some (.int .i64 ((n : Int))) := (HO.out.cell 2 rfl 0 rfl); have z_2 : w.cell? ⟨gt, 1, none⟩ = some (.slice ((some ad)) vs.length ct) := (HO.out.cell 2 rfl 1 rfl); have z_3 : w.cell? (ad.add xx.toNat) = some (.int .i64 v) := (by obtain ⟨_, e, h_⟩ := Kd.at_int (Kd.C_below HR.out HO.out.base) xx hx0 hx1; cases e; rw [HV.out] at h_; exact h_)
  go_wp2
  go_ret
  rw [ndBuild]
  exact ⟨by rw [← HX.out]; show _ = Ending.returned (.int .i64 (rd vs xx)); rw [HV.out]; rfl, _, HO.out⟩
 | succ d ih =>
  intro idx ns i xx w vn F hd hi he hx hb h
  obtain ⟨An, cn, rfl⟩ := h.row_slice 1 rfl; have HO := aM h; have HB := aM hb; have HI := aM he; have HX := aM hx; have HR := aM hr; clear h hb hr; obtain ⟨hs1, hs2, hs3, hs4, hs5, hs6⟩ := nd_shl n d idx hn hd hi; rw [← he] at hs1; rw [← hx] at hs6; have c1b : (i == (n : Int)) = false := beq_eq_false_iff_ne.mpr (by omega); have hi1 : wrap64 (i + 1) = ((n - d : Nat) : Int) := by unfold wrap64; omega
  obtain ⟨pp, hpp⟩ : ∃ p : Nat, p = 2 ^ (n - (d + 1)) := ⟨_, rfl⟩; rw [← hpp] at hs1 hs3 hs5 hs6; obtain ⟨x1, hx1⟩ : ∃ x1 : Int, x1 = ((idx + pp : Nat) : Int) := ⟨_, rfl⟩; rw [← hx1] at hs6; have hi0 : 0 ≤ i := by omega
  have hi4 : i ≤ 3 := by omega
  have p0 : (0 ≤ i) = True := eq_true hi0; have hb2 := HB.out; rw [Nat.pow_succ] at hb2; have hsh : wrap64 (2 ^ min i.toNat 64) = (pp : Int) := by rw [← hs1]; unfold shl; rw [Int.one_mul, IntKind.wrap_i64, show IntKind.i64.bits = 64 from rfl]; unfold wrap64; omega
  generalize hA : ndBuild vs n d idx ns = ra; obtain ⟨n1, lo⟩ := ra; have hla := ndBuild_length vs n d idx ns; rw [hA] at hla; generalize hB2 : ndBuild vs n d (idx + pp) n1 = rb; obtain ⟨n2, hh⟩ := rb; have hlb := ndBuild_length vs n d (idx + pp) n1; rw [hB2] at hlb
  dsimp only at hla hlb
  have hfin : ndBuild vs n (d + 1) idx ns = ndNode n2 ⟨i, lo, hh⟩ := by rw [ndBuild, hA, ← hpp]; dsimp only; rw [hB2, he]
  have HA := aM hA; have HB2 := aM hB2; have HFIN := aM hfin; have HN1 := aM (show n1.length + 2 ^ d ≤ 1000 by omega); have HN2 := aM (show n2.length ≤ 999 by omega); have HN0 := aM (show ns.length + 2 ^ d ≤ 1000 by omega); have IH := aM ih; have HS3 := aM hs3; have HS4 := aM hs4; have HX1 := aM hx1; have HI1 := aM hi1; have HD := aM (show d ≤ n by omega); clear hi0 hi4 ih hla hlb hA hB2 hfin hs1 hs2 hs3 hs4 hs5 hi he hx hi1 hx1 hb2 hd hpp
  by_cases c2 : lo = hh
  ·have c2b : (lo == hh) = true := beq_iff_eq.mpr c2
   have HNE := aM (show ndNode n2 (⟨i, lo, hh⟩ : S93) = (n2, lo) from by unfold ndNode; rw [if_pos c2]); clear c2
   go_enter Try.func109, Try.ntmps109
   have z_1 : w.cell? ⟨gt, 0, none⟩ = some (.int .i64 ((n : Int))) := (HO.out.cell 2 rfl 0 rfl); have z_2 : w.cell? ⟨gv, 0, none⟩ = some (.func (.func 109) #[] #[.pointer (some ⟨gt, 0, none⟩), .pointer (some ⟨gv, 0, none⟩), .pointer (some ⟨gd, 0, none⟩)]) := (HO.out.cell 3 rfl 0 rfl)
   go_wp2_with (first | ((with_reducible refine gate_dst (N := 26) rfl ?_); refine Sep.goesCL_ (some 26) rfl rfl (f := 109) (fn := Try.f109) Try.func109 (by kernel_rfl) rfl #[.int .i64 (wrap64 (i + 1)), .int .i64 xx, .pointer (some ⟨gt, 0, none⟩), .pointer (some ⟨gv, 0, none⟩), .pointer (some ⟨gd, 0, none⟩)] rfl rfl (by (try simp only [mT, mC, mN]); first | done | rfl | (simp only [hsh, hs6]; rfl)) ?_; refine (IH.out idx (ns) (wrap64 (i + 1)) xx _ _ (F) HD.out HS4.out HI1.out HX.out HN0.out ((((HO.out.front 3 rfl).front 3 rfl).front 3 rfl).front 3 rfl)).mono ?_; rw [HA.out]; rintro e w_1 ⟨rfl, vo, ho⟩; refine ⟨_, rfl, ?_⟩; obtain ⟨A_b26, c_b26, rfl⟩ := ho.row_slice 1 rfl; have HO_1 := aM ho; clear ho))
   have HD_4_2 := aM (HO_1.out.drew)
   refine start_ (n := 9) (S := fun w' => w'.cell? ⟨gv, 0, none⟩ = some (.func (.func 109) #[] #[.pointer (some ⟨gt, 0, none⟩), .pointer (some ⟨gv, 0, none⟩), .pointer (some ⟨gd, 0, none⟩)])) (ds := []) #[fi,fi,fi,fi,fi,fi,fi,fi,fi] (by kernel_rfl) rfl rfl ((HD_4_2.out.cell 3 rfl 0 rfl)) (fun hHeld => ?_)
   generalize w_1.drew = wd_4_3 at HD_4_2 hHeld ⊢
   refine pure_ (i := 1) (N := some 28) (v := ?_) (a' := ?_) #[fi,ti,fi,fi,fi,fi,fi,fi,fi] rfl rfl (by kernel_rfl) (fun _ _ _ h => h) (Or.inl ⟨by rfl, ?_⟩) ?_ ?_; rotate_left; (· (intro w'; go_simp; with_reducible rfl)); rotate_left; (· (simp only [Act.put, sI, s0, sS, i64_w, i32_w]; rfl))
   refine pure_ (i := 2) (N := some 29) (v := ?_) (a' := ?_) #[fi,ti,ti,fi,fi,fi,fi,fi,fi] rfl rfl (by kernel_rfl) (fun _ _ _ h => h) (Or.inl ⟨by rfl, ?_⟩) ?_ ?_; rotate_left; (· (intro w'; go_simp; with_reducible rfl)); rotate_left; (· (simp only [Act.put, sI, s0, sS, i64_w, i32_w]; rfl))
   refine pure_ (i := 3) (N := some 30) (v := ?_) (a' := ?_) #[fi,ti,ti,ti,fi,fi,fi,fi,fi] rfl rfl (by kernel_rfl) (fun _ _ _ h => h) (Or.inl ⟨by rfl, ?_⟩) ?_ ?_; rotate_left; (· (intro w'; go_simp; with_reducible rfl)); rotate_left; (· (simp only [Act.put, sI, s0, sS, i64_w, i32_w]; rfl))
   refine pure_ (i := 4) (N := some 31) (v := ?_) (a' := ?_) #[fi,ti,ti,ti,ti,fi,fi,fi,fi] rfl rfl (by kernel_rfl) (fun _ _ _ h => h) (Or.inl ⟨by rfl, ?_⟩) ?_ ?_; rotate_left; (· (intro w'; go_simp; with_reducible rfl)); rotate_left; (· (simp only [Act.put, sI, s0, sS, i64_w, i32_w]; rfl))
   refine pure_ (i := 5) (N := some 32) (v := ?_) (a' := ?_) #[fi,ti,ti,ti,ti,ti,fi,fi,fi] rfl rfl (by kernel_rfl) (fun _ _ _ h => h) (Or.inl ⟨by rfl, ?_⟩) ?_ ?_; rotate_left; (· (intro w'; go_simp; with_reducible rfl)); rotate_left; (· (simp only [Act.put, sI, s0, sS, i64_w, i32_w]; rfl))
   refine pure_ (i := 6) (N := some 33) (v := ?_) (a' := ?_) #[fi,ti,ti,ti,ti,ti,ti,fi,fi] rfl rfl (by kernel_rfl) (fun _ _ _ h => h) (Or.inl ⟨by rfl, ?_⟩) ?_ ?_; rotate_left; (· (intro w'; go_simp; with_reducible rfl)); rotate_left; (· (simp only [Act.put, sI, s0, sS, i64_w, i32_w]; rfl))
   refine take_ (i := 0) (N := some 27) (v := ?_) (a' := ?_) #[ti,ti,ti,ti,ti,ti,ti,fi,fi] rfl rfl (by kernel_rfl) (fun _ _ _ h => h) (Or.inl ⟨by rfl, ?_⟩) hHeld ?_ ?_
   rotate_left
   ·intro w' s0
    go_simp
    with_reducible rfl
   rotate_left
   ·simp only [Act.put, sI, s0, sS, i64_w, i32_w]
    rfl
   refine one_ (i := 7) (N := some 34) #[ti,ti,ti,ti,ti,ti,ti,ti,fi] rfl rfl (by kernel_rfl) (by decide) (fun K hK => ?_)
   refine Sep.goesC_ (f := 109) Try.func109 (by kernel_rfl) rfl #[.int .i64 (wrap64 (i + 1)), .int .i64 x1, .pointer (some ⟨gt, 0, none⟩), .pointer (some ⟨gv, 0, none⟩), .pointer (some ⟨gd, 0, none⟩)] (by rfl) rfl rfl rfl zgc_ ?_
   refine (IH.out (idx + pp) (n1) (wrap64 (i + 1)) x1 _ _ (F) HD.out HS3.out HI1.out HX1.out HN1.out ((((HD_4_2.out.front 3 rfl).front 3 rfl).front 3 rfl).front 3 rfl)).mono ?_
   rw [HB2.out]
   rintro e w_2 ⟨rfl, vo, ho⟩
   refine ⟨_, rfl, ?_⟩
   obtain ⟨A_b34, c_b34, rfl⟩ := ho.row_slice 1 rfl; have HO_2 := aM ho; clear ho
   refine hK.out _ _ ((HO_2.out.cell 3 rfl 0 rfl)) (fun hHeld => ?_)
   clear hK K
   refine norm_ (a' := ?_) ?_ ?_
   rotate_left
   ·show Act.put _ (some 34) _ = _
    simp only [Act.put, sI, s0, sS, i64_w, i32_w]
    rfl
   refine pure_ (i := 8) (N := some 9) (v := ?_) (a' := ?_) #[ti,ti,ti,ti,ti,ti,ti,ti,ti] rfl rfl (by kernel_rfl) (fun _ _ _ h => h) (Or.inl ⟨by rfl, ?_⟩) ?_ ?_; rotate_left; (· (intro w'; go_simp; with_reducible rfl)); rotate_left; (· (simp only [Act.put, sI, s0, sS, i64_w, i32_w]; rfl))
   refine done_ (by kernel_rfl) ?_
   go_wp2
   go_ret
   rw [HFIN.out, HNE.out]
   exact ⟨rfl, _, HO_2.out⟩
  ·have c2b : (lo == hh) = false := beq_eq_false_iff_ne.mpr c2
   have HND := aM (show ndNode n2 (⟨i, lo, hh⟩ : S93) = if ndAt (⟨i, lo, hh⟩ : S93) n2 < n2.length then (n2, 2 + (ndAt (⟨i, lo, hh⟩ : S93) n2 : Int)) else (n2 ++ [(⟨i, lo, hh⟩ : S93)], 2 + (n2.length : Int)) from by unfold ndNode; rw [if_neg c2]); clear c2
   go_enter Try.func109, Try.ntmps109
   have z_1 : w.cell? ⟨gt, 0, none⟩ = some (.int .i64 ((n : Int))) := (HO.out.cell 2 rfl 0 rfl); have z_2 : w.cell? ⟨gv, 0, none⟩ = some (.func (.func 109) #[] #[.pointer (some ⟨gt, 0, none⟩), .pointer (some ⟨gv, 0, none⟩), .pointer (some ⟨gd, 0, none⟩)]) := (HO.out.cell 3 rfl 0 rfl)
   go_wp2_with (first | ((with_reducible refine gate_dst (N := 26) rfl ?_); refine Sep.goesCL_ (some 26) rfl rfl (f := 109) (fn := Try.f109) Try.func109 (by kernel_rfl) rfl #[.int .i64 (wrap64 (i + 1)), .int .i64 xx, .pointer (some ⟨gt, 0, none⟩), .pointer (some ⟨gv, 0, none⟩), .pointer (some ⟨gd, 0, none⟩)] rfl rfl (by (try simp only [mT, mC, mN]); first | done | rfl | (simp only [hsh, hs6]; rfl)) ?_; refine (IH.out idx (ns) (wrap64 (i + 1)) xx _ _ (F) HD.out HS4.out HI1.out HX.out HN0.out ((((HO.out.front 3 rfl).front 3 rfl).front 3 rfl).front 3 rfl)).mono ?_; rw [HA.out]; rintro e w_1 ⟨rfl, vo, ho⟩; refine ⟨_, rfl, ?_⟩; obtain ⟨A_b26, c_b26, rfl⟩ := ho.row_slice 1 rfl; have HO_1 := aM ho; clear ho))
   have HD_4_2 := aM (HO_1.out.drew)
   refine start_ (n := 9) (S := fun w' => w'.cell? ⟨gv, 0, none⟩ = some (.func (.func 109) #[] #[.pointer (some ⟨gt, 0, none⟩), .pointer (some ⟨gv, 0, none⟩), .pointer (some ⟨gd, 0, none⟩)])) (ds := []) #[fi,fi,fi,fi,fi,fi,fi,fi,fi] (by kernel_rfl) rfl rfl ((HD_4_2.out.cell 3 rfl 0 rfl)) (fun hHeld => ?_)
   generalize w_1.drew = wd_4_3 at HD_4_2 hHeld ⊢
   refine pure_ (i := 1) (N := some 28) (v := ?_) (a' := ?_) #[fi,ti,fi,fi,fi,fi,fi,fi,fi] rfl rfl (by kernel_rfl) (fun _ _ _ h => h) (Or.inl ⟨by rfl, ?_⟩) ?_ ?_; rotate_left; (· (intro w'; go_simp; with_reducible rfl)); rotate_left; (· (simp only [Act.put, sI, s0, sS, i64_w, i32_w]; rfl))
   refine pure_ (i := 2) (N := some 29) (v := ?_) (a' := ?_) #[fi,ti,ti,fi,fi,fi,fi,fi,fi] rfl rfl (by kernel_rfl) (fun _ _ _ h => h) (Or.inl ⟨by rfl, ?_⟩) ?_ ?_; rotate_left; (· (intro w'; go_simp; with_reducible rfl)); rotate_left; (· (simp only [Act.put, sI, s0, sS, i64_w, i32_w]; rfl))
   refine pure_ (i := 3) (N := some 30) (v := ?_) (a' := ?_) #[fi,ti,ti,ti,fi,fi,fi,fi,fi] rfl rfl (by kernel_rfl) (fun _ _ _ h => h) (Or.inl ⟨by rfl, ?_⟩) ?_ ?_; rotate_left; (· (intro w'; go_simp; with_reducible rfl)); rotate_left; (· (simp only [Act.put, sI, s0, sS, i64_w, i32_w]; rfl))
   refine pure_ (i := 4) (N := some 31) (v := ?_) (a' := ?_) #[fi,ti,ti,ti,ti,fi,fi,fi,fi] rfl rfl (by kernel_rfl) (fun _ _ _ h => h) (Or.inl ⟨by rfl, ?_⟩) ?_ ?_; rotate_left; (· (intro w'; go_simp; with_reducible rfl)); rotate_left; (· (simp only [Act.put, sI, s0, sS, i64_w, i32_w]; rfl))
   refine pure_ (i := 5) (N := some 32) (v := ?_) (a' := ?_) #[fi,ti,ti,ti,ti,ti,fi,fi,fi] rfl rfl (by kernel_rfl) (fun _ _ _ h => h) (Or.inl ⟨by rfl, ?_⟩) ?_ ?_; rotate_left; (· (intro w'; go_simp; with_reducible rfl)); rotate_left; (· (simp only [Act.put, sI, s0, sS, i64_w, i32_w]; rfl))
   refine pure_ (i := 6) (N := some 33) (v := ?_) (a' := ?_) #[fi,ti,ti,ti,ti,ti,ti,fi,fi] rfl rfl (by kernel_rfl) (fun _ _ _ h => h) (Or.inl ⟨by rfl, ?_⟩) ?_ ?_; rotate_left; (· (intro w'; go_simp; with_reducible rfl)); rotate_left; (· (simp only [Act.put, sI, s0, sS, i64_w, i32_w]; rfl))
   refine take_ (i := 0) (N := some 27) (v := ?_) (a' := ?_) #[ti,ti,ti,ti,ti,ti,ti,fi,fi] rfl rfl (by kernel_rfl) (fun _ _ _ h => h) (Or.inl ⟨by rfl, ?_⟩) hHeld ?_ ?_
   rotate_left
   ·intro w' s0
    go_simp
    with_reducible rfl
   rotate_left
   ·simp only [Act.put, sI, s0, sS, i64_w, i32_w]
    rfl
   refine one_ (i := 7) (N := some 34) #[ti,ti,ti,ti,ti,ti,ti,ti,fi] rfl rfl (by kernel_rfl) (by decide) (fun K hK => ?_)
   refine Sep.goesC_ (f := 109) Try.func109 (by kernel_rfl) rfl #[.int .i64 (wrap64 (i + 1)), .int .i64 x1, .pointer (some ⟨gt, 0, none⟩), .pointer (some ⟨gv, 0, none⟩), .pointer (some ⟨gd, 0, none⟩)] (by rfl) rfl rfl rfl zgc_ ?_
   refine (IH.out (idx + pp) (n1) (wrap64 (i + 1)) x1 _ _ (F) HD.out HS3.out HI1.out HX1.out HN1.out ((((HD_4_2.out.front 3 rfl).front 3 rfl).front 3 rfl).front 3 rfl)).mono ?_
   rw [HB2.out]
   rintro e w_2 ⟨rfl, vo, ho⟩
   refine ⟨_, rfl, ?_⟩
   obtain ⟨A_b34, c_b34, rfl⟩ := ho.row_slice 1 rfl; have HO_2 := aM ho; clear ho
   refine hK.out _ _ ((HO_2.out.cell 3 rfl 0 rfl)) (fun hHeld => ?_)
   clear hK K
   refine norm_ (a' := ?_) ?_ ?_
   rotate_left
   ·show Act.put _ (some 34) _ = _
    simp only [Act.put, sI, s0, sS, i64_w, i32_w]
    rfl
   refine pure_ (i := 8) (N := some 9) (v := ?_) (a' := ?_) #[ti,ti,ti,ti,ti,ti,ti,ti,ti] rfl rfl (by kernel_rfl) (fun _ _ _ h => h) (Or.inl ⟨by rfl, ?_⟩) ?_ ?_; rotate_left; (· (intro w'; go_simp; with_reducible rfl)); rotate_left; (· (simp only [Act.put, sI, s0, sS, i64_w, i32_w]; rfl))
   refine done_ (by kernel_rfl) ?_
   go_wp2_with (first | ((with_reducible refine gate_dst (N := 10) rfl ?_); refine box_event ?hg (N := 10) ?hd (cs := #[.int .i64 0, .int .i64 0, .int .i64 0]) (t := 93) ?hr ?_; (case hd => rfl); (case hg => rfl); (case hr => exact zb_); intro gx hg w_3 hbox hb; have HO_3 := aM (HO_2.out.add_box (T := 93) (cs := #[.int .i64 0, .int .i64 0, .int .i64 0]) hg hbox hb); clear hg hbox hb) | ((with_reducible refine gate_store (t := 93) (p := 10) (v := .tmp 42) rfl ?_); refine Sep.own_store HO_3.out 0 gx 93 _ #[.int .i64 i, .int .i64 lo, .int .i64 hh] rfl rfl rfl 93 (.tmp 10) (.tmp 42) rfl rfl _ rfl rfl rfl (by kernel_rfl) (by simp [Value.oneCell']) ?_; intro w_4 ho; have HO_4 := aM ho; clear ho; have z_4 : w_4.cell? ⟨gd, 1, none⟩ = some (.slice A_b34 n2.length c_b34) := (HO_4.out.cell 1 rfl 1 rfl)))
   (try simp only [Act.put, sI, s0, sS])
   go_loopw [46] (fun v46 wr => ∃ (j : Int), 0 ≤ j ∧ j ≤ (n2.length : Int) ∧ v46 = .int .i64 j ∧ Aside0 (ndAt (⟨i, lo, hh⟩ : S93) (n2.drop j.toNat) + j.toNat = ndAt (⟨i, lo, hh⟩ : S93) n2) ∧ Aside0 (Own w0 wr (Item.box gx 93 #[.int .i64 i, .int .i64 lo, .int .i64 hh] :: Item.box gd 28 #[.int .i64 ((n : Int)), .slice A_b34 n2.length c_b34, .int .i64 0] :: Item.row k93 93 (.slice A_b34 n2.length c_b34) (n2) :: Item.box gt 41 #[.int .i64 ((n : Int)), .slice At vs.length ct] :: Item.box gv 89 #[.func (.func 109) #[] #[.pointer (some ⟨gt, 0, none⟩), .pointer (some ⟨gv, 0, none⟩), .pointer (some ⟨gd, 0, none⟩)]] :: F))) (fun v46 _ => n2.length - (intOf v46).toNat)
   case atStart => exact ⟨0, Int.le_refl _, by omega, rfl, ⟨rfl⟩, ⟨(((((HO_4.out.front 4 rfl).front 4 rfl).front 4 rfl).front 4 rfl).front 4 rfl)⟩⟩
   case round =>
    clear HO HO_4; obtain ⟨j, hj0, hj1, rfl, HJ, HO⟩ := hrel
    by_cases c3 : j < (n2.length : Int)
    ·have c3b := decide_eq_true c3
     have hwj : wrap64 (j + 1) = j + 1 := by have := HN2.out; unfold wrap64; omega
     obtain ⟨adn, er, hx_⟩ := at_T93 (HO.out.row_reads 2 rfl).2.2 j hj0 c3; clear hx_
     cases er
     have p1 : (0 ≤ j) = True := eq_true hj0; have q1 : (j < (n2.length : Int)) = True := eq_true c3; obtain ⟨y0, y1, y2, hnd⟩ : ∃ a0 a1 a2, rd_T93 n2 j = ⟨a0, a1, a2⟩ := ⟨_, _, _, rfl⟩; have HN := aM hnd; have had := ndAt_drop (⟨i, lo, hh⟩ : S93) n2 j hj0 c3; rw [hnd] at had; have HAD := aM had; clear had hnd; have HE := aM (nd_eqb ⟨y0, y1, y2⟩ (⟨i, lo, hh⟩ : S93))
     by_cases c4 : (⟨y0, y1, y2⟩ : S93) = (⟨i, lo, hh⟩ : S93)
     ·have he := HE.out
      rw [decide_eq_true c4] at he
      dsimp only at he
      have ha := HAD.out; rw [if_pos c4] at ha; have hj_ := HJ.out; have HP := aM (show ndAt (⟨i, lo, hh⟩ : S93) n2 = j.toNat by omega); have hw2 : wrap64 (2 + j) = 2 + j := by have := HN2.out; unfold wrap64; omega
      clear ha hj_ c4; have z_5 : wr.cell? (adn.add (j.toNat * 3)) = some (.int .i64 y0) := (by have e := (nd_at3 (HO.out.row_reads 2 rfl).2.2 j hj0 c3).1; rw [HN.out] at e; exact e); have z_6 : wr.cell? ⟨(adn.add (j.toNat * 3)).block, (adn.add (j.toNat * 3)).off + 1, none⟩ = some (.int .i64 y1) := (by have e := (nd_at3 (HO.out.row_reads 2 rfl).2.2 j hj0 c3).2.1; rw [HN.out] at e; exact e); have z_7 : wr.cell? ⟨(adn.add (j.toNat * 3)).block, (adn.add (j.toNat * 3)).off + 2, none⟩ = some (.int .i64 y2) := (by have e := (nd_at3 (HO.out.row_reads 2 rfl).2.2 j hj0 c3).2.2; rw [HN.out] at e; exact e)
      go_wp2_with (first | ((with_reducible refine gate_dst (N := 12) rfl ?_); refine box_event ?hg (N := 12) ?hd (cs := #[.int .i64 0, .int .i64 0, .int .i64 0]) (t := 93) ?hr ?_; (case hd => rfl); (case hg => rfl); (case hr => exact zb_); intro gy hg w_1 hbox hb; have HO_1 := aM (HO.out.add_box (T := 93) (cs := #[.int .i64 0, .int .i64 0, .int .i64 0]) hg hbox hb); clear hg hbox hb) | ((with_reducible refine gate_store (t := 93) (p := 12) (v := .tmp 50) rfl ?_); refine Sep.own_store HO_1.out 0 gy 93 _ #[.int .i64 y0, .int .i64 y1, .int .i64 y2] rfl rfl rfl 93 (.tmp 12) (.tmp 50) rfl rfl _ rfl rfl rfl (by kernel_rfl) (by simp [Value.oneCell']) ?_; intro w_2 ho; have HO_2 := aM ho; clear ho; have z_8 : w_2.cell? ⟨gy, 0, none⟩ = some (.int .i64 y0) := (HO_2.out.cell 0 rfl 0 rfl); have z_9 : w_2.cell? ⟨gy, 1, none⟩ = some (.int .i64 y1) := (HO_2.out.cell 0 rfl 1 rfl); have z_10 : w_2.cell? ⟨gy, 2, none⟩ = some (.int .i64 y2) := (HO_2.out.cell 0 rfl 2 rfl); have z_11 : w_2.cell? ⟨gx, 0, none⟩ = some (.int .i64 i) := (HO_2.out.cell 1 rfl 0 rfl); have z_12 : w_2.cell? ⟨gx, 1, none⟩ = some (.int .i64 lo) := (HO_2.out.cell 1 rfl 1 rfl); have z_13 : w_2.cell? ⟨gx, 2, none⟩ = some (.int .i64 hh) := (HO_2.out.cell 1 rfl 2 rfl)))
      have hnn := HND.out; rw [HP.out, if_pos (by omega), Int.toNat_of_nonneg hj0] at hnn
      go_ret
      rw [HFIN.out, hnn]
      exact ⟨by first | rfl | (rw [hw2]; done) | (rw [hw2]; rfl), _, ((((((HO_2.out.front 5 rfl).front 5 rfl).front 5 rfl).front 5 rfl).front 5 rfl).front 5 rfl).tail.tail⟩
     ·have he := HE.out
      rw [decide_eq_false c4] at he
      dsimp only at he
      have ha := HAD.out; rw [if_neg c4] at ha; have HJ2 := aM (show ndAt (⟨i, lo, hh⟩ : S93) (n2.drop (j + 1).toNat) + (j + 1).toNat = ndAt (⟨i, lo, hh⟩ : S93) n2 by have := HJ.out; omega); clear ha c4; have z_5 : wr.cell? (adn.add (j.toNat * 3)) = some (.int .i64 y0) := (by have e := (nd_at3 (HO.out.row_reads 2 rfl).2.2 j hj0 c3).1; rw [HN.out] at e; exact e); have z_6 : wr.cell? ⟨(adn.add (j.toNat * 3)).block, (adn.add (j.toNat * 3)).off + 1, none⟩ = some (.int .i64 y1) := (by have e := (nd_at3 (HO.out.row_reads 2 rfl).2.2 j hj0 c3).2.1; rw [HN.out] at e; exact e); have z_7 : wr.cell? ⟨(adn.add (j.toNat * 3)).block, (adn.add (j.toNat * 3)).off + 2, none⟩ = some (.int .i64 y2) := (by have e := (nd_at3 (HO.out.row_reads 2 rfl).2.2 j hj0 c3).2.2; rw [HN.out] at e; exact e)
      go_wp2_with (first | ((with_reducible refine gate_dst (N := 12) rfl ?_); refine box_event ?hg (N := 12) ?hd (cs := #[.int .i64 0, .int .i64 0, .int .i64 0]) (t := 93) ?hr ?_; (case hd => rfl); (case hg => rfl); (case hr => exact zb_); intro gy hg w_1 hbox hb; have HO_1 := aM (HO.out.add_box (T := 93) (cs := #[.int .i64 0, .int .i64 0, .int .i64 0]) hg hbox hb); clear hg hbox hb) | ((with_reducible refine gate_store (t := 93) (p := 12) (v := .tmp 50) rfl ?_); refine Sep.own_store HO_1.out 0 gy 93 _ #[.int .i64 y0, .int .i64 y1, .int .i64 y2] rfl rfl rfl 93 (.tmp 12) (.tmp 50) rfl rfl _ rfl rfl rfl (by kernel_rfl) (by simp [Value.oneCell']) ?_; intro w_2 ho; have HO_2 := aM ho; clear ho; have z_8 : w_2.cell? ⟨gy, 0, none⟩ = some (.int .i64 y0) := (HO_2.out.cell 0 rfl 0 rfl); have z_9 : w_2.cell? ⟨gy, 1, none⟩ = some (.int .i64 y1) := (HO_2.out.cell 0 rfl 1 rfl); have z_10 : w_2.cell? ⟨gy, 2, none⟩ = some (.int .i64 y2) := (HO_2.out.cell 0 rfl 2 rfl); have z_11 : w_2.cell? ⟨gx, 0, none⟩ = some (.int .i64 i) := (HO_2.out.cell 1 rfl 0 rfl); have z_12 : w_2.cell? ⟨gx, 1, none⟩ = some (.int .i64 lo) := (HO_2.out.cell 1 rfl 1 rfl); have z_13 : w_2.cell? ⟨gx, 2, none⟩ = some (.int .i64 hh) := (HO_2.out.cell 1 rfl 2 rfl)))
      go_roundw
      case measure => simp only [intOf, hwj]; omega
      case rel => exact ⟨j + 1, by omega, by omega, by first | rfl | rw [hwj], HJ2, ⟨((((((HO_2.out.front 5 rfl).front 5 rfl).front 5 rfl).front 5 rfl).front 5 rfl).front 5 rfl).tail⟩⟩
    ·have c3b := decide_eq_false c3
     obtain rfl : j = (n2.length : Int) := by omega
     have hj_ := HJ.out; rw [Int.toNat_natCast, List.drop_length, ndAt, Nat.zero_add] at hj_; have hnn := HND.out; rw [← hj_, if_neg (Nat.lt_irrefl _)] at hnn; have HNN := aM hnn; clear hnn hj_ HJ HND; have hwl : wrap64 (1 + ((n2.length + 1 : Nat) : Int)) = 2 + (n2.length : Int) := by have := HN2.out; unfold wrap64; omega
     have z_5 : wr.cell? ⟨gd, 1, none⟩ = some (.slice A_b34 n2.length c_b34) := (HO.out.cell 1 rfl 1 rfl); have z_6 : wr.cell? ⟨gx, 0, none⟩ = some (.int .i64 i) := (HO.out.cell 0 rfl 0 rfl); have z_7 : wr.cell? ⟨gx, 1, none⟩ = some (.int .i64 lo) := (HO.out.cell 0 rfl 1 rfl); have z_8 : wr.cell? ⟨gx, 2, none⟩ = some (.int .i64 hh) := (HO.out.cell 0 rfl 2 rfl)
     go_wp2_with (first | ((with_reducible refine gate_dst (N := 61) rfl ?_); at_builtin; refine Sep.own_append k93 HO.out 2 _ (n2) 93 rfl rfl (.tmp 58) (.tmp 60) 26 (.agg #[.int .i64 0, .int .i64 0, .int .i64 0]) 24 rfl Try.underlying26 info93 rfl (by decide) (by omega) ((⟨i, lo, hh⟩ : S93)) [.int .i64 i, .int .i64 lo, .int .i64 hh] rfl rfl (k93_mkM _ _ _ _) (by have := HN2.out; omega) ?_; intro x_61 w_2 ho; obtain ⟨A_61, n_61, c_61, hn_, rfl⟩ := ho.row_seal 2 rfl; have HN_61 := aM hn_; clear hn_; have HO_2 := aM ho; clear ho) | ((with_reducible refine gate_store (t := 26) (p := 62) (v := .tmp 61) rfl ?_); refine Sep.own_store_at HO_2.out 1 gd 28 _ rfl rfl rfl 26 (.tmp 62) (.tmp 61) rfl 1 rfl (.slice A_61 n_61 c_61) rfl rfl (by kernel_rfl) rfl (by simp) ?_; intro w_3 ho; have HO_3 := aM ho; clear ho; have z_9 : w_3.cell? ⟨gd, 1, none⟩ = some (.slice A_61 n_61 c_61) := (HO_3.out.cell 1 rfl 1 rfl)))
     have hwl2 : ∀ m : Nat, m = (n2 ++ [(⟨i, lo, hh⟩ : S93)]).length → wrap64 (1 + (m : Int)) = 2 + (n2.length : Int) := by intro m hm; rw [hm, List.length_append, List.length_singleton]; exact hwl
     go_ret
     rw [HFIN.out, HNN.out]
     exact ⟨by have hq := hwl2 _ HN_61.out; first | (rw [hq]; done) | (rw [hq]; rfl), _, (((((HO_3.out.front 4 rfl).front 4 rfl).front 4 rfl).front 4 rfl).front 4 rfl).tail⟩
end
def impl_diagramOf.f (k : Nat) (a0_0 : Int) (l0_1 : List Int) : Option (Int × List (S93) × Int) := if 0 ≤ a0_0 ∧ a0_0 ≤ 4 ∧ l0_1.length = 2 ^ a0_0.toNat then some (a0_0, (ndBuild l0_1 a0_0.toNat a0_0.toNat 0 []).1, (ndBuild l0_1 a0_0.toNat a0_0.toNat 0 []).2) else none
theorem impl_diagramOf.mono : ∀ a0 a1 k, LeO (impl_diagramOf.f k a0 a1) (impl_diagramOf.f (k + 1) a0 a1) := fun _ _ _ => LeO.refl _
open Go.Proofs.Ytlnhpkjioppbiaa.Sep in
set_option maxHeartbeats 16000000 in
set_option maxRecDepth 100000 in
theorem impl_diagramOf.calls (k : Nat) (a0_0 : Int) (A0_1 : Option Addr) (c0_1 : Nat) (l0_1 : List Int) (r1 : Int) (r2 : List (S93)) (r3 : Int) (w : World) (hr0_1 : Kd.C (Kd.int .i64) w A0_1 l0_1.length l0_1) (hc0_1 : l0_1.length ≤ c0_1) (h : impl_diagramOf.f k a0_0 l0_1 = some (r1, r2, r3)) :
  Calls Try.prog 57 #[.agg #[.int .i64 a0_0, .slice A0_1 l0_1.length c0_1]] w fun e w' => ∃ v1_ : Value, e = .returned (.agg #[.int .i64 r1, v1_, .int .i64 r3]) ∧ Kd.R k93 93 w' w.heap.size (fun _ => True) v1_ r2 ∧ Below w.heap.size w w' := by
 unfold impl_diagramOf.f at h
 split at h
 ·rename_i hcc
  obtain ⟨hn0, hn4, hl⟩ := hcc; obtain ⟨n, rfl⟩ := Int.eq_ofNat_of_zero_le hn0; rw [Int.toNat_natCast] at h hl; have h2 := Option.some.inj h; clear h; have HN4 := aM (show n ≤ 4 by omega); have HVL := aM hl; have HC := aM hr0_1; clear hr0_1 hc0_1 hl hn0 hn4; have hbl := ndBuild_length l0_1 n n 0 []; generalize hB : ndBuild l0_1 n n 0 [] = rb at h2 hbl; obtain ⟨n2, rr⟩ := rb
  injection h2 with e1 e2
  injection e2 with e2 e3
  dsimp only at e1 e2 e3 hbl
  subst e1; subst e2; subst e3; have HB := aM hB; clear hB hbl
  go_enter Try.func57, Try.ntmps57
  go_wp2_with (first | ((with_reducible refine gate_dst (N := 1) rfl ?_); refine box_event ?hg (N := 1) ?hd (cs := #[.int .i64 ((n : Int)), .slice A0_1 l0_1.length c0_1]) (t := 41) ?hr ?_; (case hd => rfl); (case hg => rfl); (case hr => exact zb_); intro gt hg w_1 hbox hb; have HO_1 := aM ((Sep.Own.nil w).add_box (T := 41) (cs := #[.int .i64 ((n : Int)), .slice A0_1 l0_1.length c0_1]) hg hbox hb); clear hg hbox hb) | ((with_reducible refine gate_dst (N := 2) rfl ?_); refine box_event ?hg (N := 2) ?hd (cs := #[.int .i64 0, .slice none 0 0, .int .i64 0]) (t := 28) ?hr ?_; (case hd => rfl); (case hg => rfl); (case hr => exact zb_); intro gr hg w_2 hbox hb; have HO_2 := aM (HO_1.out.add_box (T := 28) (cs := #[.int .i64 0, .slice none 0 0, .int .i64 0]) hg hbox hb); clear hg hbox hb; have z_1 : w_2.cell? ⟨gt, 0, none⟩ = some (.int .i64 ((n : Int))) := (HO_2.out.cell 1 rfl 0 rfl)) | ((with_reducible refine gate_dst (N := 3) rfl ?_); refine box_event ?hg (N := 3) ?hd (cs := #[.int .i64 0, .slice none 0 0, .int .i64 0]) (t := 28) ?hr ?_; (case hd => rfl); (case hg => rfl); (case hr => exact zb_); intro gd hg w_3 hbox hb; have HO_3 := aM (HO_2.out.add_box (T := 28) (cs := #[.int .i64 0, .slice none 0 0, .int .i64 0]) hg hbox hb); clear hg hbox hb) | ((with_reducible refine gate_store (t := 28) (p := 3) (v := .tmp 7) rfl ?_); refine Sep.own_store HO_3.out 0 gd 28 _ #[.int .i64 ((n : Int)), .slice none 0 0, .int .i64 0] rfl rfl rfl 28 (.tmp 3) (.tmp 7) rfl rfl _ rfl rfl rfl (by kernel_rfl) (by simp [Value.oneCell']) ?_; intro w_4 ho; have HO_4 := aM ho; clear ho) | ((with_reducible refine gate_dst (N := 4) rfl ?_); refine box_event ?hg (N := 4) ?hd (cs := #[.nilFunc]) (t := 89) ?hr ?_; (case hd => rfl); (case hg => rfl); (case hr => exact zb_); intro gv hg w_5 hbox hb; have HO_5 := aM (HO_4.out.add_box (T := 89) (cs := #[.nilFunc]) hg hbox hb); clear hg hbox hb) | ((with_reducible refine gate_store (t := 89) (p := 4) (v := .tmp 8) rfl ?_); refine Sep.own_store HO_5.out 0 gv 89 _ #[.func (.func 109) #[] #[.pointer (some ⟨gt, 0, none⟩), .pointer (some ⟨gv, 0, none⟩), .pointer (some ⟨gd, 0, none⟩)]] rfl rfl rfl 89 (.tmp 4) (.tmp 8) rfl rfl (.func (.func 109) #[] #[.pointer (some ⟨gt, 0, none⟩), .pointer (some ⟨gv, 0, none⟩), .pointer (some ⟨gd, 0, none⟩)]) rfl rfl rfl (by kernel_rfl) (by simp [Value.oneCell']) ?_; intro w_6 ho; have HO_6 := aM ho; clear ho; have z_2 : w_6.cell? ⟨gv, 0, none⟩ = some (.func (.func 109) #[] #[.pointer (some ⟨gt, 0, none⟩), .pointer (some ⟨gv, 0, none⟩), .pointer (some ⟨gd, 0, none⟩)]) := (HO_6.out.cell 0 rfl 0 rfl)) | ((with_reducible refine gate_dst (N := 10) rfl ?_); refine Sep.goesCL_ (some 10) rfl rfl (f := 109) (fn := Try.f109) Try.func109 (by kernel_rfl) rfl #[.int .i64 0, .int .i64 0, .pointer (some ⟨gt, 0, none⟩), .pointer (some ⟨gv, 0, none⟩), .pointer (some ⟨gd, 0, none⟩)] rfl rfl zgc_ ?_; refine (impl_diagramOf.build w gt gv gd n HN4.out l0_1 HVL.out _ _ HC.out n 0 [] 0 0 _ _ [Item.box gr 28 #[.int .i64 0, .slice none 0 0, .int .i64 0]] (Nat.le_refl _) (by simp) (by simp) rfl (by rw [List.length_nil, Nat.zero_add]; exact Nat.le_trans (Nat.pow_le_pow_right (by decide) HN4.out) (by decide)) (((((HO_6.out.nilrow k93 93).front 1 rfl).front 4 rfl).front 2 rfl).front 3 rfl)).mono ?_; rw [HB.out]; rintro e w_7 ⟨rfl, vo, ho⟩; refine ⟨_, rfl, ?_⟩; obtain ⟨A_b, c_b, rfl⟩ := ho.row_slice 1 rfl; have HO_7 := aM ho; clear ho) | ((with_reducible refine gate_store (t := 3) (p := 11) (v := .tmp 10) rfl ?_); refine Sep.own_store_at HO_7.out 0 gd 28 _ rfl rfl rfl 3 (.tmp 11) (.tmp 10) rfl 2 rfl (.int .i64 rr) rfl rfl (by kernel_rfl) rfl (by simp) ?_; intro w_8 ho; have HO_8 := aM ho; clear ho; have z_3 : w_8.cell? ⟨gd, 0, none⟩ = some (.int .i64 ((n : Int))) := (HO_8.out.cell 0 rfl 0 rfl); have z_4 : w_8.cell? ⟨gd, 1, none⟩ = some (.slice A_b n2.length c_b) := (HO_8.out.cell 0 rfl 1 rfl); have z_5 : w_8.cell? ⟨gd, 2, none⟩ = some (.int .i64 rr) := (HO_8.out.cell 0 rfl 2 rfl)) | ((with_reducible refine gate_store (t := 28) (p := 2) (v := .tmp 12) rfl ?_); refine Sep.own_store HO_8.out 4 gr 28 _ #[.int .i64 ((n : Int)), .slice A_b n2.length c_b, .int .i64 rr] rfl rfl rfl 28 (.tmp 2) (.tmp 12) rfl rfl _ rfl rfl rfl (by kernel_rfl) (by simp [Value.oneCell']) ?_; intro w_9 ho; have HO_9 := aM ho; clear ho))
  (try simp only [Exit.inBlock, Exit.then])
  refine bodyPost_ret (results_cell_row rfl _ _ gr 28 #[.int .i64 ((n : Int)), .slice A_b n2.length c_b, .int .i64 rr] (0, 0) _ rfl (HO_9.out.blk 4 rfl) Try.underlying28 rfl (by kernel_rfl)) rfl ?_
  obtain ⟨P_, hP⟩ := HO_9.out.get 1 rfl
  exact ⟨_, rfl, Kd.R_mono hP (fun _ _ => trivial), HO_9.out.base⟩
 ·cases h
end Go.Proofs.Ytlnhpkjioppbiaa.QFnExactCombineDiagrams
