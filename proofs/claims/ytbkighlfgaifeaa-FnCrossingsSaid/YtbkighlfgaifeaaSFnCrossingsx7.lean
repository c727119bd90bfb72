/- Functions of FnCrossings, each as a Lean function, with the proof that the Go code comes to its answers. -/
import Derived.Test.YtbkighlfgaifeaaSFnCrossingsx0
import Derived.Test.YtbkighlfgaifeaaSFnCrossingsx1
import Derived.Test.YtbkighlfgaifeaaSFnCrossingsx2
import Derived.Test.YtbkighlfgaifeaaSFnCrossingsx6
namespace Go.Proofs.Ytbkighlfgaifeaa.QFnCrossings
open Go.RowKit Go.Proofs.YtbkighlfgaifeaaW.PrintWords Go.Proofs.YtbkighlfgaifeaaW.PrintLast Go.Proofs.YtbkighlfgaifeaaW.PrintMore
open Go.Proofs.YtbkighlfgaifeaaW.PrintWords renaming pw_below_drewN → pN, below_drew1 → p1, below_alloc → pA
open Go.Proofs.YtbkighlfgaifeaaW.PrintWords.Kd renaming R_alloc → kA, R_drewN → kN, R_drew → kD, Q_alloc → qA, Q_drewN → qN, Q_drew → qD, C_alloc → cA, C_drewN → cN, C_drew → cD
open Go.Proofs.YtbkighlfgaifeaaW.PrintWords.Aside0 renaming mk → aM
open List renaming setIfInBounds_toArray → sI, set_cons_zero → s0, set_cons_succ → sS, map_toArray → mT, length_take → lT, length_drop → lD, map_cons → mC, map_nil → mN
open Option renaming bind_eq_some_iff → oB, bind_some → oS
attribute [local go_sem] max2_int min2_int max_two min_two max_three min_three max_four min_four
set_option maxHeartbeats 8000000
set_option maxRecDepth 100000
set_option linter.unusedVariables false
set_option linter.unusedSimpArgs false
theorem st_outS {β : Type} {d : Kd β} {e : Nat} {v : Value} {xs : List β} {w0 w w1 : World} {g : Nat} {cs : Array Value} {code : List Int} {at_ mix : Int} {L : List Sep.Item} (h : Sep.Own w0 w L) (i : Nat) (hi : L[i]? = some (Sep.Item.box g 111 cs)) (hI : IsS111 w0 w1 g code at_ mix) (hB : Below w0.heap.size w0 w1) (hK : KeepBut w w1 g none)
  (h1 : Kd.S d e w1 w.heap.size (fun _ => True) v xs) :
  ∃ vS : Value, (∃ A c, vS = .slice A code.length c ∧ Kd.C (Kd.int .u8) w0 A code.length code) ∧ Sep.Own w0 w1 (Sep.Item.rows d e v xs :: L.set i (Sep.Item.box g 111 #[vS, .int .i64 at_, .int .u64 mix])) := by
 obtain ⟨A, c, hb, hg, hC⟩ := hI
 refine ⟨.slice A code.length c, ⟨A, c, rfl, hC⟩, hB, ?_⟩
 obtain ⟨hB0, f, hf⟩ := h
 refine ⟨fun k => if k < w.heap.size then f k + 1 else 0, fun j it hj => ?_⟩
 match j with
 | 0 =>
  obtain rfl : Sep.Item.rows d e v xs = it := by simpa using hj
  refine Kd.S_mono (Kd.S_lower (Kd.S_mono (Kd.S_bound h1) (fun k hk => ?_)) hB0.size) (fun _ hk => hk)
  obtain ⟨_, hk0, _⟩ := hk
  dsimp only
  rw [if_neg (by omega)]
 | j + 1 =>
  rw [List.getElem?_cons_succ, List.getElem?_set] at hj; have hgi := (hf i _ hi).1; have hgs : g < w.heap.size := blk_lt (hf i _ hi).2.2
  split at hj
  ·rename_i hij
   subst hij
   split at hj
   ·injection hj with hj
    subst hj
    exact ⟨by dsimp only; rw [if_pos hgs, hgi], hg, hb⟩
   ·cases hj
  ·rename_i hij
   have h0 := it.bound (hf j it hj)
   refine it.mono (fun k hk => ?_) (it.step h0 (fun k hk hs => hK.2 k hs (fun e => ?_) (by simp)))
   ·dsimp only
    rw [if_pos hk.2.2, hk.1]
   ·subst e
    exact hij (hgi.symm.trans hk.1)
theorem own_endSR {β : Type} {d : Kd β} {e e2 : Nat} {v v2 : Value} {xs : List β} {ys : List Int} {w w1 : World} {L : List Sep.Item} (h : Sep.Own w w1 (Sep.Item.rows d e v xs :: Sep.Item.row (Kd.int .i64) e2 v2 ys :: L)) :
  Kd.S d e w1 w.heap.size (fun k_ => some k_ ≠ (v2 : Value).ownBlock) v xs ∧ Kd.R (Kd.int .i64) e2 w1 w.heap.size (fun _ => True) v2 ys ∧ Below w.heap.size w w1 := by
 obtain ⟨hB, f, hf⟩ := h
 have s0 := hf 0 _ rfl
 have s1 := hf 1 _ rfl
 refine ⟨Kd.S_mono s0 (fun k hk e => ?_), Kd.R_mono s1 (fun _ _ => trivial), hB⟩
 have := s1.1 k e.symm
 omega
theorem mp_take {α : Type} {d : Kd α} {w : World} {A : Option Addr} {n c m : Nat} {xs ot : List α} (h : n = xs.length ∧ n ≤ c ∧ d.C w A xs.length xs) (hot : ot = xs.take m) (hm : m ≤ xs.length) : d.C w A ot.length ot := by
 subst hot
 exact Kd.C_take h.2.2 hm
theorem mp_drop {α : Type} {d : Kd α} {w : World} {A A2 : Option Addr} {n c m : Nat} {xs od : List α} (h : n = xs.length ∧ n ≤ c ∧ d.C w A xs.length xs) (hod : od = xs.drop m) (hA : A2 = if c = m then A else A.map (·.add (m * d.sz))) (hm : m ≤ xs.length) : d.C w A2 od.length od := by
 subst hod
 subst hA
 exact Kd.C_drop h.2.2 hm (h.1 ▸ h.2.1)
def dmLoop (code : List Int) : Nat → List Int → Int → Int → Option (List Int × Int × Int)
 | 0, o, a, m => some (o, a, m)
 | d + 1, o, a, m => (spec_l1Cur_pick.f code a m (wrap64 ((o.length : Int) + 1))).bind fun k => if 0 ≤ k.1 ∧ k.1 ≤ (o.length : Int) then dmLoop code d (o.take k.1.toNat ++ [(o.length : Int)] ++ o.drop k.1.toNat) k.2.1 k.2.2 else none
def dmEnd (code : List Int) (o : List Int) (a m : Int) : Option (List Int × Int × Int) :=
 if 0 < (o.length : Int) then ((spec_l1Cur_one.f code a m 12).bind fun b => if b.1 = true then ((spec_l1Cur_among.f code b.2.1 b.2.2 [-1, 0, wrap64 ((o.length : Int) - 1), (o.length : Int)]).bind fun z => some (o.set 0 z.1, z.2.1, z.2.2)) else some (o, b.2.1, b.2.2)) else some (o, a, m)
def spec_DrawMovePoints.f (s0_0 : List Int) : Option (List (List Int) × Int × List Int) :=
 (spec_l1Cur_levelWires.f s0_0 0 0).bind fun l => if l.2.1 ≤ 1000 then ((dmLoop s0_0 l.2.1.toNat [] l.2.2.1 l.2.2.2).bind fun o => (dmEnd s0_0 o.1 o.2.1 o.2.2).bind fun z => some (l.1, l.2.1, z.1)) else none
open Go.Proofs.Ytbkighlfgaifeaa.Sep in
set_option maxHeartbeats 32000000 in
set_option maxRecDepth 100000 in
theorem spec_DrawMovePoints.calls (A0 : Option Addr) (c0 : Nat) (s0_0 : List Int) (r1 : List (List Int)) (r2 : Int) (r3 : List Int) (w0 : World) (hr0 : Kd.C (Kd.int .u8) w0 A0 s0_0.length s0_0) (hc0 : s0_0.length ≤ c0) (h : spec_DrawMovePoints.f s0_0 = some (r1, r2, r3)) :
  Calls Try.prog 66 #[.slice A0 s0_0.length c0] w0 fun e w' => ∃ v0_ v2_ : Value, e = .returned (.tuple #[v0_, .int .i64 r2, v2_]) ∧ Kd.S (Kd.slice 3 (Kd.int .i64)) 24 w' w0.heap.size (fun k_ => some k_ ≠ (v2_ : Value).ownBlock) v0_ r1 ∧ Kd.R (Kd.int .i64) 3 w' w0.heap.size (fun _ => True) v2_ r3 ∧ Below w0.heap.size w0 w' := by
 have HS_0 := aM (show ∃ A c, Value.slice A0 s0_0.length c0 = .slice A s0_0.length c ∧ Kd.C (Kd.int .u8) w0 A s0_0.length s0_0 from ⟨A0, c0, rfl, hr0⟩)
 clear hr0 hc0
 unfold spec_DrawMovePoints.f at h
 obtain ⟨⟨l9, mm, a9, m9⟩, e9, h_⟩ := oB.mp h
 clear h
 have h := h_
 clear h_
 have HP9 := aM e9
 clear e9
 dsimp only at h
 split at h
 ·rename_i hn1
  have HN1 := aM hn1; clear hn1; obtain ⟨⟨q118, a118, m118⟩, e118, h_⟩ := oB.mp h; clear h; have h := h_; clear h_; have HP118 := aM e118; clear e118
  dsimp only at h
  obtain ⟨⟨q119, a119, m119⟩, e119, h_⟩ := oB.mp h; clear h; have h := h_; clear h_; have HP119 := aM e119; clear e119
  dsimp only at h
  injection h with h
  injection h with e_0 h
  injection h with e_1 h
  have e_2 := h; clear h; subst e_0; subst e_1; subst e_2
  go_enter Try.func66, Try.ntmps66
  go_wp2_with (first | ((with_reducible refine gate_dst (N := 13) rfl ?_); refine box_event ?hg (N := 13) ?hd (cs := #[.slice A0 s0_0.length c0, .int .i64 0, .int .u64 0]) (t := 111) ?hr ?_; (case hd => rfl); (case hg => rfl); (case hr => exact ze_); intro g hg w_1 hbox hb; have HO_1 := aM ((Sep.Own.nil w0).add_box (T := 111) (cs := #[.slice A0 s0_0.length c0, .int .i64 0, .int .u64 0]) hg hbox hb); clear hg hbox hb) | ((with_reducible refine gate_callee (f := 150) rfl ?_); refine goesL_ (some 16) rfl rfl Try.func150 (by kernel_rfl) rfl #[.pointer (some ⟨g, 0, none⟩)] rfl zh_ ?_; (refine (spec_l1Cur_levelWires.calls g s0_0 0 0 l9 mm a9 m9 w0 _ (lw_in HO_1.out 0 rfl HS_0.out) HO_1.out.base HP9.out).mono ?_); rintro e w_2 ⟨vl, rfl, hL, hI, hB, hK⟩; refine ⟨_, rfl, ?_⟩; obtain ⟨vS_9, hS, ho⟩ := st_outS HO_1.out 0 rfl hI hB hK hL; have HS_9 := aM hS; obtain ⟨Al_, ml_, cl_, hm1, rfl⟩ := ho.rows_seal 0 rfl; have HML := aM hm1; have HO_2 := aM ho; clear hI hB hK hS ho hL hm1))
  (try simp only [Act.put, sI, s0, sS])
  go_loopg [8, 9] mm.toNat (fun kq v8 v9 wr => ∃ (o : List Int) (at_ mx_ : Int) (vS_ : Value) (Ao_ : Option Addr) (mo_ co_ : Nat), v8 = .slice Ao_ mo_ co_ ∧ v9 = .int .i64 (mo_ : Int) ∧ Aside0 (dmLoop s0_0 kq o at_ mx_ = some (q118, a118, m118)) ∧ Aside0 (mo_ = o.length ∧ o.length + kq = mm.toNat) ∧ Aside0 (∃ A c, vS_ = .slice A s0_0.length c ∧ Kd.C (Kd.int .u8) w0 A s0_0.length s0_0) ∧ Aside0 (Own w0 wr (Item.rows (Kd.slice 3 (Kd.int .i64)) 24 (.slice Al_ ml_ cl_) (l9) :: Item.row (Kd.int .i64) 3 (.slice Ao_ mo_ co_) (o) :: Item.box g 111 #[vS_, .int .i64 at_, .int .u64 mx_] :: [])))
  case atStart => exact ⟨[], a9, m9, vS_9, none, 0, 0, rfl, rfl, HP118, ⟨rfl, by simp⟩, HS_9, ⟨((((HO_2.out.nilrow (Kd.int .i64) 3).front 2 rfl).front 1 rfl).front 2 rfl)⟩⟩
  case round =>
   obtain ⟨o, at_, mx_, vS_, Ao_, mo_, co_, rfl, rfl, HL, HM, HS_, HO⟩ := hrel; clear HO_2
   cases gk with
   | zero =>
    have hl := HL.out; rw [dmLoop] at hl
    injection hl with hl
    injection hl with e_0 hl
    injection hl with e_1 hl
    have e_2 := hl; clear hl; subst e_0; subst e_1; subst e_2; have c1b : decide ((mo_ : Int) < mm) = false := decide_eq_false (by have := HM.out; omega); clear HL; have hg := HP119.out; clear HP119
    unfold dmEnd at hg
    rw [← HM.out.1] at hg
    by_cases c2 : 0 < (mo_ : Int)
    ·have c2b : decide ((mo_ : Int) > 0) = true := decide_eq_true c2
     have c2c : decide (0 < (mo_ : Int)) = true := decide_eq_true c2; have c2d : decide (0 < mo_) = true := decide_eq_true (by omega); rw [if_pos c2] at hg; obtain ⟨⟨q45, a45, m45⟩, e45, h_⟩ := oB.mp hg; clear hg; have hg := h_; clear h_; have HP45 := aM e45; clear e45
     dsimp only at hg
     have HC2 := aM c2; clear c2
     cases q45 with
     | true =>
      rw [if_pos rfl] at hg; obtain ⟨⟨q55, a55, m55⟩, e55, h_⟩ := oB.mp hg; clear hg; have hg := h_; clear h_; have HP55 := aM e55; clear e55
      dsimp only at hg
      injection hg with hg
      injection hg with e_0 hg
      injection hg with e_1 hg
      have e_2 := hg; clear hg; subst e_0; subst e_1; subst e_2; obtain ⟨gl, c3_, hv3⟩ := Sep.own_row_form HO.out 1 rfl (by have := HM.out; have := HC2.out; omega)
      injection hv3 with ha hb hc
      subst ha; subst hc; clear hb; have p56 : ((0 : Int) < (mo_ : Int)) = True := eq_true HC2.out; have p56b : (0 < mo_) = True := eq_true (by have := HC2.out; omega)
      go_wp2_with (first | (go_at_call 139; (refine (spec_l1Cur_one.calls g s0_0 at_ mx_ 12 true a45 m45 w0 _ (lw_in HO.out 2 rfl HS_.out) HO.out.base HP45.out).mono ?_); rintro e w_1 ⟨rfl, hI, hB, hK⟩; obtain ⟨vS_45, hS, ho⟩ := lw_out HO.out 2 rfl hI hB hK; have HS_45 := aM hS; have HO_1 := aM ho; clear hI hB hK hS ho) | ((with_reducible refine gate_dst (N := 54) rfl ?_); refine Sep.own_litN (Value.int .i64) (h1 := fun _ => rfl) HO_1.out 3 [-1, 0, wrap64 (((mo_ : Int)) - 1), (mo_ : Int)] 4 rfl [.int .i64 (-1), .int .i64 0, .int .i64 (wrap64 (((mo_ : Int)) - 1)), .int .i64 ((mo_ : Int))] rfl (by decide) ?hg (N := 54) ?hd ?hr ?_; (case hd => rfl); (case hg => rfl); (case hr => exact ze_); intro x_54 w_2 ho _; obtain ⟨g_54, n_54, c_54, hn_, rfl⟩ := Sep.own_row_fseal ho 0 rfl (by simp); obtain rfl : n_54 = 4 := hn_; have HO_2 := aM ho; clear ho) | ((with_reducible refine gate_callee (f := 110) rfl ?_); refine goesL_ (some 55) rfl rfl Try.func110 (by kernel_rfl) rfl #[.pointer (some ⟨g, 0, none⟩), .slice ((some ⟨g_54, 0, none⟩)) 4 c_54] rfl zh_ ?_; (refine (spec_l1Cur_among.calls g s0_0 a45 m45 ((some ⟨g_54, 0, none⟩)) c_54 ([-1, 0, wrap64 (((mo_ : Int)) - 1), (mo_ : Int)]) q55 a55 m55 w0 _ (lw_in HO_2.out 3 rfl HS_45.out) HO_2.out.base (by exact (HO_2.out.row_reads 0 rfl).2.2) (by exact (HO_2.out.row_reads 0 rfl).2.1) (fun ad he _ => by injection he with he; subst he; exact HO_2.out.row_ne_box 0 3 (by decide) rfl rfl) HP55.out).mono ?_); rintro e w_3 ⟨rfl, hI, hB, hK⟩; refine ⟨_, rfl, ?_⟩; obtain ⟨vS_55, hS, ho⟩ := lw_out HO_2.out 3 rfl hI hB hK; have HS_55 := aM hS; have HO_3 := aM ho; clear hI hB hK hS ho) | ((with_reducible refine gate_store (t := 3) (p := 56) (v := .tmp 55) rfl ?_); refine Sep.own_put_ev (0 : Int) HO_3.out 2 rfl 0 q55 (by decide) (by have := HM.out; have := HC2.out; omega) rfl rfl 3 (.tmp 56) (.tmp 55) rfl rfl rfl rfl (by kernel_rfl) ?_; intro w_4 ho; have HO_4 := aM ho; clear ho))
      obtain ⟨h1_, h2_, h3_⟩ := own_endSR (((((HO_4.out.front 2 rfl).front 2 rfl).front 3 rfl).front 3 rfl).tail.tail); have HR_ := aM h1_; have HX_ := aM h2_; have HB_ := aM h3_; clear h1_ h2_ h3_
      go_ret3
      exact ⟨_, _, rfl, HR_.out, HX_.out, HB_.out⟩
     | false =>
      rw [if_neg (by decide)] at hg
      injection hg with hg
      injection hg with e_0 hg
      injection hg with e_1 hg
      have e_2 := hg; clear hg; subst e_0; subst e_1; subst e_2
      go_wp2_with (first | (go_at_call 139; (refine (spec_l1Cur_one.calls g s0_0 at_ mx_ 12 false a45 m45 w0 _ (lw_in HO.out 2 rfl HS_.out) HO.out.base HP45.out).mono ?_); rintro e w_1 ⟨rfl, hI, hB, hK⟩; obtain ⟨vS_45, hS, ho⟩ := lw_out HO.out 2 rfl hI hB hK; have HS_45 := aM hS; have HO_1 := aM ho; clear hI hB hK hS ho))
      obtain ⟨h1_, h2_, h3_⟩ := own_endSR ((((HO_1.out.front 1 rfl).front 1 rfl).front 2 rfl).tail); have HR_ := aM h1_; have HX_ := aM h2_; have HB_ := aM h3_; clear h1_ h2_ h3_
      go_ret3
      exact ⟨_, _, rfl, HR_.out, HX_.out, HB_.out⟩
    ·have c2b : decide ((mo_ : Int) > 0) = false := decide_eq_false c2
     have c2c : decide (0 < (mo_ : Int)) = false := decide_eq_false c2; have c2d : decide (0 < mo_) = false := decide_eq_false (by omega); rw [if_neg c2] at hg
     injection hg with hg
     injection hg with e_0 hg
     injection hg with e_1 hg
     have e_2 := hg; clear hg; subst e_0; subst e_1; subst e_2; clear c2
     go_wp2
     obtain ⟨h1_, h2_, h3_⟩ := own_endSR ((((HO.out.front 1 rfl).front 1 rfl).front 2 rfl).tail); have HR_ := aM h1_; have HX_ := aM h2_; have HB_ := aM h3_; clear h1_ h2_ h3_
     go_ret3
     exact ⟨_, _, rfl, HR_.out, HX_.out, HB_.out⟩
   | succ k1 =>
    have c1b : decide ((mo_ : Int) < mm) = true := decide_eq_true (by have := HM.out; omega); have hl := HL.out; rw [dmLoop, ← HM.out.1] at hl; obtain ⟨⟨q28, a28, m28⟩, e28, h_⟩ := oB.mp hl; clear hl; have hl := h_; clear h_; have HP28 := aM e28; clear e28
    dsimp only at hl
    split at hl
    ·rename_i hq
     obtain ⟨hq0, hq1⟩ := hq; have HL2 := aM hl; clear hl HL; obtain ⟨ot, hot⟩ : ∃ ot, ot = o.take q28.toNat := ⟨_, rfl⟩; obtain ⟨od, hod⟩ : ∃ od, od = o.drop q28.toNat := ⟨_, rfl⟩; have hkm : q28.toNat ≤ o.length := by have := HM.out; omega
     have hol : ot.length = q28.toNat := by rw [hot, lT]; omega
     have hdl : od.length = mo_ - q28.toNat := by rw [hod, lD, ← HM.out.1]
     have hroom := (HO.out.row_reads 1 rfl).2.1; obtain ⟨i0, hi0, _, hsz, _⟩ := info_parts info3; have hcut1 := cut_to (P := Try.prog) 24 3 .i64 Try.underlying24 hi0 Ao_ mo_ co_ q28 hq0 hq1 hroom; have hcut2 := cut_from (P := Try.prog) 24 3 .i64 Try.underlying24 hi0 1 hsz Ao_ mo_ co_ q28 hq0 hq1; obtain ⟨Ad_, hAd⟩ : ∃ A1, A1 = (if co_ = q28.toNat then Ao_ else (Ao_ : Option Addr).map (·.add (q28.toNat * 1))) := ⟨_, rfl⟩; obtain ⟨cd_, hcd⟩ : ∃ c1, c1 = co_ - q28.toNat := ⟨_, rfl⟩; rw [← hol] at hcut1; rw [← hdl, ← hAd, ← hcd] at hcut2; have HOT := aM hot; have HOD := aM hod; have HKM := aM hkm; have HAD := aM hAd; have HOL := aM (show ot.length + od.length = mo_ from by have := HM.out; omega); have HTC := aM (show ot.length ≤ co_ from by omega); have HTL := aM (show ot.length ≤ 1000 from zeh_); have HDL := aM (show od.length ≤ 1000 from zeh_); clear hot hod hkm hol hdl hroom hAd hcd hi0 hsz hq0 hq1
     go_wp2_with (first | ((with_reducible refine gate_callee (f := 109) rfl ?_); refine goesL_ (some 28) rfl rfl Try.func109 (by kernel_rfl) rfl #[.pointer (some ⟨g, 0, none⟩), .int .i64 (wrap64 (((mo_ : Int)) + 1))] rfl zh_ ?_; (refine (spec_l1Cur_pick.calls g s0_0 at_ mx_ (wrap64 (((mo_ : Int)) + 1)) q28 a28 m28 w0 _ (lw_in HO.out 2 rfl HS_.out) HO.out.base HP28.out).mono ?_); rintro e w_1 ⟨rfl, hI, hB, hK⟩; refine ⟨_, rfl, ?_⟩; obtain ⟨vS_28, hS, ho⟩ := lw_out HO.out 2 rfl hI hB hK; have HS_28 := aM hS; have HO_1 := aM ho; clear hI hB hK hS ho))
     have HD_8_0 := aM (HO_1.out.drew)
     refine start_ (n := 12) (S := fun w' => True) (ds := []) #[fi,fi,fi,fi,fi,fi,fi,fi,fi,fi,fi,fi] (by kernel_rfl) rfl rfl trivial (fun hHeld => ?_)
     generalize w_1.drew = wd_8_1 at HD_8_0 ⊢
     refine pure_ (i := 0) (N := some 29) (v := ?_) (a' := ?_) #[ti,fi,fi,fi,fi,fi,fi,fi,fi,fi,fi,fi] rfl rfl (by kernel_rfl) (fun _ _ _ h => h) (Or.inl ⟨by rfl, ?_⟩) ?_ ?_; rotate_left; (· (intro w'; go_simp; with_reducible rfl)); rotate_left; (· (simp only [Act.put, sI, s0, sS, i64_w, i32_w]; rfl))
     refine pure_ (i := 1) (N := some 30) (v := ?_) (a' := ?_) #[ti,ti,fi,fi,fi,fi,fi,fi,fi,fi,fi,fi] rfl rfl (by kernel_rfl) (fun _ _ _ h => h) (Or.inl ⟨by rfl, ?_⟩) ?_ ?_; rotate_left; (· (intro w'; go_simp; with_reducible rfl)); rotate_left; (· (simp only [Act.put, sI, s0, sS, i64_w, i32_w]; rfl))
     refine pure_ (i := 2) (N := some 31) (v := ?_) (a' := ?_) #[ti,ti,ti,fi,fi,fi,fi,fi,fi,fi,fi,fi] rfl rfl (by kernel_rfl) (fun _ _ _ h => h) (Or.inl ⟨by rfl, ?_⟩) ?_ ?_; rotate_left; (· (intro w'; go_simp; with_reducible rfl)); rotate_left; (· (simp only [Act.put, sI, s0, sS, i64_w, i32_w]; rfl))
     refine pure_ (i := 4) (N := some 33) (v := ?_) (a' := ?_) #[ti,ti,ti,fi,ti,fi,fi,fi,fi,fi,fi,fi] rfl rfl (by kernel_rfl) (fun _ _ _ h => h) (Or.inl ⟨by rfl, ?_⟩) ?_ ?_; rotate_left; (· (intro w'; go_simp; with_reducible rfl)); rotate_left; (· (simp only [Act.put, sI, s0, sS, i64_w, i32_w]; rfl))
     refine pure_ (i := 7) (N := some 36) (v := ?_) (a' := ?_) #[ti,ti,ti,fi,ti,fi,fi,ti,fi,fi,fi,fi] rfl rfl (by kernel_rfl) (fun _ _ _ h => h) (Or.inl ⟨by rfl, ?_⟩) ?_ ?_; rotate_left; (· (intro w'; go_simp; with_reducible rfl)); rotate_left; (· (simp only [Act.put, sI, s0, sS, i64_w, i32_w]; rfl))
     refine pure_ (i := 8) (N := some 37) (v := ?_) (a' := ?_) #[ti,ti,ti,fi,ti,fi,fi,ti,ti,fi,fi,fi] rfl rfl (by kernel_rfl) (fun _ _ _ h => h) (Or.inl ⟨by rfl, ?_⟩) ?_ ?_; rotate_left; (· (intro w'; go_simp; with_reducible rfl)); rotate_left; (· (simp only [Act.put, sI, s0, sS, i64_w, i32_w]; rfl))
     refine pure_ (i := 9) (N := some 38) (v := ?_) (a' := ?_) #[ti,ti,ti,fi,ti,fi,fi,ti,ti,ti,fi,fi] rfl rfl (by kernel_rfl) (fun _ _ _ h => h) (Or.inl ⟨by rfl, ?_⟩) ?_ ?_; rotate_left; (· (intro w'; go_simp; with_reducible rfl)); rotate_left; (· (simp only [Act.put, sI, s0, sS, i64_w, i32_w]; rfl))
     refine join_ (σ := Value × Value) 3 #[ti,ti,ti,ti,ti,ti,fi,ti,ti,ti,fi,fi] (fun s => [(32, s.1), (34, s.2)]) (fun s w' => Own w0 w' [Item.row (Kd.int .i64) 3 (s.2) ([(mo_ : Int)]), Item.row (Kd.int .i64) 3 (s.1) (ot), Item.rows (Kd.slice 3 (Kd.int .i64)) 24 (.slice Al_ ml_ cl_) (l9), Item.row (Kd.int .i64) 3 (.slice Ao_ mo_ co_) (o), Item.box g 111 #[vS_28, .int .i64 a28, .int .u64 m28]]) ?_ ?_
     rotate_left
     ·intro hCont
      refine two_ (i := 3) (j := 5) (Ni := some 32) (Nj := some 34) #[ti,ti,ti,ti,ti,fi,fi,ti,ti,ti,fi,fi] #[ti,ti,ti,fi,ti,ti,fi,ti,ti,ti,fi,fi] rfl rfl rfl rfl (by kernel_rfl) (by decide) (by decide) (fun K hK => ?_) (fun K hK => ?_)
      ·skip
       refine goes_ Try.func151 (by kernel_rfl) rfl #[.slice Ao_ ot.length co_] (by rfl) rfl rfl zdb_ ?_
       (refine (spec_l1Own.calls Ao_ co_ ot ot _ (mp_take (HD_8_0.out.row_reads 1 rfl) HOT.out HKM.out) HTC.out (by simp only [spec_l1Own.f, oS, List.length_nil, List.nil_append]; rw [if_pos (by have := HTL.out; omega)])).mono ?_)
       rintro e w_2 ⟨x_32, rfl, hR, hb⟩
       refine ⟨_, rfl, ?_⟩
       have ho := HD_8_0.out.add_row hR hb; clear hR hb; have HO_2 := aM ho; clear ho
       refine hK.out _ _ trivial (fun hHeld => ?_)
       clear hK K
       refine norm_ (a' := ?_) ?_ ?_
       rotate_left
       ·show Act.put _ (some 32) _ = _
        simp only [Act.put, sI, s0, sS, i64_w, i32_w]
        rfl
       refine one_ (i := 5) (N := some 34) #[ti,ti,ti,ti,ti,ti,fi,ti,ti,ti,fi,fi] rfl rfl (by kernel_rfl) (by decide) (fun K hK => ?_)
       refine Sep.own_lit1_step (Value.int .i64) (h1 := fun _ => rfl) HO_2.out 3 ((mo_ : Int)) (by rfl) (N := 34) rfl ze_ ?_
       intro x_34 w_3 ho _
       have HO_3 := aM ho; clear ho
       refine hK.out _ _ trivial (fun hHeld => ?_)
       clear hK K
       refine norm_ (a' := ?_) ?_ ?_
       rotate_left
       ·show Act.put _ (some 34) _ = _
        simp only [Act.put, sI, s0, sS, i64_w, i32_w]
        rfl
       exact norm_ (by simp only [putAll, Act.put, sI, s0, sS]) (hCont (x_32, x_34) _ (((((HO_3.out.front 4 rfl).front 4 rfl).front 4 rfl).front 4 rfl).front 4 rfl))
      ·skip
       refine Sep.own_lit1_step (Value.int .i64) (h1 := fun _ => rfl) HD_8_0.out 3 ((mo_ : Int)) (by rfl) (N := 34) rfl ze_ ?_
       intro x_34 w_2 ho _
       have HO_2 := aM ho; clear ho
       refine hK.out _ _ trivial (fun hHeld => ?_)
       clear hK K
       refine norm_ (a' := ?_) ?_ ?_
       rotate_left
       ·show Act.put _ (some 34) _ = _
        simp only [Act.put, sI, s0, sS, i64_w, i32_w]
        rfl
       refine one_ (i := 3) (N := some 32) #[ti,ti,ti,ti,ti,ti,fi,ti,ti,ti,fi,fi] rfl rfl (by kernel_rfl) (by decide) (fun K hK => ?_)
       refine goes_ Try.func151 (by kernel_rfl) rfl #[.slice Ao_ ot.length co_] (by rfl) rfl rfl zdb_ ?_
       (refine (spec_l1Own.calls Ao_ co_ ot ot _ (mp_take (HO_2.out.row_reads 2 rfl) HOT.out HKM.out) HTC.out (by simp only [spec_l1Own.f, oS, List.length_nil, List.nil_append]; rw [if_pos (by have := HTL.out; omega)])).mono ?_)
       rintro e w_3 ⟨x_32, rfl, hR, hb⟩
       refine ⟨_, rfl, ?_⟩
       have ho := HO_2.out.add_row hR hb; clear hR hb; have HO_3 := aM ho; clear ho
       refine hK.out _ _ trivial (fun hHeld => ?_)
       clear hK K
       refine norm_ (a' := ?_) ?_ ?_
       rotate_left
       ·show Act.put _ (some 32) _ = _
        simp only [Act.put, sI, s0, sS, i64_w, i32_w]
        rfl
       exact norm_ (by simp only [putAll, Act.put, sI, s0, sS]) (hCont (x_32, x_34) _ (((((HO_3.out.front 4 rfl).front 4 rfl).front 4 rfl).front 3 rfl).front 4 rfl))
     rintro ⟨x_32, x_34⟩ wj_2 ho
     have hHeld := trivial; obtain ⟨A_34, c_34, rfl⟩ := ho.row_slice 0 rfl; have HOJ_2 := aM ho; clear ho
     refine norm_ (a' := ?_) ?_ ?_
     rotate_left
     ·simp only [putAll, Act.put, sI, s0, sS]
      rfl
     refine one_ (i := 6) (N := some 35) #[ti,ti,ti,ti,ti,ti,ti,ti,ti,ti,fi,fi] rfl rfl (by kernel_rfl) (by decide) (fun K hK => ?_)
     refine Sep.own_append_all_step (Value.int .i64) (0 : Int) HOJ_2.out 1 _ (ot) 3 rfl (by rfl) (.tmp 32) (.tmp 34) 24 (.int .i64 0) 8 rfl Try.underlying24 info3 rfl (by omega) ([(mo_ : Int)]) A_34 1 c_34 rfl rfl (HOJ_2.out.row_reads 0 rfl).2.2 (by have := HTL.out; simp; omega) ?_
     intro x_35 w_54 ho
     have HO_54 := aM ho; clear ho
     refine hK.out _ _ trivial (fun hHeld => ?_)
     clear hK K
     refine norm_ (a' := ?_) ?_ ?_
     rotate_left
     ·show Act.put _ (some 35) _ = _
      simp only [Act.put, sI, s0, sS, i64_w, i32_w]
      rfl
     refine one_ (i := 10) (N := some 39) #[ti,ti,ti,ti,ti,ti,ti,ti,ti,ti,ti,fi] rfl rfl (by kernel_rfl) (by decide) (fun K hK => ?_)
     refine Sep.own_append_all_step (Value.int .i64) (0 : Int) HO_54.out 1 _ ((ot) ++ ([(mo_ : Int)])) 3 rfl (by rfl) (.tmp 35) (.tmp 38) 24 (.int .i64 0) 8 rfl Try.underlying24 info3 rfl (by omega) od Ad_ od.length cd_ rfl rfl (mp_drop (HO_54.out.row_reads 3 rfl) HOD.out HAD.out HKM.out) (by have := HTL.out; have := HDL.out; simp; omega) ?_
     intro x_39 w_55 ho
     have HO_55 := aM ho; clear ho
     refine hK.out _ _ trivial (fun hHeld => ?_)
     clear hK K
     refine norm_ (a' := ?_) ?_ ?_
     rotate_left
     ·show Act.put _ (some 39) _ = _
      simp only [Act.put, sI, s0, sS, i64_w, i32_w]
      rfl
     refine pure_ (i := 11) (N := some 8) (v := ?_) (a' := ?_) #[ti,ti,ti,ti,ti,ti,ti,ti,ti,ti,ti,ti] rfl rfl (by kernel_rfl) (fun _ _ _ h => h) (Or.inl ⟨by rfl, ?_⟩) ?_ ?_; rotate_left; (· (intro w'; go_simp; with_reducible rfl)); rotate_left; (· (simp only [Act.put, sI, s0, sS, i64_w, i32_w]; rfl))
     refine done_ (by kernel_rfl) ?_
     go_wp2
     obtain ⟨A_39, n_39, c_39, hn_, rfl⟩ := HO_55.out.row_seal 1 rfl; have HN_39 := aM hn_; clear hn_
     go_roundg k1
     case measure => omega
     case rel => exact ⟨ot ++ [(mo_ : Int)] ++ od, a28, m28, vS_28, _, _, _, rfl, by rw [show wrap64 ((mo_ : Int) + 1) = (n_39 : Int) from by have h1 := HN_39.out; rw [List.length_append, List.length_append, List.length_singleton] at h1; have := HOL.out; have := HM.out; have := HN1.out; unfold wrap64; omega], ⟨by have e := HL2.out; rw [← HOT.out, ← HOD.out] at e; exact e⟩, ⟨HN_39.out, by rw [List.length_append, List.length_append, List.length_singleton]; have := HOL.out; have := HM.out; omega⟩, HS_28, ⟨(((((HO_55.out.front 4 rfl).front 2 rfl).front 3 rfl).front 4 rfl).front 4 rfl).tail.tail⟩⟩
    ·cases hl
 ·cases h
def impl_isOrder.l0 : Nat → Int → List Bool → List Int → Int → Int → Option (Bool)
 | 0, _, _, _, _, _ => none
 | k + 1, x1, x5, x14, x15, x16 => if x16 < x15 then (if 0 ≤ x16 then (if x16 < (x14.length : Int) then (if (rd x14 x16) < 0 then (some false) else (if (rd x14 x16) ≥ x1 then (some false) else (if 0 ≤ (rd x14 x16) then (if (rd x14 x16) < (x5.length : Int) then (if rdOf false x5 (rd x14 x16) = true then (some false) else (impl_isOrder.l0 k x1 (x5.set ((rd x14 x16) : Int).toNat true) x14 x15 (wrap64 (x16 + 1)))) else (none)) else (none)))) else (none)) else (none)) else (some true)
def impl_isOrder.f (k : Nat) (l0 : List Int) (a1 : Int) : Option (Bool) := if (l0.length : Int) = a1 then (if 0 ≤ a1 then (if (a1 : Int).toNat ≤ 281474976710656 then (impl_isOrder.l0 k a1 (List.replicate (a1 : Int).toNat false) l0 (l0.length : Int) 0) else (none)) else (none)) else (some false)
theorem impl_isOrder.calls (k : Nat) (A0 : Option Addr) (c0 : Nat) (l0 : List Int) (a1 : Int) (r : Bool) (w : World) (hr0 : Kd.C (Kd.int .i64) w A0 l0.length l0) (hc0 : l0.length ≤ c0) (h : impl_isOrder.f k l0 a1 = some r) :
  Calls Try.prog 152 #[.slice A0 l0.length c0, .int .i64 a1] w fun e w' => e = .returned (.bool r) ∧ Below w.heap.size w w' := by
 have HR0 := aM hr0
 have HC0 := aM hc0
 clear hr0 hc0
 have HB := aM (Below.refl w.heap.size w)
 have H : (if (l0.length : Int) = a1 then (if 0 ≤ a1 then (if (a1 : Int).toNat ≤ 281474976710656 then (impl_isOrder.l0 k a1 (List.replicate (a1 : Int).toNat false) l0 (l0.length : Int) 0) else (none)) else (none)) else (some false)) = some r := h
 clear h
 by_cases c3 : (l0.length : Int) = a1
 ·rw [if_pos c3] at H
  have c3b0 := beq_iff_eq.mpr c3; have c3b1 := bne_eq_false_iff_eq.mpr c3; clear c3
  by_cases c4 : 0 ≤ a1
  ·rw [if_pos c4] at H
   have c4b0 := eq_true c4; have c4b1 := decide_eq_true c4; clear c4
   by_cases c5 : (a1 : Int).toNat ≤ 281474976710656
   ·rw [if_pos c5] at H
    have c5b0 := eq_true c5; have c5b1 := decide_eq_true c5; clear c5; obtain ⟨y214, hy214⟩ : ∃ y_ : List Bool, y_ = (List.replicate (a1 : Int).toNat false) := ⟨_, rfl⟩; replace H : (impl_isOrder.l0 k a1 y214 l0 (l0.length : Int) 0) = some r := by first | (rw [hy214]; with_reducible exact H) | (have H2_ := (oS _ _).symm.trans H; rw [hy214]; with_reducible exact H2_) | (have H2_ := (oS _ _).symm.trans H; with_reducible exact H2_) | with_reducible exact H | (rw [hy214]; exact H) | exact H
    have Ny214 := aM hy214; clear hy214; have H' := aM H; clear H
    go_enter Try.func152, Try.ntmps152
    go_wp2_with (first | ((with_reducible refine gate_dst (N := 13) rfl ?_); refine Kd.R_make Kd.bool _ 4 rfl (N := 13) rfl 132 _ _ rfl a1 rfl rfl Try.underlying132 (.bool false) 1 info4 rfl (by decide) (by omega) false (ok := fun _ => True) (okp := fun _ => True) rfl (fun _ hk => hk) trivial (of_decide_eq_true za_) (Nat.le_trans (Nat.mul_le_mul_right _ (of_decide_eq_true za_ : a1.toNat ≤ 281474976710656)) (by omega)) (Below.refl _ _) (Nat.le_refl _) ?_; intro v215 w6 ho7 hb hg_ hnew_; clear hg_ hnew_; (first | rw [← Ny214.out] at ho7 | (simp only [Int.reduceToNat] at ho7; rw [← Ny214.out] at ho7)); have n_ := z (Kd.R_lower ho7 (below_size zc_)) <| z1 (below_step zc_ hb); clear HB; obtain ⟨HO216, HB⟩ := n_; clear hb ho7))
    go_loopg [16] k (fun kq v16 w' => ∃ (x5_1 : List Bool) (x16_1 : Int), v16 = .int .i64 x16_1 ∧ Aside0 (impl_isOrder.l0 kq a1 x5_1 l0 (l0.length : Int) x16_1 = some r) ∧ Aside0 (kq ≤ k) ∧ Aside0 (Kd.R Kd.bool 4 w' w.heap.size (fun _ => True) v215 x5_1) ∧ Aside0 (Below w.heap.size w w'))
    case atStart => exact ⟨(y214), (0), zb_, H', ⟨Nat.le_refl _⟩, ⟨zr HO216.out⟩, ⟨zc_⟩⟩
    case round =>
     clear H'; (try clear c3b0); (try clear c3b1); (try clear c4b0); (try clear c4b1); (try clear c5b0); (try clear c5b1); obtain ⟨x5_1, x16_1, rfl, HA, HK1, HO_5, HB⟩ := hrel
     cases gk with
     | zero => exact absurd HA.out (by simp [impl_isOrder.l0])
     | succ k1 =>
      have H := HA.out; clear HA
      simp only [impl_isOrder.l0] at H
      by_cases c8 : x16_1 < (l0.length : Int)
      ·rw [if_pos c8] at H
       have c8b0 := decide_eq_true c8; clear c8
       by_cases c9 : 0 ≤ x16_1
       ·rw [if_pos c9] at H
        have c9b0 := decide_eq_true c9; clear c9
        by_cases c10 : x16_1 < (l0.length : Int)
        ·rw [if_pos c10] at H
         have c10b0 := decide_eq_true c10; clear c10
         by_cases c11 : (rd l0 x16_1) < 0
         ·rw [if_pos c11] at H
          have c11b0 := decide_eq_true c11; clear c11; obtain rfl := Option.some.inj H; have p217 : 0 ≤ (x16_1 : Int) := of_decide_eq_true za_; have q217 : x16_1 < (l0.length : Int) := of_decide_eq_true za_; obtain ⟨ad217, e217, hx217_0⟩ := Kd.at_int HR0.out x16_1 p217 q217
          cases e217
          (try (replace hx217_0 := (HB.out.cell (World.block_lt_of_cell? w _ hx217_0)).trans hx217_0)); replace p217 := eq_true p217; replace q217 := eq_true q217
          go_wp2
          go_ret
          exact ⟨zg_, zc_⟩
         ·rw [if_neg c11] at H
          have c11b0 := decide_eq_false c11; clear c11
          by_cases c12 : (rd l0 x16_1) ≥ a1
          ·rw [if_pos c12] at H
           have c12b0 : decide (a1 ≤ (rd l0 x16_1)) = true := decide_eq_true c12; clear c12; obtain rfl := Option.some.inj H; have p217 : 0 ≤ (x16_1 : Int) := of_decide_eq_true za_; have q217 : x16_1 < (l0.length : Int) := of_decide_eq_true za_; obtain ⟨ad217, e217, hx217_0⟩ := Kd.at_int HR0.out x16_1 p217 q217
           cases e217
           (try (replace hx217_0 := (HB.out.cell (World.block_lt_of_cell? w _ hx217_0)).trans hx217_0)); replace p217 := eq_true p217; replace q217 := eq_true q217
           go_wp2
           go_ret
           exact ⟨zg_, zc_⟩
          ·rw [if_neg c12] at H
           have c12b0 : decide (a1 ≤ (rd l0 x16_1)) = false := decide_eq_false c12; clear c12
           by_cases c13 : 0 ≤ (rd l0 x16_1)
           ·rw [if_pos c13] at H
            have c13b0 := decide_eq_true c13; clear c13
            by_cases c14 : (rd l0 x16_1) < (x5_1.length : Int)
            ·rw [if_pos c14] at H
             have c14b0 := decide_eq_true c14; clear c14; obtain ⟨bq15, hbq15⟩ : ∃ b_ : Bool, b_ = (rdOf false x5_1 (rd l0 x16_1)) := ⟨_, rfl⟩; replace H : (if bq15 = true then (some false) else (impl_isOrder.l0 k1 a1 (x5_1.set ((rd l0 x16_1) : Int).toNat true) l0 (l0.length : Int) (wrap64 (x16_1 + 1)))) = some r := by rw [← hbq15] at H; exact H
             have Nbq15 := aM hbq15; clear hbq15
             by_cases c16 : bq15 = true
             ·subst c16
              have H1 : (some false) = some r := by rw [if_pos rfl] at H; exact H
              clear H; have H := H1; clear H1; obtain rfl := Option.some.inj H; have p217 : 0 ≤ (x16_1 : Int) := of_decide_eq_true za_; have q217 : x16_1 < (l0.length : Int) := of_decide_eq_true za_; obtain ⟨ad217, e217, hx217_0⟩ := Kd.at_int HR0.out x16_1 p217 q217
              cases e217
              (try (replace hx217_0 := (HB.out.cell (World.block_lt_of_cell? w _ hx217_0)).trans hx217_0)); replace p217 := eq_true p217; replace q217 := eq_true q217; obtain ⟨Ao17, co17, eo17⟩ := Kd.R_slice HO_5.out; subst eo17; have p218 : 0 ≤ ((rd l0 x16_1) : Int) := of_decide_eq_true za_; have q218 : (rd l0 x16_1) < (x5_1.length : Int) := of_decide_eq_true za_; obtain ⟨ad218, e218, hx218_0⟩ := Kd.at_bool (Kd.R_reads' HO_5.out).2.2 (rd l0 x16_1) p218 q218; (try rw [← Nbq15.out] at hx218_0)
              cases e218
              replace p218 := eq_true p218; replace q218 := eq_true q218
              go_wp2
              go_ret
              exact ⟨zg_, zc_⟩
             ·replace c16 := Bool.eq_false_iff.mpr c16
              subst c16; have H1 : (impl_isOrder.l0 k1 a1 (x5_1.set ((rd l0 x16_1) : Int).toNat true) l0 (l0.length : Int) (wrap64 (x16_1 + 1))) = some r := by rw [if_neg (show ¬ (false = true) by decide)] at H; exact H
              clear H; have H := H1; clear H1; obtain ⟨y219, hy219⟩ : ∃ y_ : List Bool, y_ = (x5_1.set ((rd l0 x16_1) : Int).toNat true) := ⟨_, rfl⟩; replace H : (impl_isOrder.l0 k1 a1 y219 l0 (l0.length : Int) (wrap64 (x16_1 + 1))) = some r := by first | (rw [hy219]; with_reducible exact H) | (have H2_ := (oS _ _).symm.trans H; rw [hy219]; with_reducible exact H2_) | (have H2_ := (oS _ _).symm.trans H; with_reducible exact H2_) | with_reducible exact H | (rw [hy219]; exact H) | exact H
              have Ny219 := aM hy219; clear hy219; have H' := aM H; clear H; have p217 : 0 ≤ (x16_1 : Int) := of_decide_eq_true za_; have q217 : x16_1 < (l0.length : Int) := of_decide_eq_true za_; obtain ⟨ad217, e217, hx217_0⟩ := Kd.at_int HR0.out x16_1 p217 q217
              cases e217
              (try (replace hx217_0 := (HB.out.cell (World.block_lt_of_cell? w _ hx217_0)).trans hx217_0)); replace p217 := eq_true p217; replace q217 := eq_true q217; obtain ⟨Ao19, co19, eo19⟩ := Kd.R_slice HO_5.out; subst eo19; have p218 : 0 ≤ ((rd l0 x16_1) : Int) := of_decide_eq_true za_; have q218 : (rd l0 x16_1) < (x5_1.length : Int) := of_decide_eq_true za_; obtain ⟨ad218, e218, hx218_0⟩ := Kd.at_bool (Kd.R_reads' HO_5.out).2.2 (rd l0 x16_1) p218 q218; (try rw [← Nbq15.out] at hx218_0)
              cases e218
              replace p218 := eq_true p218; replace q218 := eq_true q218; have p18 : 0 ≤ ((rd l0 x16_1) : Int) := of_decide_eq_true za_; have q18 : ((rd l0 x16_1) : Int) < ((x5_1.length : Int) : Int) := of_decide_eq_true za_; obtain ⟨go18, co18, eo18, gb18, gl18, cl18, HG18⟩ := Kd.R_form HO_5.out (by omega); (first | cases eo18 | (injection eo18 with ea_ en_ ec_; (first | subst ea_ | (injection ea_ with ea_; subst ea_)); subst ec_; clear en_)); have GB18 := aM gb18; have GG18 := aM HG18; clear gb18 gl18 HG18; (first | simp only [add_plain] at hx218_0 | skip); obtain ⟨hx18_0, hf18_0⟩ := Kd.R_celln false HO_5.out ((rd l0 x16_1) : Int) p18 q18; replace p18 := eq_true p18; replace q18 := eq_true q18; have HP20 := Kd.R_putg HO_5.out ((rd l0 x16_1) : Int) true
              go_wp2_with (first | ((with_reducible refine gate_store (t := 4) (p := 35) rfl ?_); refine store_event (t := 4) (p := 35) (v := ?vo_w21) (w1 := (wr.setCell ⟨go18, ((rd l0 x16_1) : Int).toNat, none⟩ (.bool true))) ?hg ?ho ?hn ?hr ?_; (case ho => rfl); (case hg => rfl); (case hn => rfl); (case hr => exact ze_); intro w21 hw; have hg : wr.grownBy w21 (some go18) := (by rw [hw]; exact HP20.2); have hp_ : Kd.R Kd.bool 4 w21 w.heap.size (fun _ => True) (.slice (some ⟨go18, 0, none⟩) x5_1.length co19) y219 := (by rw [hw, Ny219.out]; exact HP20.1); clear HP20; have n_ := z (hp_) <| z1 ((by rw [hw]; exact below_set (HB.out) GB18.out : Below w.heap.size w w21)); clear HO_5 HB; obtain ⟨HO_5, HB⟩ := n_; clear hg hw hp_))
              go_roundg k1
              case measure => have := HK1.out; omega
              case rel => exact ⟨(y219), (wrap64 (x16_1 + 1)), zb_, H', ⟨zbd_⟩, ⟨zr HO_5.out⟩, ⟨zc_⟩⟩
            ·rw [if_neg c14] at H
             exact absurd H (by simp)
           ·rw [if_neg c13] at H
            exact absurd H (by simp)
        ·rw [if_neg c10] at H
         exact absurd H (by simp)
       ·rw [if_neg c9] at H
        exact absurd H (by simp)
      ·rw [if_neg c8] at H
       have c8b0 := decide_eq_false c8; clear c8; obtain rfl := Option.some.inj H
       go_wp2
       go_ret
       exact ⟨zg_, zc_⟩
   ·rw [if_neg c5] at H
    exact absurd H (by simp)
  ·rw [if_neg c4] at H
   exact absurd H (by simp)
 ·rw [if_neg c3] at H
  have c3b0 := beq_eq_false_iff_ne.mpr c3; have c3b1 := bne_iff_ne.mpr c3; obtain rfl := Option.some.inj H
  go_enter Try.func152, Try.ntmps152
  go_wp2
  go_ret
  exact ⟨zg_, zc_⟩
end Go.Proofs.Ytbkighlfgaifeaa.QFnCrossings
